import Derived.Test.YtgccllbnfngpcaaGreatDoorW9
set_option linter.unusedVariables false
set_option maxRecDepth 100000
set_option maxHeartbeats 400000000
namespace Go.Proofs.YtgccllbnfngpcaaGreatDoor
open Go.RowKit _root_.Go.Proofs.Tryz List
open Value (int slice pointer bool)
open IntKind (i64)
open Ending (returned)
open Obj (cells)
def Vls(w:World)(c n:Nat)(F:Nat->Prop)(V:Nat->SC):Prop:=∃a:List Value,Blk w c 30 a.toArray/\a.length=n/\∀b,b<n->(rN (V b)).ok w F [a.getD b undef]
theorem Vls.more{w:World}{a n:Nat}{F G:Nat->Prop}{V:Nat->SC}(c:Vls w a n F V)(d:∀b,F b->G b):Vls w a n G V:=by
 obtain⟨e,f,g,h⟩:=c;exact⟨e,f,g,λi j=>(rN _).more (h i j) λb i _=>d b i⟩
theorem Vls.put{w w':World}{a n c:Nat}{F:Nat->Prop}{V:Nat->SC}{u:Value}{e:SC}(h:Vls w a n F V)(i:(rN e).ok w' F [u])(j:∀b,F b->b<w.heap.size->w'.heap[b]? =w.heap[b]?)
 (k:∀hs:Array Value,Blk w a 30 hs->Blk w' a 30 (hs.setIfInBounds c u)):Vls w' a n F (jV V c e):=by
 obtain⟨hs,l,m,o⟩:=h;refine⟨hs.set c u,by simpa using k _ l,by rw[length_set];exact m,λf p=> ?_⟩;by_cases d:f=c
 ·subst d
  rw[mG,af,List.getElem?_set,bu rfl,bu (by omega)];exact i
 ·rw[lm _ _ d,af,List.getElem?_set,bA (λg=>d g.symm),<-af]
  exact(rN _).keep (o f p) λq g r=>⟨j q g r,g⟩
def xY(V:Nat->SC)(b:Nat->SC)(k:Nat):Nat->SC:=λa=>if a<k then b a else V a
theorem Oe{V b:Nat->SC}{k:Nat}:xY V b (k+1)=jV (xY V b k) k (b k):=funext λa=>by
 show(if a<k+1 then b a else V a)=(if a=k then b k else if a<k then b a else V a);by_cases c:a=k
 ·subst c;rw[bu (by omega),bu rfl]
 ·rw[bA c]
  by_cases d:a<k
  ·rw[bu (by omega),bu d]
  ·rw[bA (by omega),bA d]
theorem Kr{V b:Nat->SC}{k:Nat}(d:V k=b k):xY V b (k+1)=xY V b k:=funext λa=>by
 show(if a<k+1 then b a else V a)=(if a<k then b a else V a);by_cases e:a=k
 ·subst e;rw[bu (by omega),bA (by omega)];exact d.symm
 ·by_cases c:a<k
  ·rw[bu (by omega),bu c]
  ·rw[bA (by omega),bA c]
theorem Qx(g J K H Z n f gw gm D cX:Nat)(aX:SE)(vR vT vD vL:Value)(F:Nat->Prop)(V W M s:Nat->SC)(X:List SC)(w:World)
 (z:SvSt w g J K H Z n f gw gm vR vT vD vL F V W M)(au:∀b,F b->b<w.heap.size)(hX:(rM X).ok w (λb=>b≠f) [slice aX D cX])(ax:X.length=D)(ay:Wf Z X)(hn:n<=64)(bt:D<=64)(bv:1<=Z)(bz:Z<=1000)
 (az:∀c,c<n->Byt D (W c)/\Byt Z (M c))(aA:∀c,c<n->(V c=[]->dW (λe=>X.getD e []) (W c) (M c) D=s c)/\(V c≠[]->V c=s c))(L:∀c,c<n->s c≠[]):
 Calls prog 239 #[pointer (some ⟨g,0,none⟩),slice aX D cX] w λr d=>r=returned (.tuple #[])/\Vls d f n (λb=>F b\/w.heap.size<=b) s/\Kept2 w d f f:=by
 have u:=ae z;have HX:=ae hX;have ao:=ae ax;have aB:=ae ay;have bB:=ae au;have ba:=ae az;have aD:=ae aA;have aE:=ae L;have p4:=z.blk.cell 4;unfold svC at p4;have b0:f<w.heap.size:=by obtain⟨hs,a1,_⟩:=z.vls;exact a1.lt
 have d:g≠f/\J≠f:=by obtain⟨hs,a1,_⟩:=z.vls;exact⟨Blk.ne z.blk a1 (by decide),Blk.ne (t:=337) z.fld a1 (by decide)⟩
 have aF:=ae d
 have aK:Sz (Vls w f n (λb=>F b\/w.heap.size<=b) (xY V s 0)):=ae (by
  have r:xY V s 0=V:=funext λc=>bA (Nat.not_lt_zero c);rw[r];exact Vls.more z.vls λb l=>.inl l)
 have aL:=ae (Kept2.refl w f f);have hq:=λW a k c=>run_neq_slice_nil (P:=prog) W 30 5 a k c underlying30;clear z hX ax ay au az aA L d;go_enter func239,ntmps239;go_wp2_with fail;clear p4;go_loopw [15] (λe wr=>∃d:Nat,d<=n/\e=int i64 d/\Sz (Vls wr f n (λb=>F b\/w.heap.size<=b) (xY V s d))/\Sz (Kept2 w wr f f)) (λe _=>n-(intOf e).toNat)
 case atStart=>exact⟨0,by omega,rfl,aK,aL⟩
 case round=>
  clear aK aL;obtain⟨d,b1,rfl,N,B⟩:=hrel;rename World=>i;by_cases q:d<n
  ·have b2:(d:Int)<(n:Int):=by omega
   have b3:=B.o.1.size;have j:∀b,b<w.heap.size->b≠f->i.heap[b]? =w.heap[b]? :=λb C h2=>B.o.2 b C h2 h2;have b5:=ae j;have v:Sz (Blk i g 292 (svC J K H Z (slice (some ⟨f,0,none⟩) n n) vR vT vD vL (slice (some ⟨gw,0,none⟩) n n) (slice (some ⟨gm,0,none⟩) n n))):=ae ((j g u.o.blk.lt aF.o.1).trans u.o.blk);have aM:Sz (Fld i J):=ae ((j J (Blk.lt (t:=337) u.o.fld) aF.o.2).trans u.o.fld);obtain⟨n1,n2,n3⟩:=u.o.ne;have m:∀b,F b->b<w.heap.size->i.heap[b]? =w.heap[b]? /\F b:=λb l q=>⟨j b q (u.o.off b l).2.1,l⟩;have aR:Sz (Hs i gw n F W):=ae (u.o.way.keep (j gw u.o.way.lt (λr=>n1 r.symm)) m);have bb:Sz (Hs i gm n F M):=ae (u.o.mor.keep (j gm u.o.mor.lt (λr=>n2 r.symm)) m);have bc:Sz ((rM X).ok i (Bl w.heap.size) [slice aX D cX]):=ae ((rM X).keep HX.o λb l q=>⟨j b q l,q⟩);obtain⟨bd,U,v2,v3⟩:=N.o;have O:=v3 d q;have eV:xY V s d d=V d:=bA (Nat.lt_irrefl d);rw[eV] at O;obtain⟨a,c,r,aS,aT,aV,aY,ap,aq⟩:=NI O;have cv:i.cell? ⟨f,d,none⟩=some (slice a (V d).length c):=(U.cell d).trans (by rw[<-r];simpa using uC (hs:=bd) (by omega));have fv:i.frozen? ⟨f,d,none⟩=false:=U.frozen d;have b6:=ae U;have p4:=v.o.cell 4;unfold svC at p4;clear j m;by_cases E:V d=[]
   ·obtain⟨rfl,rfl⟩:=ap E
    have j:(V d).length=0:=(by rw[E];rfl);rw[j] at cv;clear O aS aT aV aY ap aq r j U v2 v3 eV;obtain⟨aw,Q,dw,x,o,-,y,-⟩:=aR.o.at q;obtain⟨am,qm,dm,Y,A,aa,G,I,-⟩:=bb.o.at q;obtain⟨j,m⟩:=ba.o d q;obtain rfl:Q=D:=(by rw[o];exact j.1);obtain rfl:qm=Z:=(by rw[A];exact m.1);have R:=ae (ed (M d) _ am qm dm i G (aj _) I (by omega));have S:=v.o.cell 9;have T:=v.o.cell 10;unfold svC at S T;have be:=ae y;have BW:=ae j;have BM:=ae m;have EV:=ae E;clear y G j m o A aa I E;go_upto_region 4 with(simp only[hq]);go_wp2_with fail;refine R.o.mono ?_;rintro r w1 ⟨b7,rfl,m,o⟩;have ad:=ae o;have j:=ae m;clear m o R Y;obtain⟨av,o,A,rfl,m⟩:=OwnB.sl j.o;obtain rfl:o=qm:=(by rw[<-m];exact BM.o.1);have Y:Sz (OwnB w1 i.heap.size (slice av o A) (dW (λe=>X.getD e []) (W d) (M d) 0)):=j;have G:=(ad.o.cell (p:=⟨gw,d,none⟩) aR.o.lt).trans x;have y:=(v.o.below ad.o v.o.lt).cell 9;unfold svC at y;clear j m x S T;go_wp2_with fail;clear G y;go_loopw [42] (λe wr=>∃j:Nat,j<=Q/\e=int i64 j/\Sz (OwnB wr i.heap.size (slice av o A) (dW (λe=>X.getD e []) (W d) (M d) j))/\Sz (Below i.heap.size i wr)) (λe _=>Q-(intOf e).toNat)
    case atStart=>exact⟨0,by omega,rfl,Y,ad⟩
    case round=>
     clear Y ad;obtain⟨j,b9,rfl,R,m⟩:=hrel;rename World=>S;by_cases ag:j<Q
     ·have ca:(j:Int)<(Q:Int):=by omega
      obtain⟨bx,ox,rfl,bf,aa⟩:=(be.o.below m.o (aj _)).atB ag;have qx:=aa j ag;obtain⟨cb,cc,eX,T,-⟩:=fE bc.o ao.o;injection eX with e1 _ x;subst e1 x;obtain⟨b8,o8,a9,c9,rfl,bh,ai,I,-⟩:=T.at ag;have y:(X.getD j []).length=o/\By (X.getD j []):=aB.o.get (by rw[ao.o];exact ag);have bi:=getD_lt BW.o.2 j;rw[y.1] at ai I;have ai:=(m.o.cell (p:=⟨b8,o8+j,none⟩) bh).trans ai;have bj:=ae I;have cd:=ae y.1;have bk:=ae y.2;have G:=gD (W:=λe=>X.getD e []) (row:=W d) BM.o j (λc hc=>(aB.o.get (by rw[ao.o];omega)).1);have ak:Sz ((X.getD j []).length=(dW (λe=>X.getD e []) (W d) (M d) j).length):=ae (by rw[y.1,G.1]);have ab:Sz ((dW (λe=>X.getD e []) (W d) (M d) j).length=o):=ae G.1;have bl:Sz (By (dW (λe=>X.getD e []) (W d) (M d) j)):=ae G.2;have bo:Sz (dW (λe=>X.getD e []) (W d) (M d) (j+1)=nJ ((W d).getD j 0) (X.getD j []) (dW (λe=>X.getD e []) (W d) (M d) j)):=ae (Fx (by rw[y.1,G.1])).symm;clear aa I y T G;generalize (W d).getD j 0=t at*;generalize X.getD j []=G at*;generalize y:dW (λe=>X.getD e []) (W d) (M d) j=I at*;clear y;generalize y:dW (λe=>X.getD e []) (W d) (M d) (j+1)=yn at*;have bp:=ae y;clear y;have Y:Sz (OwnB S i.heap.size (slice av o A) (jf t G I 0)):=R;have a0:=m;clear R m;go_wp2_with fail;clear qx ai;go_loopw [52] (λe wr=>∃k:Nat,k<=o/\e=int i64 k/\Sz (OwnB wr i.heap.size (slice av o A) (jf t G I k))/\Sz (Below i.heap.size i wr)) (λe _=>o-(intOf e).toNat)
      case atStart=>exact⟨0,by omega,rfl,Y,a0⟩
      case round=>
       clear Y a0;obtain⟨k,ce,rfl,T,m⟩:=hrel;by_cases ac:k<o
       ·have cf:(k:Int)<(o:Int):=by omega
        obtain⟨bx,ox,rfl,bf,aa⟩:=(bj.o.below m.o (aj _)).atB ac;have qx:=aa k ac;have L:(jf t G I k).length=o:=(by rw[rJ ak.o (by rw[ab.o];omega)];exact ab.o);obtain⟨y,br,x,a2,bs⟩:=T.o.form (by omega);injection x with x e4 e3;clear e4;subst x e3;obtain⟨qy,fy⟩:=T.o.cell L ac;rw[rO ak.o (by rw[ab.o];exact ac)] at qy;have ar:=T.o.stored L k (I.getD k 0 ^^^ fm t (G.getD k 0));rw[rQ ak.o (by rw[ab.o];exact ac)] at ar;have a3:=getD_lt bk.o k;have a4:=getD_lt bl.o k;have p0:=(v.o.belowC m.o v.o.lt).cell 0;have a5:=ae (aM.o.belowC m.o (Blk.lt (t:=337) aM.o));clear aa L;generalize G.getD k 0=al at*;generalize I.getD k 0=a6 at*;have CM:=ae (wJ J t al bi a3 wr.drew (Blk.drew a5.o));have hz:=jq t al;generalize fm t al=a7 at*;have e1:=u8_xor_nat a6 a7 a4 hz;generalize a6 ^^^ a7=an at*;have a8:=ae ar;clear ar a3 a4 hz;unfold svC at p0;go_wp2_with fail
        go_region_with ((go_at_call 307;refine CM.o.mono ?_;rintro r w3 ⟨rfl,e,rfl⟩))
        all_goals(
         have ar:Sz (OwnB ((wr.drewN (1+e)).setCell ⟨y,k,none⟩ (.int .u8 (an:Nat))) i.heap.size (slice (some ⟨y,0,none⟩) o A) (jf t G I (k+1))):=ae a8.o.1;have a3:Sz (Below i.heap.size i ((wr.drewN (1+e)).setCell ⟨y,k,none⟩ (.int .u8 (an:Nat)))):=ae ((below_drewN m.o (1+e)).setCell (p:=⟨y,k,none⟩) a2 _);clear a8 T m a5 CM qx qy fy p0;generalize (wr.drewN (1+e)).setCell ⟨y,k,none⟩ (.int .u8 (an:Nat))=w4 at*;go_wp2_with fail;go_roundw
         case rel=>exact⟨k+1,by omega,by go_num,ar,a3⟩
         case measure=>simp[intOf];omega)
       ·obtain rfl:k=o:=by omega
        have ar:jf t G I k=yn:=(by rw[bo.o,<-ab.o];exact oK ak.o);rw[ar,<-bp.o] at T;clear ar;go_wp2_with fail;go_roundw
        case rel=>exact⟨j+1,by omega,by go_num,T,m⟩
        case measure=>simp[intOf];omega
     ·obtain rfl:j=Q:=by omega
      have G:dW (λe=>X.getD e []) (W d) (M d) j=s d:=(aD.o d q).1 EV.o;rw[G] at R;clear G
      obtain⟨y,br,x,a2,bs⟩:=R.o.form (by
       have:=aE.o d q;rcases hm0:s d with _ | ⟨al,k⟩
       ·exact absurd hm0 this
       ·simp)
      injection x with x e4 e3;clear e4;subst x e3;have G:f<i.heap.size:=(by omega);have ac:=(m.o.cell (p:=⟨f,d,none⟩) G).trans cv;have ai:S.frozen? ⟨f,d,none⟩=false:=(World.frozen?_of_block (w:=i) (a:=⟨f,d,none⟩) (m.o.block f G)).trans fv;have aa:=(v.o.below m.o v.o.lt).cell 4;unfold svC at aa
      have I:Sz (Vls (S.setCell ⟨f,d,none⟩ (slice (some ⟨y,0,none⟩) o A)) f n (λb=>F b\/w.heap.size<=b) (xY V s (d+1))/\Kept2 w (S.setCell ⟨f,d,none⟩ (slice (some ⟨y,0,none⟩) o A)) f f):=ae (by
       have ab:∀b,(F b\/w.heap.size<=b)->b≠f:=λb l=>by
        rcases l with l | l
        ·exact(u.o.off b l).2.1
        ·omega
       have e:∀b,b≠f->(S.setCell ⟨f,d,none⟩ (slice (some ⟨y,0,none⟩) o A)).heap[b]? =S.heap[b]? :=λb l=>bJ _ _ _ _ l;refine⟨?_,?_,?_⟩
       ·rw[Oe]
        refine Vls.put N.o ?_ (λb l q=>(e b (ab b l)).trans (m.o.block b q)) λhs T=>Blk.set (T.below m.o T.lt) d _;unfold rN;rw[bA (aE.o d q)];refine(rB _).keep (gK R.o) λb l q=>⟨e b (λr=> ?_),.inr ?_⟩
        ·have:i.heap.size<=b:=l;omega
        ·have:i.heap.size<=b:=l;omega
       ·exact(B.o.1.trans (m.o.mono (bE _))).setCell (bE _) _
       ·exact λb l C _=>(e b C).trans ((m.o.block b (by omega)).trans (B.o.2 b l C C)))
      clear R m N B;go_wp2_with fail;go_roundw
      case rel=>exact⟨d+1,by omega,by go_num,ae I.o.1,ae I.o.2⟩
      case measure=>simp[intOf];omega
   ·obtain⟨p,rfl⟩:∃p,a=some p:=by
     cases a with
     | none=>exact absurd rfl (aq E)
     | some p=>exact⟨p,rfl⟩
    have e:Sz (Vls i f n (λb=>F b\/w.heap.size<=b) (xY V s (d+1))):=ae (by
     rw[Kr ((aD.o d q).2 E)];exact N.o)
    clear O aS aT aV aY ap aq r U v2 v3 eV E N;generalize (V d).length=an at*
    go_wp2_with (simp only[hq])
    go_roundw
    case rel=>exact⟨d+1,by omega,by go_num,e,B⟩
    case measure=>simp[intOf];omega
  ·obtain rfl:d=n:=by omega
   have e:Sz (Vls i f d (λb=>F b\/w.heap.size<=b) s):=ae (by
    obtain⟨hs,C,h2,O⟩:=N.o;refine⟨hs,C,h2,λc hc=> ?_⟩;have:=O c hc;unfold xY at this
    rwa [bu hc] at this)
   go_wp2_with fail
   go_end0
   exact⟨rfl,e.o,B.o⟩
theorem Kp.alloc{w w1:World}{b c:Nat}(a:Kept2 w w1 b c)(o:Obj):Kept2 w (w1.alloc o) b c:=⟨a.1.alloc (bE _) o,λe d f g=>(Below.heap_alloc _ _ _ (aW d a.1.size)).trans (a.2 e d f g)⟩
theorem Kp.drew{w w1:World}{a b:Nat}(c:Kept2 w w1 a b):Kept2 w w1.drew a b:=⟨c.1.drew,c.2⟩
theorem Kp.s1{w w1:World}{a b:Nat}(c:Kept2 w w1 a b)(i:Nat)(v:Value):Kept2 w (w1.setCell ⟨a,i,none⟩ v) a b:=⟨c.1.setCell (bE _) v,λe f d g=>(bJ _ _ _ _ d).trans (c.2 e f d g)⟩
theorem Kp.s2{w w1:World}{b a:Nat}(c:Kept2 w w1 b a)(i:Nat)(v:Value):Kept2 w (w1.setCell ⟨a,i,none⟩ v) b a:=⟨c.1.setCell (bE _) v,λe f g d=>(bJ _ _ _ _ d).trans (c.2 e f g d)⟩
theorem Im(g G K H Z n y N I D cD T cT:Nat)(aR aD aT:SE)(vL a8 a9:Value)(F:Nat->Prop)(V:Nat->SC)(rest:List (SC×SC))(St:List (Nat×Nat))(De:SC)(w:World)
 (hg:Blk w g 292 (svC G K H Z (slice (some ⟨y,0,none⟩) n n) (slice aR N I) (slice aT T cT) (slice aD D cD) vL a8 a9))(hF:Fld w G)
 (hv:∃hs:List Value,Blk w y 30 hs.toArray/\hs.length=n/\∀c,c<n->(rN (V c)).ok w F [hs.getD c undef])
 (hR:(gq rest).ok w F [slice aR N I])(hT:(rS 2 (St.map iY)).ok w F [slice aT T cT])(ba:(rI De).ok w F [slice aD D cD])(bb:∀b,F b->b≠g/\b≠y)
 (hN:rest.length=N)(bc:St.length=T)(bd:De.length=D)(cJ:N<=1000)(cK:T<=2000)(hn:n<=64)(cL:D<=64)(cM:1<=Z)(hZ:Z<=1000)
 (hP:∀(k r c:Nat),St[k]? =some (r,c)->r<(rest.map Prod.fst).length/\c∈(rest.map Prod.fst).getD r []/\∀e∈(rest.map Prod.fst).getD r [],e≠c->e∈De\/∃k' r',k'<k/\St[k']? =some (r',e))
 (be:De.Nodup)(bf:∀c∈De,c<n)(bh:∀x∈rest,x.1.length<=1000/\(∀c∈x.1,c<n)/\Byt Z x.2):
 Calls prog 235 #[pointer (some ⟨g,0,none⟩)] w λv J=>v=returned (.tuple #[])/\∃gw gm,w.heap.size<=gw/\w.heap.size<=gm/\
  SvSt J g G K H Z n y gw gm (slice aR N I) (slice aT T cT) (slice aD D cD) vL (λb=>(F b/\b<w.heap.size)\/w.heap.size+2<=b) V (dM (rest.map Prod.fst) (λ_=>replicate D 0) (gF (eH D) De D) St) (dM (rest.map Prod.fst) (λr=>(rest.getD r ([],[])).2) (gF (λ_=>replicate Z 0) De D) St)/\
  w.heap.size+2<=J.heap.size/\(∀b,b<w.heap.size->b≠g->J.heap[b]? =w.heap[b]?)/\Below 0 w J:=by
 have bi:∀w:World,(Instr.makeSlice 45 (int i64 (n:Int)) (int i64 (n:Int))).run prog w=.ok (slice (some ⟨w.heap.size,0,none⟩) n n) (w.alloc (cells (replicate n (Value.slice none 0 0)).toArray 30)):=λw=>Dy (by omega) w;have bj:∀w:World,(Instr.makeSlice 30 (int i64 (D:Int)) (int i64 (D:Int))).run prog w=.ok (slice (some ⟨w.heap.size,0,none⟩) D D) (w.alloc (cells (bO (replicate D 0)) 5)):=λw=>eQ (n:=D) (by omega) w;have cq:∀w:World,(Instr.makeSlice 30 (int i64 (Z:Int)) (int i64 (Z:Int))).run prog w=.ok (slice (some ⟨w.heap.size,0,none⟩) Z Z) (w.alloc (cells (bO (replicate Z 0)) 5)):=λw=>eQ (n:=Z) (by omega) w;have HG:=ae hg;have HF:=ae hF;have HV:=ae hv;have HR:=ae hR;have HT:=ae hT;have bk:=ae ba;have aA:=ae bb;have HN:=ae hN;have aB:=ae bc;have ag:=ae bd;have HP:=ae hP;have bo:=ae be;have cr:=ae bf;have HC:=ae bh;have cN:=hg.lt
 have d:∀l,Below w.heap.size w l->(l.cell? ⟨g,4,none⟩=some (slice (some ⟨y,0,none⟩) n n))/\(l.cell? ⟨g,9,none⟩=some a8)/\(l.cell? ⟨g,10,none⟩=some a9)/\l.frozen? ⟨g,9,none⟩=false/\l.frozen? ⟨g,10,none⟩=false:=λl L=>by
  have h:=hg.below L hg.lt;exact⟨h.cell 4,h.cell 9,h.cell 10,h.frozen 9,h.frozen 10⟩
 have ac:=ae d;have p7:=hg.cell 7;unfold svC at p7;clear hg hF hv hR hT ba bb hN bc bd hP be bf bh d;go_enter func235,ntmps235;go_upto_region 1 with fail;go_cut [] (λt=>∃gw gm,Sz (w.heap.size<=gw/\w.heap.size<=gm)/\Sz (SvSt t g G K H Z n y gw gm (slice aR N I) (slice aT T cT) (slice aD D cD) vL (λb=>(F b/\b<w.heap.size)\/w.heap.size+2<=b) V (λ_=>[]) (λ_=>[]))/\Sz (t.heap.size=w.heap.size+2/\(∀b,b<w.heap.size->b≠g->t.heap[b]? =w.heap[b]?)/\Below 0 w t))
 case first=>
  clear p7;generalize d:(replicate n (Value.slice none 0 0)).toArray=j at*;have m:=ae d;clear d;obtain⟨o,q,d⟩:=rY w j j 30 30;have P:=ae o;have Q:=ae q;have R:=ae d;clear o q;obtain⟨S,U,W,aa,ab⟩:=ac.o w (aC _ _);obtain⟨ad,ai,ak,an,ao⟩:=ac.o w.drew (below_drewN (aC _ _) 1);obtain⟨ap,aq,ar,au,av⟩:=ac.o _ ((aC w.heap.size w).alloc (aj _) (.cells j 30));obtain⟨o,q,s,u,A⟩:=ac.o _ (below_drewN ((aC w.heap.size w).alloc (aj _) (.cells j 30)) 1);obtain⟨az,aE,aF,aK,aL⟩:=ac.o _ d;obtain⟨B,C,E,M,O⟩:=ac.o _ (below_drewN d 1);change (World.drew _).cell? _=_ at o B q C s E;change (World.drew _).frozen? _=_ at u M A O;clear d;go_region_law (simp only[bi])
  all_goals(
   go_wp2_with fail;go_meet
   first
   | (have d:=SvSt.begin2 (gw:=w.heap.size) (gm:=w.heap.size+1) m.o HG.o HF.o HV.o aA.o (.inl ⟨rfl,rfl⟩) rfl
      exact⟨w.heap.size,w.heap.size+1,ae d.1,ae (d.2.1.new (below_drewN (aC _ _) 1)),ae ⟨d.2.2.1,d.2.2.2.1,d.2.2.2.2.drew⟩⟩)
   | (have d:=SvSt.begin2 (gw:=w.heap.size+1) (gm:=w.heap.size) m.o HG.o HF.o HV.o aA.o (.inr ⟨rfl,rfl⟩) rfl
      exact⟨w.heap.size+1,w.heap.size,ae d.1,ae (d.2.1.new (below_drewN (aC _ _) 1)),ae ⟨d.2.2.1,d.2.2.2.1,d.2.2.2.2.drew⟩⟩))
 case rest=>
  clear bi p7;obtain⟨gw,gm,bp,j,aE⟩:=hcut;have cO:=aE.o.1;have ai:Sz (SvSt wc g G K H Z n y gw gm (slice aR N I) (slice aT T cT) (slice aD D cD) vL (λb=>(F b/\b<w.heap.size)\/w.heap.size+2<=b) V (gF (eH D) De 0) (gF (λ_=>replicate Z 0) De 0)):=j;have d:∀b,F b->b<w.heap.size->wc.heap[b]? =w.heap[b]? /\((b≠gw/\b≠gm)/\b<wc.heap.size):=λb q aa=>⟨aE.o.2.1 b aa (aA.o b q).1,by have:=bp.o;omega,by omega⟩;have br:=ae ((gq rest).keep HR.o d);have bt:=ae ((rS 2 (St.map iY)).keep HT.o d);have cs:=ae ((rI De).keep bk.o d);have bv:Sz (Kept2 wc wc gw gm):=ae (Kept2.refl _ _ _);have p7:=ai.o.blk.cell 7;unfold svC at p7;clear j d HR HT bk HG HV ac;go_wp2_with fail;clear p7;go_loopw [42] (λi wr=>∃k:Nat,k<=D/\i=int i64 k/\Sz (SvSt wr g G K H Z n y gw gm (slice aR N I) (slice aT T cT) (slice aD D cD) vL (λb=>(F b/\b<w.heap.size)\/w.heap.size+2<=b) V (gF (eH D) De k) (gF (λ_=>replicate Z 0) De k))/\Sz (Kept2 wc wr gw gm)) (λi _=>D-(intOf i).toNat)
  case atStart=>exact⟨0,by omega,rfl,ai,bv⟩
  case round=>
   clear ai bv;obtain⟨k,cP,rfl,j,M⟩:=hrel;have bx:=M.o.1.size;have ab:∀b,((b≠gw/\b≠gm)/\b<wc.heap.size)->b<wc.heap.size->wr.heap[b]? =wc.heap[b]? /\((b≠gw/\b≠gm)/\b<wc.heap.size):=λb q aa=>⟨M.o.2 b aa q.1.1 q.1.2,q⟩;have aF:=ae ((gq rest).keep br.o ab);have aK:=ae ((rS 2 (St.map iY)).keep bt.o ab);have bz:=ae ((rI De).keep cs.o ab);clear ab;by_cases aa:k<D
   ·have ct:(k:Int)<(D:Int):=by omega
    have d:k<De.length:=(by rw[ag.o];exact aa);obtain⟨al,cl,el,m,-⟩:=dY bz.o ag.o;injection el with B _ e2;subst B e2;obtain⟨bl,ol,rfl,b0,b3⟩:=ji m aa;have ad:De.getD k 0<n:=cr.o _ (by rw[af,ah d];exact aQ _);have aM:Sz (gF (eH D) De (k+1)=jV (gF (eH D) De k) (De.getD k 0) (eH D k)/\gF (λ_=>replicate Z 0) De (k+1)=jV (gF (λ_=>replicate Z 0) De k) (De.getD k 0) (replicate Z 0)):=ae ⟨rfl,rfl⟩;clear m d;generalize De.getD k 0=c at*;have b5:(c:Int)<(n:Int):=(by omega);generalize wr=d at*;have aq:∀O,Below d.heap.size d ((d.alloc (cells (bO (replicate D 0)) 5)).drewN O):=λO=>below_drewN ((aC d.heap.size d).alloc (aj _) _) O;have m:∀O,Below d.heap.size d ((d.alloc (cells (bO (replicate Z 0)) 5)).drewN O):=λO=>below_drewN ((aC d.heap.size d).alloc (aj _) _) O;have A:=ae aq;have E:=ae m;clear aq m;go_upto_region 5 with fail;go_cut [] (λt=>∃m u,Sz ((d.heap.size<=m/\d.heap.size<=u/\m≠u)/\Blk t m 5 (bO (replicate D 0))/\Blk t u 5 (bO (replicate Z 0))/\Below 0 d t/\(∀b,b<d.heap.size->b≠gw->b≠gm->t.heap[b]? =d.heap[b]?)/\(∀hs:Array Value,Blk d gw 30 hs->Blk t gw 30 (hs.setIfInBounds c (slice (some ⟨m,0,none⟩) D D)))/\(∀hs:Array Value,Blk d gm 30 hs->Blk t gm 30 (hs.setIfInBounds c (slice (some ⟨u,0,none⟩) Z Z)))))
    case first=>
     obtain⟨aw,qw,dw,cw,-,-,-,-,-,-,fw⟩:=j.o.way.at ad;obtain⟨am,qm,dm,cm,-,-,-,-,-,-,aL⟩:=j.o.mor.at ad;have ak:=j.o.ne.2.2;have ap:=ae ak;have az:¬gm=gw:=λv=>ak v.symm;have an:=j.o.way.lt;have ao:=j.o.mor.lt
     have o:∀l,Below d.heap.size d l->(l.cell? ⟨g,3,none⟩=some (int i64 Z)/\l.cell? ⟨g,9,none⟩=some (slice (some ⟨gw,0,none⟩) n n)/\l.cell? ⟨g,10,none⟩=some (slice (some ⟨gm,0,none⟩) n n))/\(l.cell? ⟨gw,c,none⟩=some (slice aw qw dw)/\l.cell? ⟨gm,c,none⟩=some (slice am qm dm))/\l.frozen? ⟨gw,c,none⟩=false/\l.frozen? ⟨gm,c,none⟩=false:=λl L=>by
      have h:=j.o.blk.below L j.o.blk.lt;exact⟨⟨h.cell 3,h.cell 9,h.cell 10⟩,⟨(L.cell (p:=⟨gw,c,none⟩) an).trans cw,(L.cell (p:=⟨gm,c,none⟩) ao).trans cm⟩,(World.frozen?_of_block (w:=d) (a:=⟨gw,c,none⟩) (L.block gw an)).trans fw,(World.frozen?_of_block (w:=d) (a:=⟨gm,c,none⟩) (L.block gm ao)).trans aL⟩
     clear cw cm fw aL;generalize s:bO (replicate D 0)=Q at*;generalize C:bO (replicate Z 0)=R at*;have ar:=ae s;have au:=ae C;clear s C;have P:Below d.heap.size d ((d.alloc (.cells Q 5)).alloc (.cells R 5)):=(A.o 0).alloc (A.o 0).size (.cells R 5);have S:Below d.heap.size d ((d.alloc (.cells R 5)).alloc (.cells Q 5)):=(E.o 0).alloc (E.o 0).size (.cells Q 5);obtain⟨⟨x1,x2,x3⟩,⟨x4,x5⟩,x6,x7⟩:=o d (aC _ _);obtain⟨⟨y1,y2,y3⟩,⟨y4,y5⟩,y6,y7⟩:=o d.drew (below_drewN (aC _ _) 1);obtain⟨⟨z1,z2,z3⟩,⟨z4,z5⟩,z6,z7⟩:=o _ (A.o 0);obtain⟨⟨p1,p2,p3⟩,⟨p4,p5⟩,p6,p7⟩:=o _ (A.o 1);obtain⟨⟨q1,q2,q3⟩,⟨C,s⟩,q6,q7⟩:=o _ (E.o 0);obtain⟨⟨r1,r2,r3⟩,⟨r4,r5⟩,r6,r7⟩:=o _ (E.o 1);obtain⟨⟨s1,s2,s3⟩,⟨s4,s5⟩,s6,s7⟩:=o _ P;obtain⟨⟨t1,t2,t3⟩,⟨t4,t5⟩,t6,t7⟩:=o _ (below_drewN P 1);obtain⟨⟨u1,u2,u3⟩,⟨u4,u5⟩,u6,u7⟩:=o _ S;obtain⟨⟨v1,v2,v3⟩,⟨v4,v5⟩,v6,v7⟩:=o _ (below_drewN S 1);change (World.alloc _ _).cell? _=_ at z1 z2 z3 z4 z5 q1 q2 q3 C s s1 s2 s3 s4 s5 u1 u2 u3 u4 u5;change (World.drew _).cell? _=_ at p1 p2 p3 p4 p5 r1 r2 r3 r4 r5 t1 t2 t3 t4 t5 v1 v2 v3 v4 v5;change (World.alloc _ _).frozen? _=_ at z6 z7 q6 q7 s6 s7 u6 u7;change (World.drew _).frozen? _=_ at p6 p7 r6 r7 t6 t7 v6 v7;clear o P S
     have av:Sz (∀l,Kept2 d l gw gm->l.cell? ⟨g,3,none⟩=some (int i64 Z)/\l.cell? ⟨g,9,none⟩=some (slice (some ⟨gw,0,none⟩) n n)/\l.cell? ⟨g,10,none⟩=some (slice (some ⟨gm,0,none⟩) n n)):=ae λl L=>by
      obtain⟨a0,U,-⟩:=j.o.way.ex;obtain⟨a7,W,-⟩:=j.o.mor.ex;have h:Blk l g 292 _:=(L.2 g j.o.blk.lt (Blk.ne j.o.blk U (by decide)) (Blk.ne j.o.blk W (by decide))).trans j.o.blk;exact⟨h.cell 3,h.cell 9,h.cell 10⟩
     clear y1 y2 y3 z1 z2 z3 p1 p2 p3 q1 q2 q3 r1 r2 r3 s1 s2 s3 t1 t2 t3 u1 u2 u3 v1 v2 v3
     go_region_held3 (λl=>l.cell? ⟨g,3,none⟩=some (int i64 Z)/\l.cell? ⟨g,9,none⟩=some (slice (some ⟨gw,0,none⟩) n n)/\l.cell? ⟨g,10,none⟩=some (slice (some ⟨gm,0,none⟩) n n))
      ((refine av.o _ ?_;repeat (first | exact Kept2.refl _ _ _ | refine Kp.alloc ?_ _ | refine Kp.drew ?_ | refine Kp.s1 ?_ _ _ | refine Kp.s2 ?_ _ _)))
      (first | simp only[bj] | simp only[cq])
     all_goals(
      go_wp2_with fail;go_meet
      first
      | (obtain⟨o,S,a3,a4,P,a6⟩:=wN (c:=c) (u1:=slice (some ⟨d.heap.size,0,none⟩) D D) (u2:=slice (some ⟨d.heap.size+1,0,none⟩) Z Z) (X:=Q) (Y:=R) (tX:=5) (tY:=5) an ao ap.o rfl
         exact⟨d.heap.size,d.heap.size+1,ae ⟨⟨by omega,by omega,by omega⟩,by first | exact o | (rw[ar.o];exact o),by first | exact S | (rw[au.o];exact S),a3.drew,a4,P,a6⟩⟩)
      | (obtain⟨o,S,a3,a4,P,a6⟩:=wN (c:=c) (u1:=slice (some ⟨d.heap.size+1,0,none⟩) D D) (u2:=slice (some ⟨d.heap.size,0,none⟩) Z Z) (X:=R) (Y:=Q) (tX:=5) (tY:=5) an ao ap.o rfl
         exact⟨d.heap.size+1,d.heap.size,ae ⟨⟨by omega,by omega,by omega⟩,by first | exact S | (rw[ar.o];exact S),by first | exact o | (rw[au.o];exact o),a3.drew,a4,P,a6⟩⟩))
    case rest=>
     clear A E;obtain⟨m,u,HZ⟩:=hcut;obtain⟨⟨g1,g2,g3⟩,o,b2,ap,av,az,aS⟩:=HZ.o;have bB:=ap.size;obtain⟨aw,qw,dw,cw,-⟩:=j.o.way.at ad
     have aV:g≠gw/\g≠gm:=by
      obtain⟨a0,U,-⟩:=j.o.way.ex;obtain⟨a7,W,-⟩:=j.o.mor.ex;exact⟨Blk.ne j.o.blk U (by decide),Blk.ne j.o.blk W (by decide)⟩
     have kg:Blk wc g 292 _:=(av g j.o.blk.lt aV.1 aV.2).trans j.o.blk;have p9:=kg.cell 9;unfold svC at p9;obtain⟨b6,Q,R,-⟩:=j.o.way.ex;have aX:=az _ Q
     have b7:wc.cell? ⟨gw,c,none⟩=some (slice (some ⟨m,0,none⟩) D D):=(aX.cell c).trans (by
      rw[Array.getElem?_setIfInBounds_self,bu (by simp;omega)])
     clear Q R;have aY:=o.cell k;have b8:=o.frozen k
     have b9:wc.cell? ⟨m,k,none⟩=some (.int .u8 (0:Nat)):=aY.trans (by
      unfold bO bK;simp[aa])
     have HE:Sz (SvSt (wc.setCell ⟨m,k,none⟩ (.int .u8 1)) g G K H Z n y gw gm (slice aR N I) (slice aT T cT) (slice (some ⟨bl,ol,none⟩) D cD) vL (λb=>(F b/\b<w.heap.size)\/w.heap.size+2<=b) V (jV (gF (eH D) De k) c (eH D k)) (jV (gF (λ_=>replicate Z 0) De k) c (replicate Z 0))/\Kept2 d (wc.setCell ⟨m,k,none⟩ (.int .u8 1)) gw gm):=ae (by
      have S:∀b,b≠m->(wc.setCell ⟨m,k,none⟩ (.int .u8 1)).heap[b]? =wc.heap[b]? :=λb q=>bJ _ _ _ _ q;have an:=j.o.way.lt;have ao:=j.o.mor.lt;have ca:w.heap.size+2<=d.heap.size:=by omega
      have ar:Blk (wc.setCell ⟨m,k,none⟩ (.int .u8 1)) m 5 (bO (eH D k)):=by
       have:=o.set k (.int .u8 1)
       have v:(bO (replicate D 0)).setIfInBounds k (.int .u8 1)=bO (eH D k):=by
        unfold bO;rw[setIfInBounds_toArray];congr 1;unfold bK eH;rw[map_set];rfl
       rwa [v] at this
      have au:Blk (wc.setCell ⟨m,k,none⟩ (.int .u8 1)) u 5 (bO (replicate Z 0)):=(S u (λv=>g3 v.symm)).trans b2;refine SvSt.putG (u1:=slice (some ⟨m,0,none⟩) D D) (u2:=slice (some ⟨u,0,none⟩) Z Z) j.o ?_ ?_ ?_ ?_ ?_ ?_
      ·exact ap.setCell (bE _) _
      ·exact λb q Q R=>(S b (by omega)).trans (av b q Q R)
      ·exact λhs hh=>(S gw (by omega)).trans (az hs hh)
      ·exact λhs hh=>(S gm (by omega)).trans (aS hs hh)
      ·have:=oh (F:=λb=>(F b/\b<w.heap.size)\/w.heap.size+2<=b) ar (.inr (by omega)) (by rw[iN];unfold maxLen;omega)
       rwa [iN] at this
      ·have:=oh (F:=λb=>(F b/\b<w.heap.size)\/w.heap.size+2<=b) au (.inr (by omega)) (by rw[aJ];unfold maxLen;omega)
       rwa [aJ] at this)
     clear o b2 ap bB av az aS kg aX aY cw;go_wp2_with fail;have o:=ae HE.o.1;have ap:=ae (M.o.trans HE.o.2);rw[<-aM.o.1,<-aM.o.2] at o;go_roundw
     case rel=>exact⟨k+1,by omega,by go_num,o,ap⟩
     case measure=>simp[intOf];omega
   ·obtain rfl:k=D:=by omega
    have p6:=j.o.blk.cell 6;unfold svC at p6;have ai:Sz (SvSt wr g G K H Z n y gw gm (slice aR N I) (slice aT T cT) (slice aD k cD) vL (λb=>(F b/\b<w.heap.size)\/w.heap.size+2<=b) V (dM (rest.map Prod.fst) (λ_=>replicate k 0) (gF (eH k) De k) (St.take 0)) (dM (rest.map Prod.fst) (λr=>(rest.getD r ([],[])).2) (gF (λ_=>replicate Z 0) De k) (St.take 0))):=j;clear j aF aK bz bx;go_wp2_with fail;clear p6;have bB:=M;clear M;go_loopw [83] (λi wr=>∃m:Nat,m<=T/\i=int i64 m/\Sz (SvSt wr g G K H Z n y gw gm (slice aR N I) (slice aT T cT) (slice aD k cD) vL (λb=>(F b/\b<w.heap.size)\/w.heap.size+2<=b) V (dM (rest.map Prod.fst) (λ_=>replicate k 0) (gF (eH k) De k) (St.take m)) (dM (rest.map Prod.fst) (λr=>(rest.getD r ([],[])).2) (gF (λ_=>replicate Z 0) De k) (St.take m)))/\Sz (Kept2 wc wr gw gm)) (λi _=>T-(intOf i).toNat)
    case atStart=>exact⟨0,by omega,rfl,ai,bB⟩
    case round=>
     clear ai bB;obtain⟨m,cQ,rfl,j,M⟩:=hrel;have bx:=M.o.1.size;have ab:∀b,((b≠gw/\b≠gm)/\b<wc.heap.size)->b<wc.heap.size->wr.heap[b]? =wc.heap[b]? /\((b≠gw/\b≠gm)/\b<wc.heap.size):=λb q aa=>⟨M.o.2 b aa q.1.1 q.1.2,q⟩;have aF:=ae ((gq rest).keep br.o ab);have aK:=ae ((rS 2 (St.map iY)).keep bt.o ab);clear ab;by_cases b0:m<T
     ·have ct:(m:Int)<(T:Int):=by omega
      have o:m<St.length:=(by rw[aB.o];exact b0);obtain⟨bs,os,rfl,-,cS,az,aX⟩:=LJ aK.o aB.o b0;obtain⟨r,c,E⟩:∃r c,St.getD m (0,0)=(r,c):=⟨_,_,rfl⟩;have aV :St[m]? =some (r,c):=(by rw[<-E,af,ah o];rfl);obtain⟨hr,U,W⟩:=HP.o m r c aV;rw[aG,HN.o] at hr;rw[fH] at U W;rw[E] at az aX
      have aY:St.take (m+1)=St.take m++[(r,c)]:=by
       rw[aO o];congr 1;rw[<-E,af,ah o];rfl
      have b3:Sz (dM (rest.map Prod.fst) (λ_=>replicate k 0) (gF (eH k) De k) (St.take (m+1))=jV (dM (rest.map Prod.fst) (λ_=>replicate k 0) (gF (eH k) De k) (St.take m)) c (bZ (dM (rest.map Prod.fst) (λ_=>replicate k 0) (gF (eH k) De k) (St.take m)) ((rest.getD r ([],[])).1.filter λe=> !(e == c)) (replicate k 0))/\
       dM (rest.map Prod.fst) (λr=>(rest.getD r ([],[])).2) (gF (λ_=>replicate Z 0) De k) (St.take (m+1))=jV (dM (rest.map Prod.fst) (λr=>(rest.getD r ([],[])).2) (gF (λ_=>replicate Z 0) De k) (St.take m)) c (bZ (dM (rest.map Prod.fst) (λr=>(rest.getD r ([],[])).2) (gF (λ_=>replicate Z 0) De k) (St.take m)) ((rest.getD r ([],[])).1.filter λe=> !(e == c)) (rest.getD r ([],[])).2)):=ae (by
       rw[aY,lQ,lQ];unfold others;rw[fH];exact⟨rfl,rfl⟩)
      have a0:rest.getD r ([],[])∈rest:=(by rw[af,ah (by rw[HN.o];exact hr)];exact aQ _);obtain⟨cU,ad,S⟩:=HC.o _ a0
      have a7:∀r,r<(rest.map Prod.fst).length->Byt Z ((rest.getD r ([],[])).2):=λr h=>by
       rw[aG] at h;refine(HC.o _ ?_).2.2;rw[af,ah h];exact aQ _
      have b5:∀i,i<De.length->gF (eH k) De k (De.getD i 0)=eH k i/\gF (λ_=>replicate Z 0) De k (De.getD i 0)=replicate Z 0:=λi hi=>⟨GH bo.o k (by rw[ag.o];exact aj _) i (by rw[<-ag.o];exact hi),GH (f:=λ_=>replicate Z 0) bo.o k (by rw[ag.o];exact aj _) i (by rw[<-ag.o];exact hi)⟩
      have av:∀e∈De,Byt k (gF (eH k) De k e)/\Byt Z (gF (λ_=>replicate Z 0) De k e):=λe u=>by
       obtain⟨i,hi,rfl⟩:=bH u;have:=b5 i hi;rw[af,ah hi,Option.getD_some] at this;rw[this.1,this.2];exact⟨⟨iN _ _,pu _ _⟩,Byt.zero Z⟩
      have aM:Sz (∀e∈(rest.getD r ([],[])).1,e≠c->e<n/\Byt k (dM (rest.map Prod.fst) (λ_=>replicate k 0) (gF (eH k) De k) (St.take m) e)/\Byt Z (dM (rest.map Prod.fst) (λr=>(rest.getD r ([],[])).2) (gF (λ_=>replicate Z 0) De k) (St.take m) e)):=ae λe u aS=>by
       have b6:e∈De\/e∈(St.take m).map Prod.snd:=by
        rcases W e u aS with h | ⟨k',r',Q,R⟩
        ·exact .inl h
        ·right
         refine aZ.2 ⟨(r',e),mem_of_getElem? (i:=k') ?_,rfl⟩;rw[List.getElem?_take,bu Q];exact R
       exact⟨ad e u,Di HP.o (λ_ _=>Byt.zero k) (λe u=>(av e u).1) m (by omega) e b6,Di (z:=λr=>(rest.getD r ([],[])).2) HP.o a7 (λe u=>(av e u).2) m (by omega) e b6⟩
      have b7:c<n:=ad c U;clear b5 av a7 W U aV E aY o;obtain⟨b,E,a4,C,c4,P,s,c5,rfl,_,q,U,W,av,aY,o,a7⟩:=oF aF.o HN.o hr;obtain rfl:s=Z:=(by rw[a7];exact S.1);obtain⟨cV,cW,B,b5,-⟩:=dY av o.symm;injection B with B _ e3;subst B e3;obtain⟨cX,cY,B,b8,cu,-⟩:=eU aY S.1;injection B with B _ e3;subst B e3;have b9:=ae b5;have ca:=ae b8;have aV:=ae S;have cb:=ae o;have c0:C<=1000:=(by omega);have c1:(r:Int)<(N:Int):=(by omega);have c2:(c:Int)<(n:Int):=(by omega);clear av aY o a7 a0 b5 b8 ad S;generalize dM (rest.map Prod.fst) (λ_=>replicate k 0) (gF (eH k) De k) (St.take m)=WW at*;generalize dM (rest.map Prod.fst) (λr=>(rest.getD r ([],[])).2) (gF (λ_=>replicate s 0) De k) (St.take m)=MM at*;generalize rest.getD r ([],[])=x at*;generalize wr=d at*;go_upto_region 11 with fail;have o:=(aC d.heap.size d).alloc (aj _) (cells #[int i64 r,int i64 c] 359);have S:=Blk.new d 359 #[int i64 r,int i64 c];have cv:(d.alloc (cells #[int i64 r,int i64 c] 359)).heap.size=d.heap.size+1:=(by simp);generalize d.alloc (cells #[int i64 r,int i64 c] 359)=w6 at*;have e5:=(j.o.new o).blk.cell 5;unfold svC at e5;have i0:=S.cell 0;have e0:=(o.cell (p:=⟨b,E+r*2,none⟩) q).trans U;have B:=(o.cell (p:=⟨b,E+r*2+1,none⟩) q).trans W;have b5:=ae o;have b8:=ae S;have cA:d.heap.size<w6.heap.size:=(by omega);clear o S U W az aX;go_cut [7] (λaz t=>∃g7,az=pointer (some ⟨g7,0,none⟩)/\Sz (Blk t g7 286 #[slice a4 C c4,slice P s c5]/\Below w6.heap.size w6 t/\w6.heap.size<=g7))
      case first=>
       have o:=World.new_ne w6 ⟨g,5,none⟩ e5;have S:=World.new_ne w6 ⟨d.heap.size,0,none⟩ i0;have U:=World.new_ne w6 ⟨b,E+r*2,none⟩ e0;have W:=World.new_ne w6 ⟨b,E+r*2+1,none⟩ B;go_region_held3 (λJ=>J.cell? ⟨g,5,none⟩=some (slice (some ⟨b,E,none⟩) N I)/\J.cell? ⟨d.heap.size,0,none⟩=some (int i64 r)/\J.cell? ⟨b,E+r*2,none⟩=some (slice a4 C c4)/\J.cell? ⟨b,E+r*2+1,none⟩=some (slice P s c5)) (go_keep) (fail)
       all_goals(
        go_wp2_with fail;go_meet;exact⟨d.heap.size+1,rfl,ae ⟨by have h:=Blk.new w6 286 #[slice a4 C c4,slice P s c5];rw[cv] at h;exact h.drewN 1,below_drewN ((aC _ _).alloc (aj _) _) 1,by omega⟩⟩)
      case rest=>
       obtain⟨g7,rfl,U⟩:=hcut;obtain⟨o,S,c3⟩:=U.o;have j1:=o.cell 1;have j0:=o.cell 0;have cc:=o.lt;have c6:=S.size;have av:Sz (Below d.heap.size d wc):=ae (b5.o.trans (S.mono (by omega)));have ce:Sz (wc.cell? ⟨d.heap.size,1,none⟩=some (int i64 c)):=ae ((S.cell (p:=⟨d.heap.size,1,none⟩) cA).trans (b8.o.cell 1));have c7:=ae o;have cB:Sz (Rd wc d.heap.size P s (bK x.2)):=ae (ca.o.below av.o (aj _));have cC:Sz (Rd wc d.heap.size a4 C (bM x.1)):=ae (b9.o.below av.o (aj _));have cE:=ae (j.o.new av.o);have aX:d.heap.size<=wc.heap.size:=(by omega);have cf:d.heap.size<wc.heap.size:=(by omega);clear o S e5 i0 e0 B b5 b8 U ca b9;generalize S:wc=o at*;clear S;have CC:=ae (λ(l:World) (h:Below o.heap.size o l)=>ed x.2 _ P s c5 l (((cB.o.more aX).below h (aj _)).more h.size) (aj _) cu (by omega));have aq:∀O,Below o.heap.size o ((o.alloc (cells (bO (replicate k 0)) 5)).drewN O):=λO=>below_drewN ((aC o.heap.size o).alloc (aj _) _) O;have A:=ae aq;clear aq;go_upto_region 12 with fail;go_cut [8,9] (λv7 v8 t=>∃O S U W,v7=slice O k S/\v8=slice U s W/\Sz (OwnB t o.heap.size (slice O k S) (replicate k 0))/\Sz (OwnB t o.heap.size (slice U s W) x.2)/\Sz (∀b,(Value.slice O k S).ownBlock=some b->(Value.slice U s W).ownBlock≠some b)/\Sz (Below o.heap.size o t))
       case first=>
        have ap:Sz (∀l,Below o.heap.size o l->l.cell? ⟨g7,1,none⟩=some (slice P s c5)):=ae λl L=>(L.cell (p:=⟨g7,1,none⟩) cc).trans j1
        go_region_held3 (λJ=>J.cell? ⟨g7,1,none⟩=some (slice P s c5))
         (first | exact ap.o _ (below_drewN (aC _ _) 1) | exact ap.o _ (A.o 1) | exact ap.o _ (A.o 0) | (refine ap.o _ ?_;first | assumption | solve_by_elim))
         (first
           | simp only[]
           | (go_at_call 86
              refine(CC.o _ (by first | exact A.o 1 | exact below_drewN (aC _ _) 1)).mono ?_;rintro v J ⟨az,rfl,l,q⟩;have t:Below o.heap.size o J:=(by first | exact(A.o 1).trans (q.mono (A.o 1).size) | exact(below_drewN (aC _ _) 1).trans q);have L:∀E,Below o.heap.size o (J.alloc E):=λE=>t.alloc t.size E))
        all_goals(
         go_wp2_with fail;go_meet
         first
         | exact pE aV.o.1 (by unfold maxLen;omega) (l.base (A.o 1).size) ((Blk.drew (Blk.new o 5 (bO (replicate k 0)))).below q (by simp)) (aj _) (λv=>absurd (l.lt _ v).1 (by simp)) t
         | exact pE aV.o.1 (by unfold maxLen;omega) (gQ l ((aC _ _).alloc (aj _) _)) (Blk.new J 5 (bO (replicate k 0))) t.size (λv=>absurd (l.lt _ v).2 (Nat.lt_irrefl _)) (L _))
       case rest=>
        clear CC A;obtain⟨O,S,U,W,rfl,rfl,t,J,cg,aY⟩:=hcut;have l:=(aY.o.cell (p:=⟨g7,0,none⟩) cc).trans j0;have ci:Sz (OwnB wc o.heap.size (slice O k S) (bZ WW ((x.1.take 0).filter λe=> !(e == c)) (replicate k 0))):=t;have cj:Sz (OwnB wc o.heap.size (slice U s W) (bZ MM ((x.1.take 0).filter λe=> !(e == c)) x.2)):=J;clear t J j0 j1;go_wp2_with fail;clear l;go_loopw [103] (λi L=>∃l:Nat,l<=C/\i=int i64 l/\Sz (OwnB L o.heap.size (slice O k S) (bZ WW ((x.1.take l).filter λe=> !(e == c)) (replicate k 0)))/\Sz (OwnB L o.heap.size (slice U s W) (bZ MM ((x.1.take l).filter λe=> !(e == c)) x.2))/\Sz (Below o.heap.size o L)) (λi _=>C-(intOf i).toNat)
        case atStart=>exact⟨0,by omega,rfl,ci,cj,aY⟩
        case round=>
         clear ci cj aY;obtain⟨l,c8,rfl,t,J,L⟩:=hrel;by_cases ck:l<C
         ·have c9:(l:Int)<(C:Int):=by omega
          obtain⟨b4,o4,rfl,da,cn⟩:=ji ((cC.o.more aX).below L.o (aj _)) ck;have az:l<x.1.length:=(by rw[<-cb.o];exact ck);have a0:x.1.getD l 0∈x.1:=(by rw[af,ah az];exact aQ _);have ap:=Dj (x:=c) az;have i1:=(L.o.cell (p:=⟨d.heap.size,1,none⟩) cf).trans ce.o;by_cases u:x.1.getD l 0=c
          ·rw[bu u,append_nil] at ap
           rw[<-ap] at t J;rw[u] at cn;clear a0 ap u az;go_wp2_with fail;go_roundw
           case rel=>exact⟨l+1,by omega,by go_num,t,J,L⟩
           case measure=>simp[intOf];omega
          ·rw[bA u] at ap
           obtain⟨cF,bw,bm⟩:=aM.o _ a0 u
           have ar:Byt k (bZ WW ((x.1.take l).filter λe=> !(e == c)) (replicate k 0)):=dU (Byt.zero k) λe u=>by
            obtain⟨Q,R⟩:=mem_filter.1 u;exact(aM.o e (bI Q) (by simpa using R)).2.1
           have au:Byt s (bZ MM ((x.1.take l).filter λe=> !(e == c)) x.2):=dU aV.o λe u=>by
            obtain⟨Q,R⟩:=mem_filter.1 u;exact(aM.o e (bI Q) (by simpa using R)).2.2
           have a7:=xw g G K H s n y gw gm 1 (x.1.getD l 0) k S W O U _ _ _ _ _ V WW MM _ _ o wr cE.o L.o (by decide) cF bw bm t.o J.o ar au cg.o (by omega) (by omega);rw[vG bw.2,vG bm.2,<-zq,<-zq,<-ap] at a7;have CA:=ae a7;clear ar au bw bm az t J a0 ap a7;generalize x.1.getD l 0=e at*;have db:((e:Int) == (c:Int))=false:=(by rw[beq_eq_false_iff_ne];omega);have dc:((e:Int) != (c:Int))=true:=(by rw[bne_iff_ne];omega);go_wp2_with fail;refine CA.o.mono ?_;rintro v w4 ⟨rfl,a7,co,cp⟩;have cG:=ae a7;have cH:=ae co;have cI:=ae (L.o.trans cp);clear a7 co cp CA cn L i1;go_wp2_with fail;go_roundw
           case rel=>exact⟨l+1,by omega,by go_num,cG,cH,cI⟩
           case measure=>simp[intOf];omega
         ·obtain rfl:l=C:=by omega
          have ar:x.1.take l=x.1:=aN (by rw[cb.o];exact aj _);rw[ar] at t J;clear ar;have u:=av.o.trans (L.o.mono aX);have ap:=j.o.new u;obtain⟨aw,qw,dw,cw,-,-,-,-,-,-,fw⟩:=ap.way.at b7;obtain⟨am,qm,dm,cm,-,-,-,-,-,-,aL⟩:=ap.mor.at b7;have ak:¬gw=gm:=ap.ne.2.2;have az:¬gm=gw:=λv=>ak v.symm;have p9:=ap.blk.cell 9;have a0:=ap.blk.cell 10;unfold svC at p9 a0;have i1:=(L.o.cell (p:=⟨d.heap.size,1,none⟩) cf).trans ce.o;have an:=j.o.way.lt;have ao:=j.o.mor.lt;have co:=ae ak
          have v:Sz (SvSt (((wr.setCell ⟨gw,c,none⟩ (slice O k S)).setCell ⟨gm,c,none⟩ (slice U s W)).drew) g G K H s n y gw gm (slice (some ⟨b,E,none⟩) N I) (slice (some ⟨bs,os,none⟩) T cT) (slice aD k cD) vL (λb=>(F b/\b<w.heap.size)\/w.heap.size+2<=b) V (jV WW c (bZ WW (x.1.filter λe=> !(e == c)) (replicate k 0))) (jV MM c (bZ MM (x.1.filter λe=> !(e == c)) x.2))/\Kept2 d (((wr.setCell ⟨gw,c,none⟩ (slice O k S)).setCell ⟨gm,c,none⟩ (slice U s W)).drew) gw gm):=ae (by
           have e:∀b,b≠gw->b≠gm->(((wr.setCell ⟨gw,c,none⟩ (slice O k S)).setCell ⟨gm,c,none⟩ (slice U s W)).drew).heap[b]? =wr.heap[b]? :=λb Q R=>(bJ _ _ _ _ R).trans (bJ _ _ _ _ Q)
           have au:∀b,Fr o.heap.size b->b<wr.heap.size->(((wr.setCell ⟨gw,c,none⟩ (slice O k S)).setCell ⟨gm,c,none⟩ (slice U s W)).drew).heap[b]? =wr.heap[b]? /\((F b/\b<w.heap.size)\/w.heap.size+2<=b):=λb q _=>by
            have cp:o.heap.size<=b:=q;exact⟨e b (by omega) (by omega),.inr (by omega)⟩
           refine SvSt.putG j.o ?_ ?_ ?_ ?_ ((rB _).keep (gK t.o) au) ((rB _).keep (gK J.o) au)
           ·exact(((u.mono (bE _)).setCell (bE _) _).setCell (bE _) _).drew
           ·exact λb q Q R=>(e b Q R).trans (u.block b q)
           ·exact λhs hh=>Blk.far (p:=⟨gm,c,none⟩) (Blk.set (hh.below u hh.lt) c _) ak _
           ·exact λhs hh=>Blk.set (Blk.far (p:=⟨gw,c,none⟩) (hh.below u hh.lt) az _) c _)
          rw[<-b3.o.1,<-b3.o.2] at v;have a7:=ae (M.o.trans v.o.2);have cn:=ae v.o.1;clear v u ap t J cg L;go_upto_region 19 with fail;go_region
          all_goals(
           go_wp2_with fail;go_roundw
           case rel=>exact⟨m+1,by omega,by go_num,cn,a7⟩
           case measure=>simp[intOf];omega)
     ·obtain rfl:m=T:=by omega
      have ar:St.take m=St:=aN (by rw[aB.o];exact aj _);rw[ar] at j;clear ar;go_wp2_with fail
      go_end0
      have d:=aE.o;have e:=bp.o;exact⟨rfl,gw,gm,e.1,e.2,j.o,by omega,λb q aS=>(M.o.2 b (by omega) (by omega) (by omega)).trans (d.2.1 b q aS),d.2.2.trans M.o.1⟩
theorem Ki(g gf K H Z n gv gw gm N cR D cD L cL:Nat)(aR aD aL:SE)(vT:Value)(F:Nat->Prop)(V W M:Nat->SC)(rest:List (SC×SC))(Le:SC)(w:World)
 (hS:SvSt w g gf K H Z n gv gw gm (slice aR N cR) vT (slice aD D cD) (slice aL L cL) F V W M)
 (hR:(gq rest).ok w Any [slice aR N cR])(hL:(rI Le).ok w Any [slice aL L cL])(hN:rest.length=N)(bx:Le.length=L)(cC:N<=1000)(bz:L<=1000)(cE:D<=64)(hk:fQ K H Z=true)(hn:n=K+H)
 (bB:∀i∈Le,i<N)(b0:∀x∈rest,x.1.length<=1000/\(∀c∈x.1,c<n)/\Byt Z x.2)(b1:∀c,c<n->Byt D (W c)/\Byt Z (M c)):
 Calls prog 237 #[pointer (some ⟨g,0,none⟩)] w λj O=>∃va vb,j=returned (.tuple #[va,vb])/\
  Two O w.heap.size va (uX K H D (rest.map Prod.fst) W Le) vb (yC K H Z (rest.map Prod.fst) (λa=>(rest.getD a ([],[])).2) M Le)/\Below w.heap.size w O:=by
 have ba:=bn hk;have b2:∀w:World,(Instr.makeSlice 30 (int i64 (D:Int)) (int i64 (D:Int))).run prog w=.ok (slice (some ⟨w.heap.size,0,none⟩) D D) (w.alloc (cells (bO (replicate D 0)) 5)):=λw=>eQ (n:=D) (by omega) w;have b8:∀w:World,(Instr.makeSlice 30 (int i64 (Z:Int)) (int i64 (Z:Int))).run prog w=.ok (slice (some ⟨w.heap.size,0,none⟩) Z Z) (w.alloc (cells (bO (replicate Z 0)) 5)):=λw=>eQ (n:=Z) (by omega) w;have HS:=ae hS;have HR:=ae hR;have HL:=ae hL;have HN:=ae hN;have au:=ae bx;have b9:=ae bB;have HC:=ae b0;have ak:=ae b1;have HK:=ae hk;have ca:=ae hn;have cF:1<=Z:=by omega
 have cG:Z<=24:=by omega
 have b:=hS.blk.cell 7;have d:=hS.blk.cell 8;unfold svC at b d;have av:Sz (Two w w.heap.size (slice none 0 0) ((Le.take 0).map λa=>bZ W ((rest.map Prod.fst).getD a []) (replicate D 0)) (slice none 0 0) ((Le.take 0).map λa=>bZ M ((rest.map Prod.fst).getD a []) ((rest.getD a ([],[])).2))):=ae (Two.begin w _);have a7:=ae (aC w.heap.size w);clear hS hR hL hN bx bB b0 b1 ba hk hn;go_enter func237,ntmps237;go_wp2_with fail;clear b d;go_loopw [2,3,29] (λva vb i wr=>∃d:Nat,d<=L/\i=int i64 d/\Sz (Two wr w.heap.size va ((Le.take d).map λa=>bZ W ((rest.map Prod.fst).getD a []) (replicate D 0)) vb ((Le.take d).map λa=>bZ M ((rest.map Prod.fst).getD a []) ((rest.getD a ([],[])).2)))/\Sz (Below w.heap.size w wr)) (λ_ _ i _=>L-(intOf i).toNat)
 case atStart=>exact⟨0,by omega,rfl,av,a7⟩
 case round=>
  clear av a7;obtain⟨d,cH,rfl,k,A⟩:=hrel;obtain⟨a2,n2,c2,rfl⟩:=k.o.oa.sl;obtain⟨a3,n3,c3,rfl⟩:=k.o.ob.sl;have J:=A.o.size;by_cases aw:d<L
  ·have cb:(d:Int)<(L:Int):=by omega
   have b:d<Le.length:=(by rw[au.o];exact aw);obtain⟨al,cl,el,am,-⟩:=dY ((rI Le).new HL.o A.o) au.o;injection el with B _ P;subst B P;obtain⟨bl,ol,rfl,ct,cu⟩:=ji am aw;have hr:Le.getD d 0<N:=b9.o _ (by rw[af,ah b];exact aQ _)
   have bb:Sz ((Le.take (d+1)).map (λa=>bZ W ((rest.map Prod.fst).getD a []) (replicate D 0))=(Le.take d).map (λa=>bZ W ((rest.map Prod.fst).getD a []) (replicate D 0))++[bZ W (rest.getD (Le.getD d 0) ([],[])).1 (replicate D 0)]):=ae (by
    rw[aO b,aU,map_cons,map_nil,fH,af (l:=Le),ah b];rfl)
   have bc:Sz ((Le.take (d+1)).map (λa=>bZ M ((rest.map Prod.fst).getD a []) ((rest.getD a ([],[])).2))=(Le.take d).map (λa=>bZ M ((rest.map Prod.fst).getD a []) ((rest.getD a ([],[])).2))++[bZ M (rest.getD (Le.getD d 0) ([],[])).1 (rest.getD (Le.getD d 0) ([],[])).2]):=ae (by
    rw[aO b,aU,map_cons,map_nil,fH,af (l:=Le),ah b];rfl)
   have cc:((Le.take d).map λa=>bZ W ((rest.map Prod.fst).getD a []) (replicate D 0)).length<=100000:=(by rw[aG,aH];omega);have cd:((Le.take d).map λa=>bZ M ((rest.map Prod.fst).getD a []) ((rest.getD a ([],[])).2)).length<=100000:=(by rw[aG,aH];omega);have r:rest.getD (Le.getD d 0) ([],[])∈rest:=(by rw[af,ah (by rw[HN.o];exact hr)];exact aQ _);obtain⟨cv,aq,o⟩:=HC.o _ r;have b5:=ae ((gq rest).new HR.o A.o);obtain⟨e,f,a4,q4,c4,a5,E,c5,rfl,_,Q,a6,a9,s,t,q,u⟩:=oF b5.o HN.o hr;obtain rfl:E=Z:=(by rw[u];exact o.1);obtain⟨cw,cz,B,v,-⟩:=dY s q.symm;injection B with B _ S;subst B S;obtain⟨cA,cB,B,z,b6,-⟩:=eU t o.1;injection B with B _ S;subst B S;generalize (Le.take d).map (λa=>bZ W ((rest.map Prod.fst).getD a []) (replicate D 0))=LA at*;generalize (Le.take d).map (λa=>bZ M ((rest.map Prod.fst).getD a []) ((rest.getD a ([],[])).2))=LB at*;generalize rest.getD (Le.getD d 0) ([],[])=x at*;generalize Le.getD d 0=a at*;have cI:(a:Int)<(N:Int):=(by omega);have m:=ae (HS.o.new A.o);have p5:∀y,(wr.drewN y).cell? ⟨g,5,none⟩=some (slice (some ⟨e,f,none⟩) N cR):=λy=>m.o.blk.cell 5;have b7:=ae v;have ce:=ae z;have bd:=ae aq;have be:=ae o;have b3:=ae q;have cJ:q4<=1000:=(by omega);clear s t q u r b am v z aq o;have b:=replicate D 0;have CC:=ae (λ(W:World) (h:Below wr.heap.size wr W)=>ed x.2 _ a5 E c5 W (ce.o.below h (aj _) |>.more h.size) (aj _) b6 (by omega));have an:∀y,Below wr.heap.size wr ((wr.alloc (cells (bO (replicate D 0)) 5)).drewN y):=λy=>below_drewN ((aC wr.heap.size wr).alloc (aj _) _) y;have G:=ae an;clear b;go_upto_region 5 with fail;go_cut [7,8] (λv7 v8 wx=>∃o q r s,v7=slice o D q/\v8=slice r E s/\Sz (OwnB wx wr.heap.size (slice o D q) (replicate D 0))/\Sz (OwnB wx wr.heap.size (slice r E s) x.2)/\Sz (∀e,(Value.slice o D q).ownBlock=some e->(Value.slice r E s).ownBlock≠some e)/\Sz (Below wr.heap.size wr wx))
   case first=>
    have b:Sz (∀W,Below wr.heap.size wr W->W.cell? ⟨g,5,none⟩=some (slice (some ⟨e,f,none⟩) N cR)/\W.cell? ⟨e,f+a*2+1,none⟩=some (slice a5 E c5)):=ae λW hW=>⟨(hW.cell (p:=⟨g,5,none⟩) m.o.blk.lt).trans (m.o.blk.cell 5),(hW.cell (p:=⟨e,f+a*2+1,none⟩) Q).trans a9⟩;obtain⟨f1,f2⟩:=b.o wr (aC _ _);clear a6 a9 p5 an
    go_region_held3 (λO=>O.cell? ⟨g,5,none⟩=some (slice (some ⟨e,f,none⟩) N cR)/\O.cell? ⟨e,f+a*2+1,none⟩=some (slice a5 E c5))
     (first | exact b.o _ (below_drewN (aC _ _) 1) | exact b.o _ (G.o 1) | exact b.o _ (G.o 0) | (refine b.o _ ?_;first | assumption | solve_by_elim))
     (first
       | simp only[]
       | (go_at_call 86
          refine(CC.o _ (by first | exact G.o 1 | exact below_drewN (aC _ _) 1)).mono ?_;rintro j w3 ⟨cf,rfl,t,Q⟩;have u:Below wr.heap.size wr w3:=(by first | exact(G.o 1).trans (Q.mono (G.o 1).size) | exact(below_drewN (aC _ _) 1).trans Q);have v:∀f,Below wr.heap.size wr (w3.alloc f):=λf=>u.alloc u.size f))
    all_goals(
     go_wp2_with fail;go_meet
     first
     | exact pE be.o.1 (by unfold maxLen;omega) (t.base (G.o 1).size) ((Blk.drew (Blk.new wr 5 (bO (replicate D 0)))).below Q (by simp)) (aj _) (λj=>absurd (t.lt _ j).1 (by simp)) u
     | exact pE be.o.1 (by unfold maxLen;omega) (gQ t ((aC _ _).alloc (aj _) _)) (Blk.new w3 5 (bO (replicate D 0))) u.size (λj=>absurd (t.lt _ j).2 (Nat.lt_irrefl _)) (v _))
   case rest=>
    clear CC G;obtain⟨o,q,r,s,rfl,rfl,t,u,bf,ac⟩:=hcut;have b:=(ac.o.cell (p:=⟨g,5,none⟩) m.o.blk.lt).trans (m.o.blk.cell 5);have v:=(ac.o.cell (p:=⟨e,f+a*2,none⟩) Q).trans a6;change wc.cell? _=some (slice (some ⟨e,f,none⟩) N cR) at b;have az:Sz (OwnB wc wr.heap.size (slice o D q) (bZ W (x.1.take 0) (replicate D 0))):=t;have aA:Sz (OwnB wc wr.heap.size (slice r E s) (bZ M (x.1.take 0) x.2)):=u;clear t u p5 a6 a9 an;generalize wr=z at*;go_wp2_with fail;clear b v;go_loopw [53] (λi wq=>∃b:Nat,b<=q4/\i=int i64 b/\Sz (OwnB wq z.heap.size (slice o D q) (bZ W (x.1.take b) (replicate D 0)))/\Sz (OwnB wq z.heap.size (slice r E s) (bZ M (x.1.take b) x.2))/\Sz (Below z.heap.size z wq)) (λi _=>q4-(intOf i).toNat)
    case atStart=>exact⟨0,by omega,rfl,az,aA,ac⟩
    case round=>
     clear az aA ac;obtain⟨b,cg,rfl,t,u,v⟩:=hrel;by_cases ad:b<q4
     ·have ch:(b:Int)<(q4:Int):=by omega
      obtain⟨b4,o4,rfl,ci,bh⟩:=ji (b7.o.below v.o (aj _)) ad;have T:b<x.1.length:=(by rw[<-b3.o];exact ad);have aq:x.1.getD b 0<n:=bd.o _ (by rw[af,ah T];exact aQ _);obtain⟨bw,bm⟩:=ak.o _ aq;have aB:Byt D (bZ W (x.1.take b) (replicate D 0)):=dU (Byt.zero D) λc hc=>(ak.o c (bd.o c (bI hc))).1;have I:Byt E (bZ M (x.1.take b) x.2):=dU be.o λc hc=>(ak.o c (bd.o c (bI hc))).2;have X:=xw g gf K H E n gv gw gm 1 (x.1.getD b 0) D q s o r _ vT _ _ F V W M _ _ z wr m.o v.o (by decide) aq bw bm t.o u.o aB I bf.o (by omega) (by omega);rw[vG bw.2,vG bm.2,<-o9 T,<-o9 T] at X;have X:=ae X;clear aB I bw bm T t u;generalize x.1.getD b 0=c at*;go_wp2_with fail;refine X.o.mono ?_;rintro j w4 ⟨rfl,aE,aF,aK⟩;have bi:=ae aE;have bj:=ae aF;have bk:=ae (v.o.trans aK);clear aE aF aK X bh v;go_wp2_with fail;go_roundw
      case rel=>exact⟨b+1,by omega,by go_num,bi,bj,bk⟩
      case measure=>simp[intOf];omega
     ·obtain rfl:b=q4:=by omega
      have Y:x.1.take b=x.1:=aN (by rw[b3.o];exact aj _);rw[Y] at t u;clear Y;have aM:=ae (Two.row k.o J (gK t.o));have aS:=ae (Two.row k.o J (gK u.o));have ag:=ae (k.o.new v.o);have aT:w.heap.size<=wr.heap.size:=aP J v.o.size;have bo:(LA.map rB).length<=1000000:=(by rw[aG];omega);have bp:(LB.map rB).length<=1000000:=(by rw[aG];omega);clear t u;generalize bZ W x.1 (replicate D 0)=ra at*;generalize bZ M x.1 x.2=rb at*
      go_wp2_with (at_builtin;refine iL (w:=wr) rfl _ _ rfl underlying45 dP rfl (by decide) (by decide) ag.o.oa aT bo (R:=rB ra) aM.o rfl rfl rfl ?_)
      intro cj w2 T I aV aa ab;have P:LA.map rB++[rB ra]=(LA++[ra]).map rB:=(by rw[aU];rfl);rw[P] at T;have ai:=ae (Two.one ag.o T aa ab);have aX:=ae (pF aS.o aa ab);have bs:w.heap.size<=w2.heap.size:=aP aT aV;have aY:=ae I;obtain⟨ck,cm,cn,rfl⟩:=T.sl;clear P T I aV aa ab ag aM aS
      go_wp2_with (at_builtin;refine iL (w:=w2) rfl _ _ rfl underlying45 dP rfl (by decide) (by decide) ai.o.ob bs bp (R:=rB rb) aX.o rfl rfl rfl ?_)
      intro co w3 U a0 bt ao ap;have S:LB.map rB++[rB rb]=(LB++[rb]).map rB:=(by rw[aU];rfl);rw[S] at U;have a1:=ae (Two.one ai.o.swap U ao ap).swap;rw[<-bb.o,<-bc.o] at a1;have bv:=ae (((A.o.trans (v.o.mono J)).trans aY.o).trans a0);obtain⟨cp,cq,cs,rfl⟩:=U.sl;clear S U a0 bt ao ap ai aX aY;go_wp2_with fail;go_roundw
      case rel=>exact⟨d+1,by omega,by go_num,a1,bv⟩
      case measure=>simp[intOf];omega
  ·obtain rfl:d=L:=by omega
   have Y:Le.take d=Le:=aN (by rw[au.o];exact aj _);rw[Y] at k;clear Y;have m:=ae (HS.o.new A.o);have p1:=m.o.blk.cell 1;have p2:=m.o.blk.cell 2;have p3:=m.o.blk.cell 3;unfold svC at p1 p2 p3;have ba:=bn HK.o;have CP:=ae (rA K H Z wr (by omega) (by omega) (by omega));unfold dO at CP;have cI:K<=16:=(by omega);have cJ:H<=4:=(by omega);clear ba;rename World=>w1;go_wp2_with fail;refine CP.o.mono ?_;rintro j wp ⟨cf,rfl,hM,f⟩;obtain⟨ar,cr,rfl,b5,-⟩:=hM.rdM2 (eO K H H);have b6:=f.size;have a6:Sz ((rM (dD K H H)).ok wp (λe=>(True/\some e≠(Value.slice a3 n3 c3).ownBlock)/\some e≠(Value.slice a2 n2 c2).ownBlock) [slice ar H cr]):=ae ((rM _).more (Ey hM) λe Q _=>⟨⟨trivial,λj=>by have:=(k.o.ob.lt e j.symm).2;have:w1.heap.size<=e:=Q;omega⟩,λj=>by have:=(k.o.oa.lt e j.symm).2;have:w1.heap.size<=e:=Q;omega⟩);have b3:=ae (A.o.trans (f.mono J));have bd:=ae (k.o.new f);have ce:=ae (m.o.new f);have ct:w.heap.size<=wp.heap.size:=(by omega);have cu:=ae (tu K H H);have be:=ae (eO K H H);obtain⟨E,aq⟩:∃E,E=Le.map λa=>bZ W ((rest.map Prod.fst).getD a []) (replicate D 0):=⟨_,rfl⟩;obtain⟨Q,a9⟩:∃Q,Q=Le.map λa=>bZ M ((rest.map Prod.fst).getD a []) ((rest.getD a ([],[])).2):=⟨_,rfl⟩;rw[<-aq,<-a9] at bd;have cK:E.length<=1000:=(by rw[aq,aG,au.o];exact bz);have cM:Q.length<=1000:=(by rw[a9,aG,au.o];exact bz);have cv:=ae aq;have a7:=ae a9
   have av:Sz (Two wp w.heap.size (slice a2 n2 c2) (E++((dD K H H).take 0).map λa=>dW W a (replicate D 0) (K+H)) (slice a3 n3 c3) (Q++((dD K H H).take 0).map λa=>dW M a (replicate Z 0) (K+H))):=ae (by
    rw[take_zero,map_nil,map_nil,append_nil,append_nil];exact bd.o)
   have cw:Sz (Below wp.heap.size wp wp):=ae (aC _ _);clear hM b5 f CP p1 p2 p3 k A aq a9 bd b6 m;go_wp2_with fail;go_loopw [2,3,78] (λva vb i wr=>∃d:Nat,d<=H/\i=int i64 d/\Sz (Two wr w.heap.size va (E++((dD K H H).take d).map λa=>dW W a (replicate D 0) (K+H)) vb (Q++((dD K H H).take d).map λa=>dW M a (replicate Z 0) (K+H)))/\Sz ((rM (dD K H H)).ok wr (λe=>(True/\some e≠vb.ownBlock)/\some e≠va.ownBlock) [slice ar H cr])/\Sz (Below w.heap.size w wr)) (λ_ _ i _=>H-(intOf i).toNat)
   case atStart=>exact⟨0,by omega,rfl,av,a6,b3⟩
   case round=>
    clear av cw a6 b3 ce ct;obtain⟨f,cN,rfl,k,a6,A⟩:=hrel;obtain⟨a2,n2,c2,rfl⟩:=k.o.oa.sl;obtain⟨a3,n3,c3,rfl⟩:=k.o.ob.sl;have J:=A.o.size;by_cases aw:f<H
    ·have cb:(f:Int)<(H:Int):=by omega
     have aq:f<(dD K H H).length:=by rw[be.o];exact aw
     have bb:Sz ((E++((dD K H H).take (f+1)).map λa=>dW W a (replicate D 0) (K+H))=(E++((dD K H H).take f).map λa=>dW W a (replicate D 0) (K+H))++[dW W ((dD K H H).getD f []) (replicate D 0) (K+H)]):=ae (by
      rw[aO aq,aU,map_cons,map_nil,append_assoc,af,ah aq];rfl)
     have bc:Sz ((Q++((dD K H H).take (f+1)).map λa=>dW M a (replicate Z 0) (K+H))=(Q++((dD K H H).take f).map λa=>dW M a (replicate Z 0) (K+H))++[dW M ((dD K H H).getD f []) (replicate Z 0) (K+H)]):=ae (by
      rw[aO aq,aU,map_cons,map_nil,append_assoc,af,ah aq];rfl)
     have cc:(E++((dD K H H).take f).map λa=>dW W a (replicate D 0) (K+H)).length<=100000:=(by rw[aI,aG,aH];omega);have cd:(Q++((dD K H H).take f).map λa=>dW M a (replicate Z 0) (K+H)).length<=100000:=(by rw[aI,aG,aH];omega);obtain⟨cO,cP,er,bd,-⟩:=fE a6.o be.o;injection er with B _ P;subst B P;obtain⟨br,or,a8,c8,rfl,cQ,b5,a9,-⟩:=bd.at aw;obtain⟨am,b6⟩:=cu.o.get aq;rw[am] at b5 a9;generalize (E++((dD K H H).take f).map λa=>dW W a (replicate D 0) (K+H))=LA at*;generalize (Q++((dD K H H).take f).map λa=>dW M a (replicate Z 0) (K+H))=LB at*;generalize (dD K H H).getD f []=a at*;have cz:=ae a9;have cA:=ae b6;have m:=ae (HS.o.new A.o);have cS:=ae am;generalize b7:K+H=nn at*;have cT:nn<=20:=(by omega);have cB:n=nn:=ca.o;subst cB;have cU:=ae b7;clear am b6 a9 bd aq b7;have an:∀y,Below wr.heap.size wr ((wr.alloc (cells (bO (replicate D 0)) 5)).drewN y):=λy=>below_drewN ((aC wr.heap.size wr).alloc (aj _) _) y;have aq:∀y,Below wr.heap.size wr ((wr.alloc (cells (bO (replicate Z 0)) 5)).drewN y):=λy=>below_drewN ((aC wr.heap.size wr).alloc (aj _) _) y;have G:=ae an;have y:=ae aq;clear an aq;go_upto_region 16 with fail;go_cut [13,14] (λv7 v8 wx=>∃o q r s,v7=slice o D q/\v8=slice r Z s/\Sz (OwnB wx wr.heap.size (slice o D q) (replicate D 0))/\Sz (OwnB wx wr.heap.size (slice r Z s) (replicate Z 0))/\Sz (∀e,(Value.slice o D q).ownBlock=some e->(Value.slice r Z s).ownBlock≠some e)/\Sz (Below wr.heap.size wr wx))
     case first=>
      have e:∀W,Below wr.heap.size wr W->W.cell? ⟨g,3,none⟩=some (int i64 Z):=λW hW=>(hW.cell (p:=⟨g,3,none⟩) m.o.blk.lt).trans (m.o.blk.cell 3);have f1:=e wr (aC _ _);have f2:=e wr.drew (below_drewN (aC _ _) 1);have f3:=e _ (G.o 0);have f4:=e _ (G.o 1);have f5:=e _ (y.o 0);have f6:=e _ (y.o 1);change (World.alloc _ _).cell? _=_ at f3 f5;change (World.drew _).cell? _=_ at f4 f6;clear e;go_region_law (first | simp only[b2] | simp only[b8])
      all_goals(
       go_wp2_with fail;go_meet
       first
       | (obtain⟨k1,k2,kb⟩:=rY wr (bO (replicate D 0)) (bO (replicate Z 0)) 5 5
          have e:=lw (C:=wr.heap.size) (k2.drewN 1) (by omega) (by rw[aJ];unfold maxLen;omega);rw[aJ] at e;exact pE aJ (by unfold maxLen;omega) e (k1.drewN 1) (aj _) (λj=>by simp[Value.ownBlock] at j) (below_drewN kb 1))
       | (obtain⟨k1,k2,kb⟩:=rY wr (bO (replicate Z 0)) (bO (replicate D 0)) 5 5
          have e:=lw (C:=wr.heap.size) (k1.drewN 1) (by omega) (by rw[aJ];unfold maxLen;omega);rw[aJ] at e;exact pE aJ (by unfold maxLen;omega) e (k2.drewN 1) (by omega) (λj=>by simp[Value.ownBlock] at j) (below_drewN kb 1)))
     case rest=>
      clear G y;obtain⟨o,q,r,s,rfl,rfl,t,u,bf,ac⟩:=hcut;have az:Sz (OwnB wc wr.heap.size (slice o D q) (dW W a (replicate D 0) 0)):=t;have aA:Sz (OwnB wc wr.heap.size (slice r Z s) (dW M a (replicate Z 0) 0)):=u;clear t u b5;generalize wr=z at*;go_wp2_with fail;go_loopw [92] (λi wq=>∃b:Nat,b<=n/\i=int i64 b/\Sz (OwnB wq z.heap.size (slice o D q) (dW W a (replicate D 0) b))/\Sz (OwnB wq z.heap.size (slice r Z s) (dW M a (replicate Z 0) b))/\Sz (Below z.heap.size z wq)) (λi _=>n-(intOf i).toNat)
      case atStart=>exact⟨0,by omega,rfl,az,aA,ac⟩
      case round=>
       clear az aA ac;obtain⟨b,cg,rfl,t,u,v⟩:=hrel;by_cases ad:b<n
       ·have ch:(b:Int)<(n:Int):=by omega
        obtain⟨b4,o4,rfl,ci,e⟩:=(cz.o.below v.o (aj _)).atB ad;have bh:=e b ad;clear e;obtain⟨bw,bm⟩:=ak.o _ ad;have aB:Byt D (dW W a (replicate D 0) b):=gD (Byt.zero D) b λc hc=>(ak.o c (by omega)).1.1;have I:Byt Z (dW M a (replicate Z 0) b):=gD (Byt.zero Z) b λc hc=>(ak.o c (by omega)).2.1
        have e:Calls _ _ _ _ λj O=>j=returned (.tuple #[])/\OwnB O z.heap.size (slice o D q) (dW W a (replicate D 0) (b+1))/\OwnB O z.heap.size (slice r Z s) (dW M a (replicate Z 0) (b+1))/\Below z.heap.size wr O:=
         xw g gf K H Z n gv gw gm (a.getD b 0) b D q s o r _ vT _ _ F V W M _ _ z wr m.o v.o (getD_lt cA.o b) ad bw bm t.o u.o aB I bf.o (by omega) (by omega)
        have X:=ae e;clear aB I bw bm t u e;generalize a.getD b 0=e at*;go_wp2_with fail;refine X.o.mono ?_;rintro j w4 ⟨rfl,aE,aF,aK⟩;have bi:=ae aE;have bj:=ae aF;have bk:=ae (v.o.trans aK);clear aE aF aK X bh v;go_wp2_with fail;go_roundw
        case rel=>exact⟨b+1,by omega,by go_num,bi,bj,bk⟩
        case measure=>simp[intOf];omega
       ·obtain rfl:b=n:=by omega
        have aM:=ae (Two.row k.o J (gK t.o));have aS:=ae (Two.row k.o J (gK u.o));have ag:=ae (k.o.new v.o);have e:=ae ((rM _).new a6.o v.o);have aT:w.heap.size<=wr.heap.size:=aP J v.o.size;have bo:(LA.map rB).length<=1000000:=(by rw[aG];omega);have bp:(LB.map rB).length<=1000000:=(by rw[aG];omega);clear t u;generalize dW W a (replicate D 0) b=ra at*;generalize dW M a (replicate Z 0) b=rb at*
        go_wp2_with (at_builtin;refine iL (w:=wr) rfl _ _ rfl underlying45 dP rfl (by decide) (by decide) ag.o.oa aT bo (R:=rB ra) aM.o rfl rfl rfl ?_)
        intro cj w2 T I aV aa ab;have P:LA.map rB++[rB ra]=(LA++[ra]).map rB:=(by rw[aU];rfl);rw[P] at T;have ai:=ae (Two.one ag.o T aa ab);have aX:=ae (pF aS.o aa ab);have O:=ae (pF e.o aa ab);have bs:w.heap.size<=w2.heap.size:=aP aT aV;have aY:=ae I;obtain⟨ck,cm,cn,rfl⟩:=T.sl;clear P T I aV aa ab ag aM aS e
        go_wp2_with (at_builtin;refine iL (w:=w2) rfl _ _ rfl underlying45 dP rfl (by decide) (by decide) ai.o.ob bs bp (R:=rB rb) aX.o rfl rfl rfl ?_)
        intro co w3 U a0 bt ao ap;have S:LB.map rB++[rB rb]=(LB++[rb]).map rB:=(by rw[aU];rfl);rw[S] at U;have a1:=ae (Two.one ai.o.swap U ao ap).swap;have e:=ae (pF O.o ao ap);rw[<-bb.o,<-bc.o] at a1;have bv:=ae (((A.o.trans (v.o.mono J)).trans aY.o).trans a0);obtain⟨cp,cq,cs,rfl⟩:=U.sl;clear S U a0 bt ao ap ai aX aY O;go_wp2_with fail;go_roundw
        case rel=>exact⟨f+1,by omega,by go_num,a1,e,bv⟩
        case measure=>simp[intOf];omega
    ·obtain rfl:f=H:=by omega
     have Y:(dD K f f).take f=dD K f f:=aN (by rw[be.o];exact aj _);rw[Y,cv.o,a7.o] at k;clear Y;go_wp2_with fail;go_ret2;exact⟨_,_,rfl,k.o,A.o⟩
theorem Oj{l:SC}(c:l.Pairwise (·< ·)):RP l:=λa b=>by
 rw[af,af,ah (by omega),ah b];exact pairwise_iff_getElem.1 c a (a+1) (by omega) b (by omega)
theorem KA{n Z:Nat}{m:Nat->SC}{kn:List Bool}{E:List (SC×SC)}(g:xO n Z m E)(h:∀x∈E,x.1.Pairwise (·< ·))(i:∀c,c<n->Byt Z (m c)):
 ∀x∈gV kn m Z E,x.1.length<=1000/\(∀c∈x.1,c<n)/\Byt Z x.2/\RP x.1:=by
 intro x d;unfold gV at d;obtain⟨j,_⟩:=mem_filter.1 d;obtain⟨a,e,rfl⟩:=aZ.1 j;obtain⟨l,k,o⟩:=g a e;have f:∀c∈eu kn a.1,c<n:=λc b=>k c (mem_filter.1 b).1;refine⟨?_,f,dU (Byt.zero Z) λc b=>i c (f c b),Oj (List.Pairwise.filter _ (h a e))⟩;show(eu kn a.1).length<=1000;have:(eu kn a.1).length<=a.1.length:=length_filter_le _ _;omega
theorem Ol{n:Nat}{l:List SC}{St:List (Nat×Nat)}{De Le:SC}(P:qE n l St De Le):St.length<=l.length/\De.length<=n/\Le.Nodup:=by
 refine⟨?_,jT (nodup_append.1 P.cols).2.1 λa b=>(P.all a).2 (.inr b),?_⟩
 ·rw[<-aG (f:=Prod.fst)]
  refine jT P.rows λb c=> ?_;obtain⟨⟨a,d⟩,e,g⟩:=aZ.1 c;obtain⟨h,i,j⟩:=bH e;have:a=b:=g;subst this;exact(P.step h a d (by rw[ah i,j])).1
 ·rw[P.left]
  exact nodup_range.filter _
theorem Su{w:World}{F:Nat->Prop}{g:Nat}{t:TypeId}{d:Array Value}{e:SC}{v:Value}(a:(rN e).ok w F [v])(k:Blk w g t d)(l:∀n:Nat,Value.int .u8 (n:Int)∉d.toList):(rN e).ok w (λb=>F b/\b≠g) [v]:=by
 unfold rN at a ⊢;split at a
 ·rename_i c
  rw[bu c];exact a
 ·rename_i c
  rw[bA c];obtain⟨m,n,o,p,q,r,s,f,u⟩:=a;refine⟨m,n,o,p,q,r,s,f,λx=> ?_⟩;obtain⟨b,h,y,z,i⟩:=u x;refine⟨b,h,y,⟨z,λA=> ?_⟩,i⟩;subst A;rw[bL] at f;have j:=i 0 _ (eP (by omega));rw[Nat.add_zero,k.cell h] at j;exact l _ (Array.mem_toList_iff.2 (Array.mem_of_getElem? j))
theorem sZ{B:Nat}{w wa d:World}(a:Below B w wa)(c:Below 0 wa d)(f:∀b,b<B->d.heap[b]? =wa.heap[b]?):Below B w d:=
 ⟨c.os.trans a.os,c.tape.trans a.tape,c.output.trans a.output,aP a.size c.size,λb e=>(f b e).trans (a.block b e)⟩
theorem Sv{K H D Z n:Nat}{R:List SC}{W M z:Nat->SC}{Le:SC}(i:n=K+H)(g:∀r,∀c∈R.getD r [],c<n)(j:∀r∈Le,Byt Z (z r))(d:∀c,c<n->Byt D (W c)/\Byt Z (M c)):
 Wf D (uX K H D R W Le)/\Wf Z (yC K H Z R z M Le)/\(uX K H D R W Le).length=Le.length+H/\(yC K H Z R z M Le).length=Le.length+H:=by
 subst i;refine⟨λr f=> ?_,λr f=> ?_,?_,?_⟩
 ·rcases bF.1 f with a | a
  ·obtain⟨e,h,rfl⟩:=aZ.1 a
   exact dU (Byt.zero D) λc b=>(d c (g e c b)).1
  ·obtain⟨k,_,rfl⟩:=aZ.1 a
   exact gD (Byt.zero D) (K+H) λc b=>(d c b).1.1
 ·rcases bF.1 f with a | a
  ·obtain⟨e,h,rfl⟩:=aZ.1 a
   exact dU (j e h) λc b=>(d c (g e c b)).2
  ·obtain⟨k,_,rfl⟩:=aZ.1 a
   exact gD (Byt.zero Z) (K+H) λc b=>(d c b).2.1
 ·unfold uX
  rw[aI,aG,aG,eO]
 ·unfold yC
  rw[aI,aG,aG,eO]
