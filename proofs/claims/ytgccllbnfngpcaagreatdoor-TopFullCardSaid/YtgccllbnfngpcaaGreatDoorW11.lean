import Derived.Test.YtgccllbnfngpcaaGreatDoorW9
set_option linter.unusedVariables false
set_option maxRecDepth 100000
set_option maxHeartbeats 400000000
namespace Go.Proofs.YtgccllbnfngpcaaGreatDoor
open Go.RowKit _root_.Go.Proofs.Tryz List
open Value (int slice pointer bool)
open IntKind (i64)
open Ending (returned)
open Obj (cells)
def Vls(w:World)(c n:Nat)(F:Nat->Prop)(V:Nat->PI):Prop:=∃a:List Value,Blk w c 30 a.toArray/\a.length=n/\∀b,b<n->(rN (V b)).ok w F [a.getD b undef]
theorem Vls.more{w:World}{a n:Nat}{F G:Nat->Prop}{V:Nat->PI}(c:Vls w a n F V)(d:∀b,F b->G b):Vls w a n G V:=by
 obtain⟨e,f,g,h⟩:=c;exact⟨e,f,g,λi j=>(rN _).more (h i j) λb i _=>d b i⟩
theorem Vls.put{w w':World}{a n c:Nat}{F:Nat->Prop}{V:Nat->PI}{u:Value}{d:PI}(h:Vls w a n F V)(i:(rN d).ok w' F [u])(j:∀b,F b->b<w.heap.size->w'.heap[b]? =w.heap[b]?)
 (k:∀hs:Array Value,Blk w a 30 hs->Blk w' a 30 (hs.setIfInBounds c u)):Vls w' a n F (jd V c d):=by
 obtain⟨hs,l,m,o⟩:=h;refine⟨hs.set c u,by simpa using k _ l,by rw[length_set];exact m,λf p=> ?_⟩;by_cases e:f=c
 ·subst e
  rw[lh,af,List.getElem?_set,bg rfl,bg (by omega)];exact i
 ·rw[jX _ _ e,af,List.getElem?_set,bh (λg=>e g.symm),<-af]
  exact(rN _).keep (o f p) λq g r=>⟨j q g r,g⟩
def vX(V:Nat->PI)(b:Nat->PI)(k:Nat):Nat->PI:=λa=>if a<k then b a else V a
theorem Ld{V b:Nat->PI}{k:Nat}:vX V b (k+1)=jd (vX V b k) k (b k):=funext λa=>by
 show(if a<k+1 then b a else V a)=(if a=k then b k else if a<k then b a else V a);by_cases c:a=k
 ·subst c;rw[bg (by omega),bg rfl]
 ·rw[bh c]
  by_cases d:a<k
  ·rw[bg (by omega),bg d]
  ·rw[bh (by omega),bh d]
theorem Ih{V b:Nat->PI}{k:Nat}(d:V k=b k):vX V b (k+1)=vX V b k:=funext λa=>by
 show(if a<k+1 then b a else V a)=(if a<k then b a else V a);by_cases e:a=k
 ·subst e;rw[bg (by omega),bh (by omega)];exact d.symm
 ·by_cases c:a<k
  ·rw[bg (by omega),bg c]
  ·rw[bh (by omega),bh c]
theorem NJ(g J K H Z n f gw gm D cX:Nat)(aX:PK)(vR vT vD vL:Value)(F:Nat->Prop)(V W M s:Nat->PI)(X:List PI)(w:World)
 (z:SvSt w g J K H Z n f gw gm vR vT vD vL F V W M)(au:∀b,F b->b<w.heap.size)(hX:(rM X).ok w (λb=>b≠f) [slice aX D cX])(ax:X.length=D)(ay:Wf Z X)(hn:n<=64)(b1:D<=64)(b2:1<=Z)(b3:Z<=1000)
 (aA:∀c,c<n->Byt D (W c)/\Byt Z (M c))(aB:∀c,c<n->(V c=[]->dH (λe=>X.getD e []) (W c) (M c) D=s c)/\(V c≠[]->V c=s c))(L:∀c,c<n->s c≠[]):
 Calls prog 239 #[pointer (some ⟨g,0,none⟩),slice aX D cX] w λr d=>r=returned (.tuple #[])/\Vls d f n (λb=>F b\/w.heap.size<=b) s/\Kept2 w d f f:=by
 have u:=ae z;have HX:=ae hX;have ao:=ae ax;have aD:=ae ay;have b5:=ae au;have bc:=ae aA;have aE:=ae aB;have aF:=ae L;have p4:=z.blk.cell 4;unfold svC at p4;have b6:f<w.heap.size:=by obtain⟨hs,a1,_⟩:=z.vls;exact a1.lt
 have d:g≠f/\J≠f:=by obtain⟨hs,a1,_⟩:=z.vls;exact⟨Blk.ne z.blk a1 (by decide),Blk.ne (t:=337) z.fld a1 (by decide)⟩
 have aK:=ae d
 have aL:PH (Vls w f n (λb=>F b\/w.heap.size<=b) (vX V s 0)):=ae (by
  have r:vX V s 0=V:=funext λc=>bh (Nat.not_lt_zero c);rw[r];exact Vls.more z.vls λb l=>.inl l)
 have aM:=ae (Kept2.refl w f f);have hq:=λW a k c=>run_neq_slice_nil (P:=prog) W 30 5 a k c underlying30;clear z hX ax ay au aA aB L d;go_enter func239,ntmps239;go_wp2_with fail;clear p4;go_loopw [15] (λe wr=>∃d:Nat,d<=n/\e=int i64 d/\PH (Vls wr f n (λb=>F b\/w.heap.size<=b) (vX V s d))/\PH (Kept2 w wr f f)) (λe _=>n-(intOf e).toNat)
 case atStart=>exact⟨0,by omega,rfl,aL,aM⟩
 case round=>
  clear aL aM;obtain⟨d,b7,rfl,N,B⟩:=hrel;rename World=>i;by_cases q:d<n
  ·have b9:(d:Int)<(n:Int):=by omega
   have ca:=B.o.1.size;have j:∀b,b<w.heap.size->b≠f->i.heap[b]? =w.heap[b]? :=λb C h2=>B.o.2 b C h2 h2;have cb:=ae j;have v:PH (Blk i g 292 (svC J K H Z (slice (some ⟨f,0,none⟩) n n) vR vT vD vL (slice (some ⟨gw,0,none⟩) n n) (slice (some ⟨gm,0,none⟩) n n))):=ae ((j g u.o.blk.lt aK.o.1).trans u.o.blk);have aO:PH (Fld i J):=ae ((j J (Blk.lt (t:=337) u.o.fld) aK.o.2).trans u.o.fld);obtain⟨n1,n2,n3⟩:=u.o.ne;have m:∀b,F b->b<w.heap.size->i.heap[b]? =w.heap[b]? /\F b:=λb l q=>⟨j b q (u.o.off b l).2.1,l⟩;have aR:PH (Hs i gw n F W):=ae (u.o.way.keep (j gw u.o.way.lt (λr=>n1 r.symm)) m);have bd:PH (Hs i gm n F M):=ae (u.o.mor.keep (j gm u.o.mor.lt (λr=>n2 r.symm)) m);have be:PH ((rM X).ok i (Bl w.heap.size) [slice aX D cX]):=ae ((rM X).keep HX.o λb l q=>⟨j b q l,q⟩);obtain⟨bi,U,v2,v3⟩:=N.o;have O:=v3 d q;have eV:vX V s d d=V d:=bh (Nat.lt_irrefl d);rw[eV] at O;obtain⟨a,c,r,aS,aT,aV,a0,ap,aq⟩:=KT O;have cv:i.cell? ⟨f,d,none⟩=some (slice a (V d).length c):=(U.cell d).trans (by rw[<-r];simpa using rJ (hs:=bi) (by omega));have fv:i.frozen? ⟨f,d,none⟩=false:=U.frozen d;have cc:=ae U;have p4:=v.o.cell 4;unfold svC at p4;clear j m;by_cases E:V d=[]
   ·obtain⟨rfl,rfl⟩:=ap E
    have j:(V d).length=0:=(by rw[E];rfl);rw[j] at cv;clear O aS aT aV a0 ap aq r j U v2 v3 eV;obtain⟨aw,Q,dw,x,o,-,y,-⟩:=aR.o.at q;obtain⟨am,qm,dm,Y,A,aa,G,I,-⟩:=bd.o.at q;obtain⟨j,m⟩:=bc.o d q;obtain rfl:Q=D:=(by rw[o];exact j.1);obtain rfl:qm=Z:=(by rw[A];exact m.1);have R:=ae (dJ (M d) _ am qm dm i G (aj _) I (by omega));have S:=v.o.cell 9;have T:=v.o.cell 10;unfold svC at S T;have bj:=ae y;have BW:=ae j;have BM:=ae m;have EV:=ae E;clear y G j m o A aa I E;go_upto_region 4 with(simp only[hq]);go_wp2_with fail;refine R.o.mono ?_;rintro r w1 ⟨cd,rfl,m,o⟩;have ad:=ae o;have j:=ae m;clear m o R Y;obtain⟨av,o,A,rfl,m⟩:=OwnB.sl j.o;obtain rfl:o=qm:=(by rw[<-m];exact BM.o.1);have Y:PH (OwnB w1 i.heap.size (slice av o A) (dH (λe=>X.getD e []) (W d) (M d) 0)):=j;have G:=(ad.o.cell (p:=⟨gw,d,none⟩) aR.o.lt).trans x;have y:=(v.o.below ad.o v.o.lt).cell 9;unfold svC at y;clear j m x S T;go_wp2_with fail;clear G y;go_loopw [42] (λe wr=>∃j:Nat,j<=Q/\e=int i64 j/\PH (OwnB wr i.heap.size (slice av o A) (dH (λe=>X.getD e []) (W d) (M d) j))/\PH (Below i.heap.size i wr)) (λe _=>Q-(intOf e).toNat)
    case atStart=>exact⟨0,by omega,rfl,Y,ad⟩
    case round=>
     clear Y ad;obtain⟨j,ce,rfl,R,m⟩:=hrel;rename World=>S;by_cases ag:j<Q
     ·have cf:(j:Int)<(Q:Int):=by omega
      obtain⟨bx,ox,rfl,bk,aa⟩:=(bj.o.below m.o (aj _)).atB ag;have qx:=aa j ag;obtain⟨cg,ch,eX,T,-⟩:=eZ be.o ao.o;injection eX with e1 _ x;subst e1 x;obtain⟨b8,o8,a9,c9,rfl,bl,ai,I,-⟩:=T.at ag;have y:(X.getD j []).length=o/\By (X.getD j []):=aD.o.get (by rw[ao.o];exact ag);have bo:=getD_lt BW.o.2 j;rw[y.1] at ai I;have ai:=(m.o.cell (p:=⟨b8,o8+j,none⟩) bl).trans ai;have bp:=ae I;have ci:=ae y.1;have br:=ae y.2;have G:=fA (W:=λe=>X.getD e []) (row:=W d) BM.o j (λc hc=>(aD.o.get (by rw[ao.o];omega)).1);have ak:PH ((X.getD j []).length=(dH (λe=>X.getD e []) (W d) (M d) j).length):=ae (by rw[y.1,G.1]);have ab:PH ((dH (λe=>X.getD e []) (W d) (M d) j).length=o):=ae G.1;have bs:PH (By (dH (λe=>X.getD e []) (W d) (M d) j)):=ae G.2;have bt:PH (dH (λe=>X.getD e []) (W d) (M d) (j+1)=lU ((W d).getD j 0) (X.getD j []) (dH (λe=>X.getD e []) (W d) (M d) j)):=ae (DF (by rw[y.1,G.1])).symm;clear aa I y T G;generalize (W d).getD j 0=t at*;generalize X.getD j []=G at*;generalize y:dH (λe=>X.getD e []) (W d) (M d) j=I at*;clear y;generalize y:dH (λe=>X.getD e []) (W d) (M d) (j+1)=yn at*;have bv:=ae y;clear y;have Y:PH (OwnB S i.heap.size (slice av o A) (ij t G I 0)):=R;have a2:=m;clear R m;go_wp2_with fail;clear qx ai;go_loopw [52] (λe wr=>∃k:Nat,k<=o/\e=int i64 k/\PH (OwnB wr i.heap.size (slice av o A) (ij t G I k))/\PH (Below i.heap.size i wr)) (λe _=>o-(intOf e).toNat)
      case atStart=>exact⟨0,by omega,rfl,Y,a2⟩
      case round=>
       clear Y a2;obtain⟨k,cj,rfl,T,m⟩:=hrel;by_cases ac:k<o
       ·have ck:(k:Int)<(o:Int):=by omega
        obtain⟨bx,ox,rfl,bk,aa⟩:=(bp.o.below m.o (aj _)).atB ac;have qx:=aa k ac;have L:(ij t G I k).length=o:=(by rw[pR ak.o (by rw[ab.o];omega)];exact ab.o);obtain⟨y,bB,x,a3,b0⟩:=T.o.form (by omega);injection x with x e4 e3;clear e4;subst x e3;obtain⟨qy,fy⟩:=T.o.cell L ac;rw[pU ak.o (by rw[ab.o];exact ac)] at qy;have ar:=T.o.stored L k (I.getD k 0 ^^^ fm t (G.getD k 0));rw[pV ak.o (by rw[ab.o];exact ac)] at ar;have a4:=getD_lt br.o k;have a5:=getD_lt bs.o k;have p0:=(v.o.belowC m.o v.o.lt).cell 0;have a6:=ae (aO.o.belowC m.o (Blk.lt (t:=337) aO.o));clear aa L;generalize G.getD k 0=al at*;generalize I.getD k 0=a7 at*;have CM:=ae (ut J t al bo a4 wr.drew (Blk.drew a6.o));have hz:=iC t al;generalize fm t al=a8 at*;have e1:=u8_xor_nat a7 a8 a5 hz;generalize a7 ^^^ a8=an at*;have bb:=ae ar;clear ar a4 a5 hz;unfold svC at p0;go_wp2_with fail
        go_region_with ((go_at_call 307;refine CM.o.mono ?_;rintro r w3 ⟨rfl,e,rfl⟩))
        all_goals(
         have ar:PH (OwnB ((wr.drewN (1+e)).setCell ⟨y,k,none⟩ (.int .u8 (an:Nat))) i.heap.size (slice (some ⟨y,0,none⟩) o A) (ij t G I (k+1))):=ae bb.o.1;have a4:PH (Below i.heap.size i ((wr.drewN (1+e)).setCell ⟨y,k,none⟩ (.int .u8 (an:Nat)))):=ae ((below_drewN m.o (1+e)).setCell (p:=⟨y,k,none⟩) a3 _);clear bb T m a6 CM qx qy fy p0;generalize (wr.drewN (1+e)).setCell ⟨y,k,none⟩ (.int .u8 (an:Nat))=w4 at*;go_wp2_with fail;go_roundw
         case rel=>exact⟨k+1,by omega,by go_num,ar,a4⟩
         case measure=>simp[intOf];omega)
       ·obtain rfl:k=o:=by omega
        have ar:ij t G I k=yn:=(by rw[bt.o,<-ab.o];exact mM ak.o);rw[ar,<-bv.o] at T;clear ar;go_wp2_with fail;go_roundw
        case rel=>exact⟨j+1,by omega,by go_num,T,m⟩
        case measure=>simp[intOf];omega
     ·obtain rfl:j=Q:=by omega
      have G:dH (λe=>X.getD e []) (W d) (M d) j=s d:=(aE.o d q).1 EV.o;rw[G] at R;clear G
      obtain⟨y,bB,x,a3,b0⟩:=R.o.form (by
       have:=aF.o d q;rcases hm0:s d with _ | ⟨al,k⟩
       ·exact absurd hm0 this
       ·simp)
      injection x with x e4 e3;clear e4;subst x e3;have G:f<i.heap.size:=(by omega);have ac:=(m.o.cell (p:=⟨f,d,none⟩) G).trans cv;have ai:S.frozen? ⟨f,d,none⟩=false:=(World.frozen?_of_block (w:=i) (a:=⟨f,d,none⟩) (m.o.block f G)).trans fv;have aa:=(v.o.below m.o v.o.lt).cell 4;unfold svC at aa
      have I:PH (Vls (S.setCell ⟨f,d,none⟩ (slice (some ⟨y,0,none⟩) o A)) f n (λb=>F b\/w.heap.size<=b) (vX V s (d+1))/\Kept2 w (S.setCell ⟨f,d,none⟩ (slice (some ⟨y,0,none⟩) o A)) f f):=ae (by
       have ab:∀b,(F b\/w.heap.size<=b)->b≠f:=λb l=>by
        rcases l with l | l
        ·exact(u.o.off b l).2.1
        ·omega
       have e:∀b,b≠f->(S.setCell ⟨f,d,none⟩ (slice (some ⟨y,0,none⟩) o A)).heap[b]? =S.heap[b]? :=λb l=>bE _ _ _ _ l;refine⟨?_,?_,?_⟩
       ·rw[Ld]
        refine Vls.put N.o ?_ (λb l q=>(e b (ab b l)).trans (m.o.block b q)) λhs T=>Blk.set (T.below m.o T.lt) d _;unfold rN;rw[bh (aF.o d q)];refine(rB _).keep (gG R.o) λb l q=>⟨e b (λr=> ?_),.inr ?_⟩
        ·have:i.heap.size<=b:=l;omega
        ·have:i.heap.size<=b:=l;omega
       ·exact(B.o.1.trans (m.o.mono (bu _))).setCell (bu _) _
       ·exact λb l C _=>(e b C).trans ((m.o.block b (by omega)).trans (B.o.2 b l C C)))
      clear R m N B;go_wp2_with fail;go_roundw
      case rel=>exact⟨d+1,by omega,by go_num,ae I.o.1,ae I.o.2⟩
      case measure=>simp[intOf];omega
   ·obtain⟨p,rfl⟩:∃p,a=some p:=by
     cases a with
     | none=>exact absurd rfl (aq E)
     | some p=>exact⟨p,rfl⟩
    have e:PH (Vls i f n (λb=>F b\/w.heap.size<=b) (vX V s (d+1))):=ae (by
     rw[Ih ((aE.o d q).2 E)];exact N.o)
    clear O aS aT aV a0 ap aq r U v2 v3 eV E N;generalize (V d).length=an at*
    go_wp2_with (simp only[hq])
    go_roundw
    case rel=>exact⟨d+1,by omega,by go_num,e,B⟩
    case measure=>simp[intOf];omega
  ·obtain rfl:d=n:=by omega
   have e:PH (Vls i f d (λb=>F b\/w.heap.size<=b) s):=ae (by
    obtain⟨hs,C,h2,O⟩:=N.o;refine⟨hs,C,h2,λc hc=> ?_⟩;have:=O c hc;unfold vX at this
    rwa [bg hc] at this)
   go_wp2_with fail
   go_end0
   exact⟨rfl,e.o,B.o⟩
theorem Kp.alloc{w w1:World}{b c:Nat}(a:Kept2 w w1 b c)(o:Obj):Kept2 w (w1.alloc o) b c:=⟨a.1.alloc (bu _) o,λe d f g=>(Below.heap_alloc _ _ _ (aW d a.1.size)).trans (a.2 e d f g)⟩
theorem Kp.drew{w w1:World}{a b:Nat}(c:Kept2 w w1 a b):Kept2 w w1.drew a b:=⟨c.1.drew,c.2⟩
theorem Kp.s1{w w1:World}{a b:Nat}(c:Kept2 w w1 a b)(i:Nat)(v:Value):Kept2 w (w1.setCell ⟨a,i,none⟩ v) a b:=⟨c.1.setCell (bu _) v,λe f d g=>(bE _ _ _ _ d).trans (c.2 e f d g)⟩
theorem Kp.s2{w w1:World}{b a:Nat}(c:Kept2 w w1 b a)(i:Nat)(v:Value):Kept2 w (w1.setCell ⟨a,i,none⟩ v) b a:=⟨c.1.setCell (bu _) v,λe f g d=>(bE _ _ _ _ d).trans (c.2 e f g d)⟩
theorem FH(g I K H Z n A y J D cD T cT:Nat)(aR aD aT:PK)(vL a9 bb:Value)(F:Nat->Prop)(V:Nat->PI)(rest:List (PI×PI))(St:List (Nat×Nat))(De:PI)(w:World)
 (hg:Blk w g 292 (svC I K H Z (slice (some ⟨A,0,none⟩) n n) (slice aR y J) (slice aT T cT) (slice aD D cD) vL a9 bb))(hF:Fld w I)
 (hv:∃hs:List Value,Blk w A 30 hs.toArray/\hs.length=n/\∀c,c<n->(rN (V c)).ok w F [hs.getD c undef])
 (hR:(fe rest).ok w F [slice aR y J])(hT:(rS 2 (St.map gY)).ok w F [slice aT T cT])(bc:(rI De).ok w F [slice aD D cD])(bd:∀b,F b->b≠g/\b≠A)
 (hN:rest.length=y)(be:St.length=T)(bi:De.length=D)(cV:y<=1000)(cX:T<=2000)(hn:n<=64)(cY:D<=64)(c0:1<=Z)(hZ:Z<=1000)
 (hP:∀(k r c:Nat),St[k]? =some (r,c)->r<(rest.map Prod.fst).length/\c∈(rest.map Prod.fst).getD r []/\∀d∈(rest.map Prod.fst).getD r [],d≠c->d∈De\/∃k' r',k'<k/\St[k']? =some (r',d))
 (bj:De.Nodup)(bk:∀c∈De,c<n)(bo:∀x∈rest,x.1.length<=1000/\(∀c∈x.1,c<n)/\Byt Z x.2):
 Calls prog 235 #[pointer (some ⟨g,0,none⟩)] w λv L=>v=returned (.tuple #[])/\∃gw gm,w.heap.size<=gw/\w.heap.size<=gm/\
  SvSt L g I K H Z n A gw gm (slice aR y J) (slice aT T cT) (slice aD D cD) vL (λb=>(F b/\b<w.heap.size)\/w.heap.size+2<=b) V (dh (rest.map Prod.fst) (λ_=>replicate D 0) (gF (dO D) De D) St) (dh (rest.map Prod.fst) (λr=>(rest.getD r ([],[])).2) (gF (λ_=>replicate Z 0) De D) St)/\
  w.heap.size+2<=L.heap.size/\(∀b,b<w.heap.size->b≠g->L.heap[b]? =w.heap[b]?)/\Below 0 w L:=by
 have bp:∀w:World,(Instr.makeSlice 45 (int i64 (n:Int)) (int i64 (n:Int))).run prog w=.ok (slice (some ⟨w.heap.size,0,none⟩) n n) (w.alloc (cells (replicate n (Value.slice none 0 0)).toArray 30)):=λw=>Bg (by omega) w;have br:∀w:World,(Instr.makeSlice 30 (int i64 (D:Int)) (int i64 (D:Int))).run prog w=.ok (slice (some ⟨w.heap.size,0,none⟩) D D) (w.alloc (cells (bK (replicate D 0)) 5)):=λw=>dR (n:=D) (by omega) w;have cv:∀w:World,(Instr.makeSlice 30 (int i64 (Z:Int)) (int i64 (Z:Int))).run prog w=.ok (slice (some ⟨w.heap.size,0,none⟩) Z Z) (w.alloc (cells (bK (replicate Z 0)) 5)):=λw=>dR (n:=Z) (by omega) w;have HG:=ae hg;have HF:=ae hF;have HV:=ae hv;have HR:=ae hR;have HT:=ae hT;have bt:=ae bc;have aB:=ae bd;have HN:=ae hN;have aE:=ae be;have ag:=ae bi;have HP:=ae hP;have bv:=ae bj;have cA:=ae bk;have HC:=ae bo;have c1:=hg.lt
 have e:∀l,Below w.heap.size w l->(l.cell? ⟨g,4,none⟩=some (slice (some ⟨A,0,none⟩) n n))/\(l.cell? ⟨g,9,none⟩=some a9)/\(l.cell? ⟨g,10,none⟩=some bb)/\l.frozen? ⟨g,9,none⟩=false/\l.frozen? ⟨g,10,none⟩=false:=λl M=>by
  have h:=hg.below M hg.lt;exact⟨h.cell 4,h.cell 9,h.cell 10,h.frozen 9,h.frozen 10⟩
 have ac:=ae e;have p7:=hg.cell 7;unfold svC at p7;clear hg hF hv hR hT bc bd hN be bi hP bj bk bo e;go_enter func235,ntmps235;go_upto_region 1 with fail;go_cut [] (λt=>∃gw gm,PH (w.heap.size<=gw/\w.heap.size<=gm)/\PH (SvSt t g I K H Z n A gw gm (slice aR y J) (slice aT T cT) (slice aD D cD) vL (λb=>(F b/\b<w.heap.size)\/w.heap.size+2<=b) V (λ_=>[]) (λ_=>[]))/\PH (t.heap.size=w.heap.size+2/\(∀b,b<w.heap.size->b≠g->t.heap[b]? =w.heap[b]?)/\Below 0 w t))
 case first=>
  clear p7;generalize e:(replicate n (Value.slice none 0 0)).toArray=j at*;have m:=ae e;clear e;obtain⟨o,q,e⟩:=qd w j j 30 30;have P:=ae o;have Q:=ae q;have R:=ae e;clear o q;obtain⟨S,U,W,aa,ab⟩:=ac.o w (az _ _);obtain⟨ad,ai,ak,an,ao⟩:=ac.o w.drew (below_drewN (az _ _) 1);obtain⟨ap,aq,ar,au,av⟩:=ac.o _ ((az w.heap.size w).alloc (aj _) (.cells j 30));obtain⟨o,q,s,u,B⟩:=ac.o _ (below_drewN ((az w.heap.size w).alloc (aj _) (.cells j 30)) 1);obtain⟨aA,aF,aK,aL,aM⟩:=ac.o _ e;obtain⟨C,E,G,N,O⟩:=ac.o _ (below_drewN e 1);change (World.drew _).cell? _=_ at o C q E s G;change (World.drew _).frozen? _=_ at u N B O;clear e;go_region_law (simp only[bp])
  all_goals(
   go_wp2_with fail;go_meet
   first
   | (have e:=SvSt.begin2 (gw:=w.heap.size) (gm:=w.heap.size+1) m.o HG.o HF.o HV.o aB.o (.inl ⟨rfl,rfl⟩) rfl
      exact⟨w.heap.size,w.heap.size+1,ae e.1,ae (e.2.1.new (below_drewN (az _ _) 1)),ae ⟨e.2.2.1,e.2.2.2.1,e.2.2.2.2.drew⟩⟩)
   | (have e:=SvSt.begin2 (gw:=w.heap.size+1) (gm:=w.heap.size) m.o HG.o HF.o HV.o aB.o (.inr ⟨rfl,rfl⟩) rfl
      exact⟨w.heap.size+1,w.heap.size,ae e.1,ae (e.2.1.new (below_drewN (az _ _) 1)),ae ⟨e.2.2.1,e.2.2.2.1,e.2.2.2.2.drew⟩⟩))
 case rest=>
  clear bp p7;obtain⟨gw,gm,bx,j,aF⟩:=hcut;have c2:=aF.o.1;have ai:PH (SvSt wc g I K H Z n A gw gm (slice aR y J) (slice aT T cT) (slice aD D cD) vL (λb=>(F b/\b<w.heap.size)\/w.heap.size+2<=b) V (gF (dO D) De 0) (gF (λ_=>replicate Z 0) De 0)):=j;have e:∀b,F b->b<w.heap.size->wc.heap[b]? =w.heap[b]? /\((b≠gw/\b≠gm)/\b<wc.heap.size):=λb q aa=>⟨aF.o.2.1 b aa (aB.o b q).1,by have:=bx.o;omega,by omega⟩;have bB:=ae ((fe rest).keep HR.o e);have b0:=ae ((rS 2 (St.map gY)).keep HT.o e);have cB:=ae ((rI De).keep bt.o e);have b3:PH (Kept2 wc wc gw gm):=ae (Kept2.refl _ _ _);have p7:=ai.o.blk.cell 7;unfold svC at p7;clear j e HR HT bt HG HV ac;go_wp2_with fail;clear p7;go_loopw [42] (λi wr=>∃k:Nat,k<=D/\i=int i64 k/\PH (SvSt wr g I K H Z n A gw gm (slice aR y J) (slice aT T cT) (slice aD D cD) vL (λb=>(F b/\b<w.heap.size)\/w.heap.size+2<=b) V (gF (dO D) De k) (gF (λ_=>replicate Z 0) De k))/\PH (Kept2 wc wr gw gm)) (λi _=>D-(intOf i).toNat)
  case atStart=>exact⟨0,by omega,rfl,ai,b3⟩
  case round=>
   clear ai b3;obtain⟨k,c3,rfl,j,N⟩:=hrel;have b5:=N.o.1.size;have ab:∀b,((b≠gw/\b≠gm)/\b<wc.heap.size)->b<wc.heap.size->wr.heap[b]? =wc.heap[b]? /\((b≠gw/\b≠gm)/\b<wc.heap.size):=λb q aa=>⟨N.o.2 b aa q.1.1 q.1.2,q⟩;have aK:=ae ((fe rest).keep bB.o ab);have aL:=ae ((rS 2 (St.map gY)).keep b0.o ab);have b6:=ae ((rI De).keep cB.o ab);clear ab;by_cases aa:k<D
   ·have cC:(k:Int)<(D:Int):=by omega
    have e:k<De.length:=(by rw[ag.o];exact aa);obtain⟨al,cl,el,m,-⟩:=dI b6.o ag.o;injection el with C _ e2;subst C e2;obtain⟨bl,ol,rfl,b8,b9⟩:=iA m aa;have ad:De.getD k 0<n:=cA.o _ (by rw[af,ah e];exact aQ _);have aO:PH (gF (dO D) De (k+1)=jd (gF (dO D) De k) (De.getD k 0) (dO D k)/\gF (λ_=>replicate Z 0) De (k+1)=jd (gF (λ_=>replicate Z 0) De k) (De.getD k 0) (replicate Z 0)):=ae ⟨rfl,rfl⟩;clear m e;generalize De.getD k 0=c at*;have ca:(c:Int)<(n:Int):=(by omega);generalize wr=e at*;have aq:∀O,Below e.heap.size e ((e.alloc (cells (bK (replicate D 0)) 5)).drewN O):=λO=>below_drewN ((az e.heap.size e).alloc (aj _) _) O;have m:∀O,Below e.heap.size e ((e.alloc (cells (bK (replicate Z 0)) 5)).drewN O):=λO=>below_drewN ((az e.heap.size e).alloc (aj _) _) O;have B:=ae aq;have G:=ae m;clear aq m;go_upto_region 5 with fail;go_cut [] (λt=>∃m u,PH ((e.heap.size<=m/\e.heap.size<=u/\m≠u)/\Blk t m 5 (bK (replicate D 0))/\Blk t u 5 (bK (replicate Z 0))/\Below 0 e t/\(∀b,b<e.heap.size->b≠gw->b≠gm->t.heap[b]? =e.heap[b]?)/\(∀hs:Array Value,Blk e gw 30 hs->Blk t gw 30 (hs.setIfInBounds c (slice (some ⟨m,0,none⟩) D D)))/\(∀hs:Array Value,Blk e gm 30 hs->Blk t gm 30 (hs.setIfInBounds c (slice (some ⟨u,0,none⟩) Z Z)))))
    case first=>
     obtain⟨aw,qw,dw,cw,-,-,-,-,-,-,fw⟩:=j.o.way.at ad;obtain⟨am,qm,dm,cm,-,-,-,-,-,-,aM⟩:=j.o.mor.at ad;have ak:=j.o.ne.2.2;have ap:=ae ak;have aA:¬gm=gw:=λv=>ak v.symm;have an:=j.o.way.lt;have ao:=j.o.mor.lt
     have o:∀l,Below e.heap.size e l->(l.cell? ⟨g,3,none⟩=some (int i64 Z)/\l.cell? ⟨g,9,none⟩=some (slice (some ⟨gw,0,none⟩) n n)/\l.cell? ⟨g,10,none⟩=some (slice (some ⟨gm,0,none⟩) n n))/\(l.cell? ⟨gw,c,none⟩=some (slice aw qw dw)/\l.cell? ⟨gm,c,none⟩=some (slice am qm dm))/\l.frozen? ⟨gw,c,none⟩=false/\l.frozen? ⟨gm,c,none⟩=false:=λl M=>by
      have h:=j.o.blk.below M j.o.blk.lt;exact⟨⟨h.cell 3,h.cell 9,h.cell 10⟩,⟨(M.cell (p:=⟨gw,c,none⟩) an).trans cw,(M.cell (p:=⟨gm,c,none⟩) ao).trans cm⟩,(World.frozen?_of_block (w:=e) (a:=⟨gw,c,none⟩) (M.block gw an)).trans fw,(World.frozen?_of_block (w:=e) (a:=⟨gm,c,none⟩) (M.block gm ao)).trans aM⟩
     clear cw cm fw aM;generalize s:bK (replicate D 0)=Q at*;generalize E:bK (replicate Z 0)=R at*;have ar:=ae s;have au:=ae E;clear s E;have P:Below e.heap.size e ((e.alloc (.cells Q 5)).alloc (.cells R 5)):=(B.o 0).alloc (B.o 0).size (.cells R 5);have S:Below e.heap.size e ((e.alloc (.cells R 5)).alloc (.cells Q 5)):=(G.o 0).alloc (G.o 0).size (.cells Q 5);obtain⟨⟨x1,x2,x3⟩,⟨x4,x5⟩,x6,x7⟩:=o e (az _ _);obtain⟨⟨y1,y2,y3⟩,⟨y4,y5⟩,y6,y7⟩:=o e.drew (below_drewN (az _ _) 1);obtain⟨⟨z1,z2,z3⟩,⟨z4,z5⟩,z6,z7⟩:=o _ (B.o 0);obtain⟨⟨p1,p2,p3⟩,⟨p4,p5⟩,p6,p7⟩:=o _ (B.o 1);obtain⟨⟨q1,q2,q3⟩,⟨E,s⟩,q6,q7⟩:=o _ (G.o 0);obtain⟨⟨r1,r2,r3⟩,⟨r4,r5⟩,r6,r7⟩:=o _ (G.o 1);obtain⟨⟨s1,s2,s3⟩,⟨s4,s5⟩,s6,s7⟩:=o _ P;obtain⟨⟨t1,t2,t3⟩,⟨t4,t5⟩,t6,t7⟩:=o _ (below_drewN P 1);obtain⟨⟨u1,u2,u3⟩,⟨u4,u5⟩,u6,u7⟩:=o _ S;obtain⟨⟨v1,v2,v3⟩,⟨v4,v5⟩,v6,v7⟩:=o _ (below_drewN S 1);change (World.alloc _ _).cell? _=_ at z1 z2 z3 z4 z5 q1 q2 q3 E s s1 s2 s3 s4 s5 u1 u2 u3 u4 u5;change (World.drew _).cell? _=_ at p1 p2 p3 p4 p5 r1 r2 r3 r4 r5 t1 t2 t3 t4 t5 v1 v2 v3 v4 v5;change (World.alloc _ _).frozen? _=_ at z6 z7 q6 q7 s6 s7 u6 u7;change (World.drew _).frozen? _=_ at p6 p7 r6 r7 t6 t7 v6 v7;clear o P S
     have av:PH (∀l,Kept2 e l gw gm->l.cell? ⟨g,3,none⟩=some (int i64 Z)/\l.cell? ⟨g,9,none⟩=some (slice (some ⟨gw,0,none⟩) n n)/\l.cell? ⟨g,10,none⟩=some (slice (some ⟨gm,0,none⟩) n n)):=ae λl M=>by
      obtain⟨a7,U,-⟩:=j.o.way.ex;obtain⟨a8,W,-⟩:=j.o.mor.ex;have h:Blk l g 292 _:=(M.2 g j.o.blk.lt (Blk.ne j.o.blk U (by decide)) (Blk.ne j.o.blk W (by decide))).trans j.o.blk;exact⟨h.cell 3,h.cell 9,h.cell 10⟩
     clear y1 y2 y3 z1 z2 z3 p1 p2 p3 q1 q2 q3 r1 r2 r3 s1 s2 s3 t1 t2 t3 u1 u2 u3 v1 v2 v3
     go_region_held3 (λl=>l.cell? ⟨g,3,none⟩=some (int i64 Z)/\l.cell? ⟨g,9,none⟩=some (slice (some ⟨gw,0,none⟩) n n)/\l.cell? ⟨g,10,none⟩=some (slice (some ⟨gm,0,none⟩) n n))
      ((refine av.o _ ?_;repeat (first | exact Kept2.refl _ _ _ | refine Kp.alloc ?_ _ | refine Kp.drew ?_ | refine Kp.s1 ?_ _ _ | refine Kp.s2 ?_ _ _)))
      (first | simp only[br] | simp only[cv])
     all_goals(
      go_wp2_with fail;go_meet
      first
      | (obtain⟨o,S,a3,a4,P,a6⟩:=uC (c:=c) (u1:=slice (some ⟨e.heap.size,0,none⟩) D D) (u2:=slice (some ⟨e.heap.size+1,0,none⟩) Z Z) (X:=Q) (Y:=R) (tX:=5) (tY:=5) an ao ap.o rfl
         exact⟨e.heap.size,e.heap.size+1,ae ⟨⟨by omega,by omega,by omega⟩,by first | exact o | (rw[ar.o];exact o),by first | exact S | (rw[au.o];exact S),a3.drew,a4,P,a6⟩⟩)
      | (obtain⟨o,S,a3,a4,P,a6⟩:=uC (c:=c) (u1:=slice (some ⟨e.heap.size+1,0,none⟩) D D) (u2:=slice (some ⟨e.heap.size,0,none⟩) Z Z) (X:=R) (Y:=Q) (tX:=5) (tY:=5) an ao ap.o rfl
         exact⟨e.heap.size+1,e.heap.size,ae ⟨⟨by omega,by omega,by omega⟩,by first | exact S | (rw[ar.o];exact S),by first | exact o | (rw[au.o];exact o),a3.drew,a4,P,a6⟩⟩))
    case rest=>
     clear B G;obtain⟨m,u,HZ⟩:=hcut;obtain⟨⟨g1,g2,g3⟩,o,b2,ap,av,aA,aS⟩:=HZ.o;have b7:=ap.size;obtain⟨aw,qw,dw,cw,-⟩:=j.o.way.at ad
     have aV:g≠gw/\g≠gm:=by
      obtain⟨a7,U,-⟩:=j.o.way.ex;obtain⟨a8,W,-⟩:=j.o.mor.ex;exact⟨Blk.ne j.o.blk U (by decide),Blk.ne j.o.blk W (by decide)⟩
     have kg:Blk wc g 292 _:=(av g j.o.blk.lt aV.1 aV.2).trans j.o.blk;have p9:=kg.cell 9;unfold svC at p9;obtain⟨cb,Q,R,-⟩:=j.o.way.ex;have aX:=aA _ Q
     have cc:wc.cell? ⟨gw,c,none⟩=some (slice (some ⟨m,0,none⟩) D D):=(aX.cell c).trans (by
      rw[Array.getElem?_setIfInBounds_self,bg (by simp;omega)])
     clear Q R;have a0:=o.cell k;have ce:=o.frozen k
     have cf:wc.cell? ⟨m,k,none⟩=some (.int .u8 (0:Nat)):=a0.trans (by
      unfold bK bF;simp[aa])
     have HE:PH (SvSt (wc.setCell ⟨m,k,none⟩ (.int .u8 1)) g I K H Z n A gw gm (slice aR y J) (slice aT T cT) (slice (some ⟨bl,ol,none⟩) D cD) vL (λb=>(F b/\b<w.heap.size)\/w.heap.size+2<=b) V (jd (gF (dO D) De k) c (dO D k)) (jd (gF (λ_=>replicate Z 0) De k) c (replicate Z 0))/\Kept2 e (wc.setCell ⟨m,k,none⟩ (.int .u8 1)) gw gm):=ae (by
      have S:∀b,b≠m->(wc.setCell ⟨m,k,none⟩ (.int .u8 1)).heap[b]? =wc.heap[b]? :=λb q=>bE _ _ _ _ q;have an:=j.o.way.lt;have ao:=j.o.mor.lt;have cg:w.heap.size+2<=e.heap.size:=by omega
      have ar:Blk (wc.setCell ⟨m,k,none⟩ (.int .u8 1)) m 5 (bK (dO D k)):=by
       have:=o.set k (.int .u8 1)
       have v:(bK (replicate D 0)).setIfInBounds k (.int .u8 1)=bK (dO D k):=by
        unfold bK;rw[setIfInBounds_toArray];congr 1;unfold bF dO;rw[map_set];rfl
       rwa [v] at this
      have au:Blk (wc.setCell ⟨m,k,none⟩ (.int .u8 1)) u 5 (bK (replicate Z 0)):=(S u (λv=>g3 v.symm)).trans b2;refine SvSt.putG (u1:=slice (some ⟨m,0,none⟩) D D) (u2:=slice (some ⟨u,0,none⟩) Z Z) j.o ?_ ?_ ?_ ?_ ?_ ?_
      ·exact ap.setCell (bu _) _
      ·exact λb q Q R=>(S b (by omega)).trans (av b q Q R)
      ·exact λhs hh=>(S gw (by omega)).trans (aA hs hh)
      ·exact λhs hh=>(S gm (by omega)).trans (aS hs hh)
      ·have:=mq (F:=λb=>(F b/\b<w.heap.size)\/w.heap.size+2<=b) ar (.inr (by omega)) (by rw[gP];unfold maxLen;omega)
       rwa [gP] at this
      ·have:=mq (F:=λb=>(F b/\b<w.heap.size)\/w.heap.size+2<=b) au (.inr (by omega)) (by rw[aI];unfold maxLen;omega)
       rwa [aI] at this)
     clear o b2 ap b7 av aA aS kg aX a0 cw;go_wp2_with fail;have o:=ae HE.o.1;have ap:=ae (N.o.trans HE.o.2);rw[<-aO.o.1,<-aO.o.2] at o;go_roundw
     case rel=>exact⟨k+1,by omega,by go_num,o,ap⟩
     case measure=>simp[intOf];omega
   ·obtain rfl:k=D:=by omega
    have p6:=j.o.blk.cell 6;unfold svC at p6;have ai:PH (SvSt wr g I K H Z n A gw gm (slice aR y J) (slice aT T cT) (slice aD k cD) vL (λb=>(F b/\b<w.heap.size)\/w.heap.size+2<=b) V (dh (rest.map Prod.fst) (λ_=>replicate k 0) (gF (dO k) De k) (St.take 0)) (dh (rest.map Prod.fst) (λr=>(rest.getD r ([],[])).2) (gF (λ_=>replicate Z 0) De k) (St.take 0))):=j;clear j aK aL b6 b5;go_wp2_with fail;clear p6;have b7:=N;clear N;go_loopw [83] (λi wr=>∃m:Nat,m<=T/\i=int i64 m/\PH (SvSt wr g I K H Z n A gw gm (slice aR y J) (slice aT T cT) (slice aD k cD) vL (λb=>(F b/\b<w.heap.size)\/w.heap.size+2<=b) V (dh (rest.map Prod.fst) (λ_=>replicate k 0) (gF (dO k) De k) (St.take m)) (dh (rest.map Prod.fst) (λr=>(rest.getD r ([],[])).2) (gF (λ_=>replicate Z 0) De k) (St.take m)))/\PH (Kept2 wc wr gw gm)) (λi _=>T-(intOf i).toNat)
    case atStart=>exact⟨0,by omega,rfl,ai,b7⟩
    case round=>
     clear ai b7;obtain⟨m,c6,rfl,j,N⟩:=hrel;have b5:=N.o.1.size;have ab:∀b,((b≠gw/\b≠gm)/\b<wc.heap.size)->b<wc.heap.size->wr.heap[b]? =wc.heap[b]? /\((b≠gw/\b≠gm)/\b<wc.heap.size):=λb q aa=>⟨N.o.2 b aa q.1.1 q.1.2,q⟩;have aK:=ae ((fe rest).keep bB.o ab);have aL:=ae ((rS 2 (St.map gY)).keep b0.o ab);clear ab;by_cases b8:m<T
     ·have cC:(m:Int)<(T:Int):=by omega
      have o:m<St.length:=(by rw[aE.o];exact b8);obtain⟨bs,os,rfl,-,c7,aA,aX⟩:=Jn aL.o aE.o b8;obtain⟨r,c,G⟩:∃r c,St.getD m (0,0)=(r,c):=⟨_,_,rfl⟩;have aV :St[m]? =some (r,c):=(by rw[<-G,af,ah o];rfl);obtain⟨hr,U,W⟩:=HP.o m r c aV;rw[aC,HN.o] at hr;rw[eG] at U W;rw[G] at aA aX
      have a0:St.take (m+1)=St.take m++[(r,c)]:=by
       rw[aN o];congr 1;rw[<-G,af,ah o];rfl
      have b9:PH (dh (rest.map Prod.fst) (λ_=>replicate k 0) (gF (dO k) De k) (St.take (m+1))=jd (dh (rest.map Prod.fst) (λ_=>replicate k 0) (gF (dO k) De k) (St.take m)) c (bR (dh (rest.map Prod.fst) (λ_=>replicate k 0) (gF (dO k) De k) (St.take m)) ((rest.getD r ([],[])).1.filter λd=> !(d == c)) (replicate k 0))/\
       dh (rest.map Prod.fst) (λr=>(rest.getD r ([],[])).2) (gF (λ_=>replicate Z 0) De k) (St.take (m+1))=jd (dh (rest.map Prod.fst) (λr=>(rest.getD r ([],[])).2) (gF (λ_=>replicate Z 0) De k) (St.take m)) c (bR (dh (rest.map Prod.fst) (λr=>(rest.getD r ([],[])).2) (gF (λ_=>replicate Z 0) De k) (St.take m)) ((rest.getD r ([],[])).1.filter λd=> !(d == c)) (rest.getD r ([],[])).2)):=ae (by
       rw[a0,kG,kG];unfold others;rw[eG];exact⟨rfl,rfl⟩)
      have a7:rest.getD r ([],[])∈rest:=(by rw[af,ah (by rw[HN.o];exact hr)];exact aQ _);obtain⟨c8,ad,S⟩:=HC.o _ a7
      have a8:∀r,r<(rest.map Prod.fst).length->Byt Z ((rest.getD r ([],[])).2):=λr h=>by
       rw[aC] at h;refine(HC.o _ ?_).2.2;rw[af,ah h];exact aQ _
      have ca:∀i,i<De.length->gF (dO k) De k (De.getD i 0)=dO k i/\gF (λ_=>replicate Z 0) De k (De.getD i 0)=replicate Z 0:=λi hi=>⟨EK bv.o k (by rw[ag.o];exact aj _) i (by rw[<-ag.o];exact hi),EK (f:=λ_=>replicate Z 0) bv.o k (by rw[ag.o];exact aj _) i (by rw[<-ag.o];exact hi)⟩
      have av:∀d∈De,Byt k (gF (dO k) De k d)/\Byt Z (gF (λ_=>replicate Z 0) De k d):=λd u=>by
       obtain⟨i,hi,rfl⟩:=bC u;have:=ca i hi;rw[af,ah hi,Option.getD_some] at this;rw[this.1,this.2];exact⟨⟨gP _ _,ng _ _⟩,Byt.zero Z⟩
      have aO:PH (∀d∈(rest.getD r ([],[])).1,d≠c->d<n/\Byt k (dh (rest.map Prod.fst) (λ_=>replicate k 0) (gF (dO k) De k) (St.take m) d)/\Byt Z (dh (rest.map Prod.fst) (λr=>(rest.getD r ([],[])).2) (gF (λ_=>replicate Z 0) De k) (St.take m) d)):=ae λd u aS=>by
       have cb:d∈De\/d∈(St.take m).map Prod.snd:=by
        rcases W d u aS with h | ⟨k',r',Q,R⟩
        ·exact .inl h
        ·right
         refine aY.2 ⟨(r',d),mem_of_getElem? (i:=k') ?_,rfl⟩;rw[List.getElem?_take,bg Q];exact R
       exact⟨ad d u,A8 HP.o (λ_ _=>Byt.zero k) (λd u=>(av d u).1) m (by omega) d cb,A8 (z:=λr=>(rest.getD r ([],[])).2) HP.o a8 (λd u=>(av d u).2) m (by omega) d cb⟩
      have cc:c<n:=ad c U;clear ca av a8 W U aV G a0 o;obtain⟨b,G,a4,E,c4,P,s,c5,rfl,_,q,U,W,av,a0,o,a8⟩:=mH aK.o HN.o hr;obtain rfl:s=Z:=(by rw[a8];exact S.1);obtain⟨c9,da,C,ca,-⟩:=dI av o.symm;injection C with C _ e3;subst C e3;obtain⟨db,dd,C,ce,cE,-⟩:=fC a0 S.1;injection C with C _ e3;subst C e3;have cf:=ae ca;have cg:=ae ce;have aV:=ae S;have ci:=ae o;have de:E<=1000:=(by omega);have dg:(r:Int)<(y:Int):=(by omega);have di:(c:Int)<(n:Int):=(by omega);clear av a0 o a8 a7 ca ce ad S;generalize dh (rest.map Prod.fst) (λ_=>replicate k 0) (gF (dO k) De k) (St.take m)=WW at*;generalize dh (rest.map Prod.fst) (λr=>(rest.getD r ([],[])).2) (gF (λ_=>replicate s 0) De k) (St.take m)=MM at*;generalize rest.getD r ([],[])=x at*;generalize wr=e at*;go_upto_region 11 with fail;have o:=(az e.heap.size e).alloc (aj _) (cells #[int i64 r,int i64 c] 359);have S:=Blk.new e 359 #[int i64 r,int i64 c];have cF:(e.alloc (cells #[int i64 r,int i64 c] 359)).heap.size=e.heap.size+1:=(by simp);generalize e.alloc (cells #[int i64 r,int i64 c] 359)=w6 at*;have e5:=(j.o.new o).blk.cell 5;unfold svC at e5;have i0:=S.cell 0;have e0:=(o.cell (p:=⟨b,G+r*2,none⟩) q).trans U;have C:=(o.cell (p:=⟨b,G+r*2+1,none⟩) q).trans W;have ca:=ae o;have ce:=ae S;have cI:e.heap.size<w6.heap.size:=(by omega);clear o S U W aA aX;go_cut [7] (λaA t=>∃g7,aA=pointer (some ⟨g7,0,none⟩)/\PH (Blk t g7 286 #[slice a4 E c4,slice P s c5]/\Below w6.heap.size w6 t/\w6.heap.size<=g7))
      case first=>
       have o:=World.new_ne w6 ⟨g,5,none⟩ e5;have S:=World.new_ne w6 ⟨e.heap.size,0,none⟩ i0;have U:=World.new_ne w6 ⟨b,G+r*2,none⟩ e0;have W:=World.new_ne w6 ⟨b,G+r*2+1,none⟩ C;go_region_held3 (λL=>L.cell? ⟨g,5,none⟩=some (slice (some ⟨b,G,none⟩) y J)/\L.cell? ⟨e.heap.size,0,none⟩=some (int i64 r)/\L.cell? ⟨b,G+r*2,none⟩=some (slice a4 E c4)/\L.cell? ⟨b,G+r*2+1,none⟩=some (slice P s c5)) (go_keep) (fail)
       all_goals(
        go_wp2_with fail;go_meet;exact⟨e.heap.size+1,rfl,ae ⟨by have h:=Blk.new w6 286 #[slice a4 E c4,slice P s c5];rw[cF] at h;exact h.drewN 1,below_drewN ((az _ _).alloc (aj _) _) 1,by omega⟩⟩)
      case rest=>
       obtain⟨g7,rfl,U⟩:=hcut;obtain⟨o,S,dj⟩:=U.o;have j1:=o.cell 1;have j0:=o.cell 0;have cj:=o.lt;have dk:=S.size;have av:PH (Below e.heap.size e wc):=ae (ca.o.trans (S.mono (by omega)));have ck:PH (wc.cell? ⟨e.heap.size,1,none⟩=some (int i64 c)):=ae ((S.cell (p:=⟨e.heap.size,1,none⟩) cI).trans (ce.o.cell 1));have dl:=ae o;have cK:PH (Rd wc e.heap.size P s (bF x.2)):=ae (cg.o.below av.o (aj _));have cL:PH (Rd wc e.heap.size a4 E (bH x.1)):=ae (cf.o.below av.o (aj _));have cM:=ae (j.o.new av.o);have aX:e.heap.size<=wc.heap.size:=(by omega);have cn:e.heap.size<wc.heap.size:=(by omega);clear o S e5 i0 e0 C ca ce U cg cf;generalize S:wc=o at*;clear S;have CC:=ae (λ(l:World) (h:Below o.heap.size o l)=>dJ x.2 _ P s c5 l (((cK.o.more aX).below h (aj _)).more h.size) (aj _) cE (by omega));have aq:∀O,Below o.heap.size o ((o.alloc (cells (bK (replicate k 0)) 5)).drewN O):=λO=>below_drewN ((az o.heap.size o).alloc (aj _) _) O;have B:=ae aq;clear aq;go_upto_region 12 with fail;go_cut [8,9] (λv7 v8 t=>∃O S U W,v7=slice O k S/\v8=slice U s W/\PH (OwnB t o.heap.size (slice O k S) (replicate k 0))/\PH (OwnB t o.heap.size (slice U s W) x.2)/\PH (∀b,(Value.slice O k S).ownBlock=some b->(Value.slice U s W).ownBlock≠some b)/\PH (Below o.heap.size o t))
       case first=>
        have ap:PH (∀l,Below o.heap.size o l->l.cell? ⟨g7,1,none⟩=some (slice P s c5)):=ae λl M=>(M.cell (p:=⟨g7,1,none⟩) cj).trans j1
        go_region_held3 (λL=>L.cell? ⟨g7,1,none⟩=some (slice P s c5))
         (first | exact ap.o _ (below_drewN (az _ _) 1) | exact ap.o _ (B.o 1) | exact ap.o _ (B.o 0) | (refine ap.o _ ?_;first | assumption | solve_by_elim))
         (first
           | simp only[]
           | (go_at_call 86
              refine(CC.o _ (by first | exact B.o 1 | exact below_drewN (az _ _) 1)).mono ?_;rintro v L ⟨aA,rfl,l,q⟩;have t:Below o.heap.size o L:=(by first | exact(B.o 1).trans (q.mono (B.o 1).size) | exact(below_drewN (az _ _) 1).trans q);have M:∀G,Below o.heap.size o (L.alloc G):=λG=>t.alloc t.size G))
        all_goals(
         go_wp2_with fail;go_meet
         first
         | exact nk aV.o.1 (by unfold maxLen;omega) (l.base (B.o 1).size) ((Blk.drew (Blk.new o 5 (bK (replicate k 0)))).below q (by simp)) (aj _) (λv=>absurd (l.lt _ v).1 (by simp)) t
         | exact nk aV.o.1 (by unfold maxLen;omega) (fI l ((az _ _).alloc (aj _) _)) (Blk.new L 5 (bK (replicate k 0))) t.size (λv=>absurd (l.lt _ v).2 (Nat.lt_irrefl _)) (M _))
       case rest=>
        clear CC B;obtain⟨O,S,U,W,rfl,rfl,t,L,co,a0⟩:=hcut;have l:=(a0.o.cell (p:=⟨g7,0,none⟩) cj).trans j0;have cp:PH (OwnB wc o.heap.size (slice O k S) (bR WW ((x.1.take 0).filter λd=> !(d == c)) (replicate k 0))):=t;have cq:PH (OwnB wc o.heap.size (slice U s W) (bR MM ((x.1.take 0).filter λd=> !(d == c)) x.2)):=L;clear t L j0 j1;go_wp2_with fail;clear l;go_loopw [103] (λi M=>∃l:Nat,l<=E/\i=int i64 l/\PH (OwnB M o.heap.size (slice O k S) (bR WW ((x.1.take l).filter λd=> !(d == c)) (replicate k 0)))/\PH (OwnB M o.heap.size (slice U s W) (bR MM ((x.1.take l).filter λd=> !(d == c)) x.2))/\PH (Below o.heap.size o M)) (λi _=>E-(intOf i).toNat)
        case atStart=>exact⟨0,by omega,rfl,cp,cq,a0⟩
        case round=>
         clear cp cq a0;obtain⟨l,dp,rfl,t,L,M⟩:=hrel;by_cases cr:l<E
         ·have dq:(l:Int)<(E:Int):=by omega
          obtain⟨b4,o4,rfl,dr,cs⟩:=iA ((cL.o.more aX).below M.o (aj _)) cr;have aA:l<x.1.length:=(by rw[<-ci.o];exact cr);have a7:x.1.getD l 0∈x.1:=(by rw[af,ah aA];exact aQ _);have ap:=A9 (x:=c) aA;have i1:=(M.o.cell (p:=⟨e.heap.size,1,none⟩) cn).trans ck.o;by_cases u:x.1.getD l 0=c
          ·rw[bg u,append_nil] at ap
           rw[<-ap] at t L;rw[u] at cs;clear a7 ap u aA;go_wp2_with fail;go_roundw
           case rel=>exact⟨l+1,by omega,by go_num,t,L,M⟩
           case measure=>simp[intOf];omega
          ·rw[bh u] at ap
           obtain⟨cO,bw,bm⟩:=aO.o _ a7 u
           have ar:Byt k (bR WW ((x.1.take l).filter λd=> !(d == c)) (replicate k 0)):=dF (Byt.zero k) λd u=>by
            obtain⟨Q,R⟩:=mem_filter.1 u;exact(aO.o d (bD Q) (by simpa using R)).2.1
           have au:Byt s (bR MM ((x.1.take l).filter λd=> !(d == c)) x.2):=dF aV.o λd u=>by
            obtain⟨Q,R⟩:=mem_filter.1 u;exact(aO.o d (bD Q) (by simpa using R)).2.2
           have a8:=uW g I K H s n A gw gm 1 (x.1.getD l 0) k S W O U _ _ _ _ _ V WW MM _ _ o wr cM.o M.o (by decide) cO bw bm t.o L.o ar au co.o (by omega) (by omega);rw[tv bw.2,tv bm.2,<-xI,<-xI,<-ap] at a8;have CA:=ae a8;clear ar au bw bm aA t L a7 ap a8;generalize x.1.getD l 0=d at*;have ds:((d:Int) == (c:Int))=false:=(by rw[beq_eq_false_iff_ne];omega);have dt:((d:Int) != (c:Int))=true:=(by rw[bne_iff_ne];omega);go_wp2_with fail;refine CA.o.mono ?_;rintro v w4 ⟨rfl,a8,ct,cu⟩;have cP:=ae a8;have cS:=ae ct;have cU:=ae (M.o.trans cu);clear a8 ct cu CA cs M i1;go_wp2_with fail;go_roundw
           case rel=>exact⟨l+1,by omega,by go_num,cP,cS,cU⟩
           case measure=>simp[intOf];omega
         ·obtain rfl:l=E:=by omega
          have ar:x.1.take l=x.1:=aJ (by rw[ci.o];exact aj _);rw[ar] at t L;clear ar;have u:=av.o.trans (M.o.mono aX);have ap:=j.o.new u;obtain⟨aw,qw,dw,cw,-,-,-,-,-,-,fw⟩:=ap.way.at cc;obtain⟨am,qm,dm,cm,-,-,-,-,-,-,aM⟩:=ap.mor.at cc;have ak:¬gw=gm:=ap.ne.2.2;have a7:¬gm=gw:=λv=>ak v.symm;have p9:=ap.blk.cell 9;have a8:=ap.blk.cell 10;unfold svC at p9 a8;have i1:=(M.o.cell (p:=⟨e.heap.size,1,none⟩) cn).trans ck.o;have an:=j.o.way.lt;have ao:=j.o.mor.lt;have cu:=ae ak
          have v:PH (SvSt (((wr.setCell ⟨gw,c,none⟩ (slice O k S)).setCell ⟨gm,c,none⟩ (slice U s W)).drew) g I K H s n A gw gm (slice (some ⟨b,G,none⟩) y J) (slice (some ⟨bs,os,none⟩) T cT) (slice aD k cD) vL (λb=>(F b/\b<w.heap.size)\/w.heap.size+2<=b) V (jd WW c (bR WW (x.1.filter λd=> !(d == c)) (replicate k 0))) (jd MM c (bR MM (x.1.filter λd=> !(d == c)) x.2))/\Kept2 e (((wr.setCell ⟨gw,c,none⟩ (slice O k S)).setCell ⟨gm,c,none⟩ (slice U s W)).drew) gw gm):=ae (by
           have au:∀b,b≠gw->b≠gm->(((wr.setCell ⟨gw,c,none⟩ (slice O k S)).setCell ⟨gm,c,none⟩ (slice U s W)).drew).heap[b]? =wr.heap[b]? :=λb Q R=>(bE _ _ _ _ R).trans (bE _ _ _ _ Q)
           have aA:∀b,Fr o.heap.size b->b<wr.heap.size->(((wr.setCell ⟨gw,c,none⟩ (slice O k S)).setCell ⟨gm,c,none⟩ (slice U s W)).drew).heap[b]? =wr.heap[b]? /\((F b/\b<w.heap.size)\/w.heap.size+2<=b):=λb q _=>by
            have cO:o.heap.size<=b:=q;exact⟨au b (by omega) (by omega),.inr (by omega)⟩
           refine SvSt.putG j.o ?_ ?_ ?_ ?_ ((rB _).keep (gG t.o) aA) ((rB _).keep (gG L.o) aA)
           ·exact(((u.mono (bu _)).setCell (bu _) _).setCell (bu _) _).drew
           ·exact λb q Q R=>(au b Q R).trans (u.block b q)
           ·exact λhs hh=>Blk.far (p:=⟨gm,c,none⟩) (Blk.set (hh.below u hh.lt) c _) ak _
           ·exact λhs hh=>Blk.set (Blk.far (p:=⟨gw,c,none⟩) (hh.below u hh.lt) a7 _) c _)
          rw[<-b9.o.1,<-b9.o.2] at v;have cs:=ae (N.o.trans v.o.2);have ct:=ae v.o.1;clear v u ap t L co M;go_upto_region 19 with fail;go_region
          all_goals(
           go_wp2_with fail;go_roundw
           case rel=>exact⟨m+1,by omega,by go_num,ct,cs⟩
           case measure=>simp[intOf];omega)
     ·obtain rfl:m=T:=by omega
      have ar:St.take m=St:=aJ (by rw[aE.o];exact aj _);rw[ar] at j;clear ar;go_wp2_with fail
      go_end0
      have e:=aF.o;have l:=bx.o;exact⟨rfl,gw,gm,l.1,l.2,j.o,by omega,λb q aS=>(N.o.2 b (by omega) (by omega) (by omega)).trans (e.2.1 b q aS),e.2.2.trans N.o.1⟩
theorem H9(g gf K H Z n gv gw gm B cR D cD N cL:Nat)(aR aD aL:PK)(vT:Value)(F:Nat->Prop)(V W M:Nat->PI)(rest:List (PI×PI))(Le:PI)(w:World)
 (hS:SvSt w g gf K H Z n gv gw gm (slice aR B cR) vT (slice aD D cD) (slice aL N cL) F V W M)
 (hR:(fe rest).ok w Any [slice aR B cR])(hL:(rI Le).ok w Any [slice aL N cL])(hN:rest.length=B)(b2:Le.length=N)(cM:B<=1000)(b3:N<=1000)(cO:D<=64)(hk:fB K H Z=true)(hn:n=K+H)
 (b5:∀i∈Le,i<B)(b6:∀x∈rest,x.1.length<=1000/\(∀c∈x.1,c<n)/\Byt Z x.2)(b7:∀c,c<n->Byt D (W c)/\Byt Z (M c)):
 Calls prog 237 #[pointer (some ⟨g,0,none⟩)] w λj O=>∃va vb,j=returned (.tuple #[va,vb])/\
  Two O w.heap.size va (sM K H D (rest.map Prod.fst) W Le) vb (wJ K H Z (rest.map Prod.fst) (λa=>(rest.getD a ([],[])).2) M Le)/\Below w.heap.size w O:=by
 have bc:=ba hk;have b8:∀w:World,(Instr.makeSlice 30 (int i64 (D:Int)) (int i64 (D:Int))).run prog w=.ok (slice (some ⟨w.heap.size,0,none⟩) D D) (w.alloc (cells (bK (replicate D 0)) 5)):=λw=>dR (n:=D) (by omega) w;have cd:∀w:World,(Instr.makeSlice 30 (int i64 (Z:Int)) (int i64 (Z:Int))).run prog w=.ok (slice (some ⟨w.heap.size,0,none⟩) Z Z) (w.alloc (cells (bK (replicate Z 0)) 5)):=λw=>dR (n:=Z) (by omega) w;have HS:=ae hS;have HR:=ae hR;have HL:=ae hL;have HN:=ae hN;have au:=ae b2;have ce:=ae b5;have HC:=ae b6;have ak:=ae b7;have HK:=ae hk;have cf:=ae hn;have cP:1<=Z:=by omega
 have cS:Z<=24:=by omega
 have b:=hS.blk.cell 7;have d:=hS.blk.cell 8;unfold svC at b d;have av:PH (Two w w.heap.size (slice none 0 0) ((Le.take 0).map λa=>bR W ((rest.map Prod.fst).getD a []) (replicate D 0)) (slice none 0 0) ((Le.take 0).map λa=>bR M ((rest.map Prod.fst).getD a []) ((rest.getD a ([],[])).2))):=ae (Two.begin w _);have a9:=ae (az w.heap.size w);clear hS hR hL hN b2 b5 b6 b7 bc hk hn;go_enter func237,ntmps237;go_wp2_with fail;clear b d;go_loopw [2,3,29] (λva vb i wr=>∃d:Nat,d<=N/\i=int i64 d/\PH (Two wr w.heap.size va ((Le.take d).map λa=>bR W ((rest.map Prod.fst).getD a []) (replicate D 0)) vb ((Le.take d).map λa=>bR M ((rest.map Prod.fst).getD a []) ((rest.getD a ([],[])).2)))/\PH (Below w.heap.size w wr)) (λ_ _ i _=>N-(intOf i).toNat)
 case atStart=>exact⟨0,by omega,rfl,av,a9⟩
 case round=>
  clear av a9;obtain⟨d,cT,rfl,k,A⟩:=hrel;obtain⟨a2,n2,c2,rfl⟩:=k.o.oa.sl;obtain⟨a3,n3,c3,rfl⟩:=k.o.ob.sl;have L:=A.o.size;by_cases aw:d<N
  ·have cg:(d:Int)<(N:Int):=by omega
   have b:d<Le.length:=(by rw[au.o];exact aw);obtain⟨al,cl,el,am,-⟩:=dI ((rI Le).new HL.o A.o) au.o;injection el with E _ P;subst E P;obtain⟨bl,ol,rfl,cA,cB⟩:=iA am aw;have hr:Le.getD d 0<B:=ce.o _ (by rw[af,ah b];exact aQ _)
   have bd:PH ((Le.take (d+1)).map (λa=>bR W ((rest.map Prod.fst).getD a []) (replicate D 0))=(Le.take d).map (λa=>bR W ((rest.map Prod.fst).getD a []) (replicate D 0))++[bR W (rest.getD (Le.getD d 0) ([],[])).1 (replicate D 0)]):=ae (by
    rw[aN b,aU,map_cons,map_nil,eG,af (l:=Le),ah b];rfl)
   have be:PH ((Le.take (d+1)).map (λa=>bR M ((rest.map Prod.fst).getD a []) ((rest.getD a ([],[])).2))=(Le.take d).map (λa=>bR M ((rest.map Prod.fst).getD a []) ((rest.getD a ([],[])).2))++[bR M (rest.getD (Le.getD d 0) ([],[])).1 (rest.getD (Le.getD d 0) ([],[])).2]):=ae (by
    rw[aN b,aU,map_cons,map_nil,eG,af (l:=Le),ah b];rfl)
   have ch:((Le.take d).map λa=>bR W ((rest.map Prod.fst).getD a []) (replicate D 0)).length<=100000:=(by rw[aC,aG];omega);have ci:((Le.take d).map λa=>bR M ((rest.map Prod.fst).getD a []) ((rest.getD a ([],[])).2)).length<=100000:=(by rw[aC,aG];omega);have r:rest.getD (Le.getD d 0) ([],[])∈rest:=(by rw[af,ah (by rw[HN.o];exact hr)];exact aQ _);obtain⟨cC,aq,o⟩:=HC.o _ r;have ca:=ae ((fe rest).new HR.o A.o);obtain⟨e,f,a4,q4,c4,a5,G,c5,rfl,_,Q,a7,bb,s,t,q,u⟩:=mH ca.o HN.o hr;obtain rfl:G=Z:=(by rw[u];exact o.1);obtain⟨cE,cF,E,v,-⟩:=dI s q.symm;injection E with E _ S;subst E S;obtain⟨cI,cK,E,z,cb,-⟩:=fC t o.1;injection E with E _ S;subst E S;generalize (Le.take d).map (λa=>bR W ((rest.map Prod.fst).getD a []) (replicate D 0))=LA at*;generalize (Le.take d).map (λa=>bR M ((rest.map Prod.fst).getD a []) ((rest.getD a ([],[])).2))=LB at*;generalize rest.getD (Le.getD d 0) ([],[])=x at*;generalize Le.getD d 0=a at*;have cU:(a:Int)<(B:Int):=(by omega);have m:=ae (HS.o.new A.o);have p5:∀y,(wr.drewN y).cell? ⟨g,5,none⟩=some (slice (some ⟨e,f,none⟩) B cR):=λy=>m.o.blk.cell 5;have cc:=ae v;have cj:=ae z;have bi:=ae aq;have bj:=ae o;have b9:=ae q;have cV:q4<=1000:=(by omega);clear s t q u r b am v z aq o;have b:=replicate D 0;have CC:=ae (λ(W:World) (h:Below wr.heap.size wr W)=>dJ x.2 _ a5 G c5 W (cj.o.below h (aj _) |>.more h.size) (aj _) cb (by omega));have an:∀y,Below wr.heap.size wr ((wr.alloc (cells (bK (replicate D 0)) 5)).drewN y):=λy=>below_drewN ((az wr.heap.size wr).alloc (aj _) _) y;have I:=ae an;clear b;go_upto_region 5 with fail;go_cut [7,8] (λv7 v8 wx=>∃o q r s,v7=slice o D q/\v8=slice r G s/\PH (OwnB wx wr.heap.size (slice o D q) (replicate D 0))/\PH (OwnB wx wr.heap.size (slice r G s) x.2)/\PH (∀e,(Value.slice o D q).ownBlock=some e->(Value.slice r G s).ownBlock≠some e)/\PH (Below wr.heap.size wr wx))
   case first=>
    have b:PH (∀W,Below wr.heap.size wr W->W.cell? ⟨g,5,none⟩=some (slice (some ⟨e,f,none⟩) B cR)/\W.cell? ⟨e,f+a*2+1,none⟩=some (slice a5 G c5)):=ae λW hW=>⟨(hW.cell (p:=⟨g,5,none⟩) m.o.blk.lt).trans (m.o.blk.cell 5),(hW.cell (p:=⟨e,f+a*2+1,none⟩) Q).trans bb⟩;obtain⟨f1,f2⟩:=b.o wr (az _ _);clear a7 bb p5 an
    go_region_held3 (λO=>O.cell? ⟨g,5,none⟩=some (slice (some ⟨e,f,none⟩) B cR)/\O.cell? ⟨e,f+a*2+1,none⟩=some (slice a5 G c5))
     (first | exact b.o _ (below_drewN (az _ _) 1) | exact b.o _ (I.o 1) | exact b.o _ (I.o 0) | (refine b.o _ ?_;first | assumption | solve_by_elim))
     (first
       | simp only[]
       | (go_at_call 86
          refine(CC.o _ (by first | exact I.o 1 | exact below_drewN (az _ _) 1)).mono ?_;rintro j w3 ⟨ck,rfl,t,Q⟩;have u:Below wr.heap.size wr w3:=(by first | exact(I.o 1).trans (Q.mono (I.o 1).size) | exact(below_drewN (az _ _) 1).trans Q);have v:∀f,Below wr.heap.size wr (w3.alloc f):=λf=>u.alloc u.size f))
    all_goals(
     go_wp2_with fail;go_meet
     first
     | exact nk bj.o.1 (by unfold maxLen;omega) (t.base (I.o 1).size) ((Blk.drew (Blk.new wr 5 (bK (replicate D 0)))).below Q (by simp)) (aj _) (λj=>absurd (t.lt _ j).1 (by simp)) u
     | exact nk bj.o.1 (by unfold maxLen;omega) (fI t ((az _ _).alloc (aj _) _)) (Blk.new w3 5 (bK (replicate D 0))) u.size (λj=>absurd (t.lt _ j).2 (Nat.lt_irrefl _)) (v _))
   case rest=>
    clear CC I;obtain⟨o,q,r,s,rfl,rfl,t,u,bk,ac⟩:=hcut;have b:=(ac.o.cell (p:=⟨g,5,none⟩) m.o.blk.lt).trans (m.o.blk.cell 5);have v:=(ac.o.cell (p:=⟨e,f+a*2,none⟩) Q).trans a7;change wc.cell? _=some (slice (some ⟨e,f,none⟩) B cR) at b;have aA:PH (OwnB wc wr.heap.size (slice o D q) (bR W (x.1.take 0) (replicate D 0))):=t;have aB:PH (OwnB wc wr.heap.size (slice r G s) (bR M (x.1.take 0) x.2)):=u;clear t u p5 a7 bb an;generalize wr=z at*;go_wp2_with fail;clear b v;go_loopw [53] (λi wq=>∃b:Nat,b<=q4/\i=int i64 b/\PH (OwnB wq z.heap.size (slice o D q) (bR W (x.1.take b) (replicate D 0)))/\PH (OwnB wq z.heap.size (slice r G s) (bR M (x.1.take b) x.2))/\PH (Below z.heap.size z wq)) (λi _=>q4-(intOf i).toNat)
    case atStart=>exact⟨0,by omega,rfl,aA,aB,ac⟩
    case round=>
     clear aA aB ac;obtain⟨b,cm,rfl,t,u,v⟩:=hrel;by_cases ad:b<q4
     ·have cn:(b:Int)<(q4:Int):=by omega
      obtain⟨b4,o4,rfl,co,bo⟩:=iA (cc.o.below v.o (aj _)) ad;have T:b<x.1.length:=(by rw[<-b9.o];exact ad);have aq:x.1.getD b 0<n:=bi.o _ (by rw[af,ah T];exact aQ _);obtain⟨bw,bm⟩:=ak.o _ aq;have aE:Byt D (bR W (x.1.take b) (replicate D 0)):=dF (Byt.zero D) λc hc=>(ak.o c (bi.o c (bD hc))).1;have J:Byt G (bR M (x.1.take b) x.2):=dF bj.o λc hc=>(ak.o c (bi.o c (bD hc))).2;have X:=uW g gf K H G n gv gw gm 1 (x.1.getD b 0) D q s o r _ vT _ _ F V W M _ _ z wr m.o v.o (by decide) aq bw bm t.o u.o aE J bk.o (by omega) (by omega);rw[tv bw.2,tv bm.2,<-mZ T,<-mZ T] at X;have X:=ae X;clear aE J bw bm T t u;generalize x.1.getD b 0=c at*;go_wp2_with fail;refine X.o.mono ?_;rintro j w4 ⟨rfl,aF,aK,aM⟩;have bp:=ae aF;have bs:=ae aK;have bt:=ae (v.o.trans aM);clear aF aK aM X bo v;go_wp2_with fail;go_roundw
      case rel=>exact⟨b+1,by omega,by go_num,bp,bs,bt⟩
      case measure=>simp[intOf];omega
     ·obtain rfl:b=q4:=by omega
      have Y:x.1.take b=x.1:=aJ (by rw[b9.o];exact aj _);rw[Y] at t u;clear Y;have aO:=ae (Two.row k.o L (gG t.o));have aS:=ae (Two.row k.o L (gG u.o));have ag:=ae (k.o.new v.o);have aT:w.heap.size<=wr.heap.size:=aP L v.o.size;have bv:(LA.map rB).length<=1000000:=(by rw[aC];omega);have bx:(LB.map rB).length<=1000000:=(by rw[aC];omega);clear t u;generalize bR W x.1 (replicate D 0)=ra at*;generalize bR M x.1 x.2=rb at*
      go_wp2_with (at_builtin;refine gM (w:=wr) rfl _ _ rfl underlying45 dA rfl (by decide) (by decide) ag.o.oa aT bv (R:=rB ra) aO.o rfl rfl rfl ?_)
      intro cp w2 T J aV aa ab;have P:LA.map rB++[rB ra]=(LA++[ra]).map rB:=(by rw[aU];rfl);rw[P] at T;have ai:=ae (Two.one ag.o T aa ab);have aX:=ae (nu aS.o aa ab);have bB:w.heap.size<=w2.heap.size:=aP aT aV;have a0:=ae J;obtain⟨cq,cs,ct,rfl⟩:=T.sl;clear P T J aV aa ab ag aO aS
      go_wp2_with (at_builtin;refine gM (w:=w2) rfl _ _ rfl underlying45 dA rfl (by decide) (by decide) ai.o.ob bB bx (R:=rB rb) aX.o rfl rfl rfl ?_)
      intro cu w3 U a1 b0 ao ap;have S:LB.map rB++[rB rb]=(LB++[rb]).map rB:=(by rw[aU];rfl);rw[S] at U;have a6:=ae (Two.one ai.o.swap U ao ap).swap;rw[<-bd.o,<-be.o] at a6;have b1:=ae (((A.o.trans (v.o.mono L)).trans a0.o).trans a1);obtain⟨cv,cw,cz,rfl⟩:=U.sl;clear S U a1 b0 ao ap ai aX a0;go_wp2_with fail;go_roundw
      case rel=>exact⟨d+1,by omega,by go_num,a6,b1⟩
      case measure=>simp[intOf];omega
  ·obtain rfl:d=N:=by omega
   have Y:Le.take d=Le:=aJ (by rw[au.o];exact aj _);rw[Y] at k;clear Y;have m:=ae (HS.o.new A.o);have p1:=m.o.blk.cell 1;have p2:=m.o.blk.cell 2;have p3:=m.o.blk.cell 3;unfold svC at p1 p2 p3;have bc:=ba HK.o;have CP:=ae (pJ K H Z wr (by omega) (by omega) (by omega));unfold dD at CP;have cU:K<=16:=(by omega);have cV:H<=4:=(by omega);clear bc;rename World=>w1;go_wp2_with fail;refine CP.o.mono ?_;rintro j wp ⟨ck,rfl,hM,f⟩;obtain⟨ar,cr,rfl,ca,-⟩:=hM.rdM2 (dP K H H);have cb:=f.size;have a7:PH ((rM (cG K H H)).ok wp (λe=>(True/\some e≠(Value.slice a3 n3 c3).ownBlock)/\some e≠(Value.slice a2 n2 c2).ownBlock) [slice ar H cr]):=ae ((rM _).more (Cq hM) λe Q _=>⟨⟨trivial,λj=>by have:=(k.o.ob.lt e j.symm).2;have:w1.heap.size<=e:=Q;omega⟩,λj=>by have:=(k.o.oa.lt e j.symm).2;have:w1.heap.size<=e:=Q;omega⟩);have b9:=ae (A.o.trans (f.mono L));have bi:=ae (k.o.new f);have cj:=ae (m.o.new f);have cA:w.heap.size<=wp.heap.size:=(by omega);have cB:=ae (qN K H H);have bj:=ae (dP K H H);obtain⟨G,aq⟩:∃G,G=Le.map λa=>bR W ((rest.map Prod.fst).getD a []) (replicate D 0):=⟨_,rfl⟩;obtain⟨Q,bb⟩:∃Q,Q=Le.map λa=>bR M ((rest.map Prod.fst).getD a []) ((rest.getD a ([],[])).2):=⟨_,rfl⟩;rw[<-aq,<-bb] at bi;have cX:G.length<=1000:=(by rw[aq,aC,au.o];exact b3);have cY:Q.length<=1000:=(by rw[bb,aC,au.o];exact b3);have cC:=ae aq;have a9:=ae bb
   have av:PH (Two wp w.heap.size (slice a2 n2 c2) (G++((cG K H H).take 0).map λa=>dH W a (replicate D 0) (K+H)) (slice a3 n3 c3) (Q++((cG K H H).take 0).map λa=>dH M a (replicate Z 0) (K+H))):=ae (by
    rw[take_zero,map_nil,map_nil,append_nil,append_nil];exact bi.o)
   have cE:PH (Below wp.heap.size wp wp):=ae (az _ _);clear hM ca f CP p1 p2 p3 k A aq bb bi cb m;go_wp2_with fail;go_loopw [2,3,78] (λva vb i wr=>∃d:Nat,d<=H/\i=int i64 d/\PH (Two wr w.heap.size va (G++((cG K H H).take d).map λa=>dH W a (replicate D 0) (K+H)) vb (Q++((cG K H H).take d).map λa=>dH M a (replicate Z 0) (K+H)))/\PH ((rM (cG K H H)).ok wr (λe=>(True/\some e≠vb.ownBlock)/\some e≠va.ownBlock) [slice ar H cr])/\PH (Below w.heap.size w wr)) (λ_ _ i _=>H-(intOf i).toNat)
   case atStart=>exact⟨0,by omega,rfl,av,a7,b9⟩
   case round=>
    clear av cE a7 b9 cj cA;obtain⟨f,c0,rfl,k,a7,A⟩:=hrel;obtain⟨a2,n2,c2,rfl⟩:=k.o.oa.sl;obtain⟨a3,n3,c3,rfl⟩:=k.o.ob.sl;have L:=A.o.size;by_cases aw:f<H
    ·have cg:(f:Int)<(H:Int):=by omega
     have aq:f<(cG K H H).length:=by rw[bj.o];exact aw
     have bd:PH ((G++((cG K H H).take (f+1)).map λa=>dH W a (replicate D 0) (K+H))=(G++((cG K H H).take f).map λa=>dH W a (replicate D 0) (K+H))++[dH W ((cG K H H).getD f []) (replicate D 0) (K+H)]):=ae (by
      rw[aN aq,aU,map_cons,map_nil,append_assoc,af,ah aq];rfl)
     have be:PH ((Q++((cG K H H).take (f+1)).map λa=>dH M a (replicate Z 0) (K+H))=(Q++((cG K H H).take f).map λa=>dH M a (replicate Z 0) (K+H))++[dH M ((cG K H H).getD f []) (replicate Z 0) (K+H)]):=ae (by
      rw[aN aq,aU,map_cons,map_nil,append_assoc,af,ah aq];rfl)
     have ch:(G++((cG K H H).take f).map λa=>dH W a (replicate D 0) (K+H)).length<=100000:=(by rw[aH,aC,aG];omega);have ci:(Q++((cG K H H).take f).map λa=>dH M a (replicate Z 0) (K+H)).length<=100000:=(by rw[aH,aC,aG];omega);obtain⟨c1,c6,er,bi,-⟩:=eZ a7.o bj.o;injection er with E _ P;subst E P;obtain⟨br,or,a8,c8,rfl,c7,ca,bb,-⟩:=bi.at aw;obtain⟨am,cb⟩:=cB.o.get aq;rw[am] at ca bb;generalize (G++((cG K H H).take f).map λa=>dH W a (replicate D 0) (K+H))=LA at*;generalize (Q++((cG K H H).take f).map λa=>dH M a (replicate Z 0) (K+H))=LB at*;generalize (cG K H H).getD f []=a at*;have cF:=ae bb;have cI:=ae cb;have m:=ae (HS.o.new A.o);have c9:=ae am;generalize cc:K+H=nn at*;have da:nn<=20:=(by omega);have cK:n=nn:=cf.o;subst cK;have db:=ae cc;clear am cb bb bi aq cc;have an:∀y,Below wr.heap.size wr ((wr.alloc (cells (bK (replicate D 0)) 5)).drewN y):=λy=>below_drewN ((az wr.heap.size wr).alloc (aj _) _) y;have aq:∀y,Below wr.heap.size wr ((wr.alloc (cells (bK (replicate Z 0)) 5)).drewN y):=λy=>below_drewN ((az wr.heap.size wr).alloc (aj _) _) y;have I:=ae an;have y:=ae aq;clear an aq;go_upto_region 16 with fail;go_cut [13,14] (λv7 v8 wx=>∃o q r s,v7=slice o D q/\v8=slice r Z s/\PH (OwnB wx wr.heap.size (slice o D q) (replicate D 0))/\PH (OwnB wx wr.heap.size (slice r Z s) (replicate Z 0))/\PH (∀e,(Value.slice o D q).ownBlock=some e->(Value.slice r Z s).ownBlock≠some e)/\PH (Below wr.heap.size wr wx))
     case first=>
      have e:∀W,Below wr.heap.size wr W->W.cell? ⟨g,3,none⟩=some (int i64 Z):=λW hW=>(hW.cell (p:=⟨g,3,none⟩) m.o.blk.lt).trans (m.o.blk.cell 3);have f1:=e wr (az _ _);have f2:=e wr.drew (below_drewN (az _ _) 1);have f3:=e _ (I.o 0);have f4:=e _ (I.o 1);have f5:=e _ (y.o 0);have f6:=e _ (y.o 1);change (World.alloc _ _).cell? _=_ at f3 f5;change (World.drew _).cell? _=_ at f4 f6;clear e;go_region_law (first | simp only[b8] | simp only[cd])
      all_goals(
       go_wp2_with fail;go_meet
       first
       | (obtain⟨k1,k2,kb⟩:=qd wr (bK (replicate D 0)) (bK (replicate Z 0)) 5 5
          have e:=j6 (C:=wr.heap.size) (k2.drewN 1) (by omega) (by rw[aI];unfold maxLen;omega);rw[aI] at e;exact nk aI (by unfold maxLen;omega) e (k1.drewN 1) (aj _) (λj=>by simp[Value.ownBlock] at j) (below_drewN kb 1))
       | (obtain⟨k1,k2,kb⟩:=qd wr (bK (replicate Z 0)) (bK (replicate D 0)) 5 5
          have e:=j6 (C:=wr.heap.size) (k1.drewN 1) (by omega) (by rw[aI];unfold maxLen;omega);rw[aI] at e;exact nk aI (by unfold maxLen;omega) e (k2.drewN 1) (by omega) (λj=>by simp[Value.ownBlock] at j) (below_drewN kb 1)))
     case rest=>
      clear I y;obtain⟨o,q,r,s,rfl,rfl,t,u,bk,ac⟩:=hcut;have aA:PH (OwnB wc wr.heap.size (slice o D q) (dH W a (replicate D 0) 0)):=t;have aB:PH (OwnB wc wr.heap.size (slice r Z s) (dH M a (replicate Z 0) 0)):=u;clear t u ca;generalize wr=z at*;go_wp2_with fail;go_loopw [92] (λi wq=>∃b:Nat,b<=n/\i=int i64 b/\PH (OwnB wq z.heap.size (slice o D q) (dH W a (replicate D 0) b))/\PH (OwnB wq z.heap.size (slice r Z s) (dH M a (replicate Z 0) b))/\PH (Below z.heap.size z wq)) (λi _=>n-(intOf i).toNat)
      case atStart=>exact⟨0,by omega,rfl,aA,aB,ac⟩
      case round=>
       clear aA aB ac;obtain⟨b,cm,rfl,t,u,v⟩:=hrel;by_cases ad:b<n
       ·have cn:(b:Int)<(n:Int):=by omega
        obtain⟨b4,o4,rfl,co,e⟩:=(cF.o.below v.o (aj _)).atB ad;have bo:=e b ad;clear e;obtain⟨bw,bm⟩:=ak.o _ ad;have aE:Byt D (dH W a (replicate D 0) b):=fA (Byt.zero D) b λc hc=>(ak.o c (by omega)).1.1;have J:Byt Z (dH M a (replicate Z 0) b):=fA (Byt.zero Z) b λc hc=>(ak.o c (by omega)).2.1
        have e:Calls _ _ _ _ λj O=>j=returned (.tuple #[])/\OwnB O z.heap.size (slice o D q) (dH W a (replicate D 0) (b+1))/\OwnB O z.heap.size (slice r Z s) (dH M a (replicate Z 0) (b+1))/\Below z.heap.size wr O:=
         uW g gf K H Z n gv gw gm (a.getD b 0) b D q s o r _ vT _ _ F V W M _ _ z wr m.o v.o (getD_lt cI.o b) ad bw bm t.o u.o aE J bk.o (by omega) (by omega)
        have X:=ae e;clear aE J bw bm t u e;generalize a.getD b 0=e at*;go_wp2_with fail;refine X.o.mono ?_;rintro j w4 ⟨rfl,aF,aK,aM⟩;have bp:=ae aF;have bs:=ae aK;have bt:=ae (v.o.trans aM);clear aF aK aM X bo v;go_wp2_with fail;go_roundw
        case rel=>exact⟨b+1,by omega,by go_num,bp,bs,bt⟩
        case measure=>simp[intOf];omega
       ·obtain rfl:b=n:=by omega
        have aO:=ae (Two.row k.o L (gG t.o));have aS:=ae (Two.row k.o L (gG u.o));have ag:=ae (k.o.new v.o);have e:=ae ((rM _).new a7.o v.o);have aT:w.heap.size<=wr.heap.size:=aP L v.o.size;have bv:(LA.map rB).length<=1000000:=(by rw[aC];omega);have bx:(LB.map rB).length<=1000000:=(by rw[aC];omega);clear t u;generalize dH W a (replicate D 0) b=ra at*;generalize dH M a (replicate Z 0) b=rb at*
        go_wp2_with (at_builtin;refine gM (w:=wr) rfl _ _ rfl underlying45 dA rfl (by decide) (by decide) ag.o.oa aT bv (R:=rB ra) aO.o rfl rfl rfl ?_)
        intro cp w2 T J aV aa ab;have P:LA.map rB++[rB ra]=(LA++[ra]).map rB:=(by rw[aU];rfl);rw[P] at T;have ai:=ae (Two.one ag.o T aa ab);have aX:=ae (nu aS.o aa ab);have O:=ae (nu e.o aa ab);have bB:w.heap.size<=w2.heap.size:=aP aT aV;have a0:=ae J;obtain⟨cq,cs,ct,rfl⟩:=T.sl;clear P T J aV aa ab ag aO aS e
        go_wp2_with (at_builtin;refine gM (w:=w2) rfl _ _ rfl underlying45 dA rfl (by decide) (by decide) ai.o.ob bB bx (R:=rB rb) aX.o rfl rfl rfl ?_)
        intro cu w3 U a1 b0 ao ap;have S:LB.map rB++[rB rb]=(LB++[rb]).map rB:=(by rw[aU];rfl);rw[S] at U;have a6:=ae (Two.one ai.o.swap U ao ap).swap;have e:=ae (nu O.o ao ap);rw[<-bd.o,<-be.o] at a6;have b1:=ae (((A.o.trans (v.o.mono L)).trans a0.o).trans a1);obtain⟨cv,cw,cz,rfl⟩:=U.sl;clear S U a1 b0 ao ap ai aX a0 O;go_wp2_with fail;go_roundw
        case rel=>exact⟨f+1,by omega,by go_num,a6,e,b1⟩
        case measure=>simp[intOf];omega
    ·obtain rfl:f=H:=by omega
     have Y:(cG K f f).take f=cG K f f:=aJ (by rw[bj.o];exact aj _);rw[Y,cC.o,a9.o] at k;clear Y;go_wp2_with fail;go_ret2;exact⟨_,_,rfl,k.o,A.o⟩
theorem Lr{l:PI}(c:l.Pairwise (·< ·)):Pd l:=λa b=>by
 rw[af,af,ah (by omega),ah b];exact pairwise_iff_getElem.1 c a (a+1) (by omega) b (by omega)
theorem Im{n Z:Nat}{m:Nat->PI}{kn:List Bool}{E:List (PI×PI)}(g:vI n Z m E)(h:∀x∈E,x.1.Pairwise (·< ·))(i:∀c,c<n->Byt Z (m c)):
 ∀x∈fL kn m Z E,x.1.length<=1000/\(∀c∈x.1,c<n)/\Byt Z x.2/\Pd x.1:=by
 intro x d;unfold fL at d;obtain⟨j,_⟩:=mem_filter.1 d;obtain⟨a,e,rfl⟩:=aY.1 j;obtain⟨l,k,o⟩:=g a e;have f:∀c∈dL kn a.1,c<n:=λc b=>k c (mem_filter.1 b).1;refine⟨?_,f,dF (Byt.zero Z) λc b=>i c (f c b),Lr (List.Pairwise.filter _ (h a e))⟩;show(dL kn a.1).length<=1000;have:(dL kn a.1).length<=a.1.length:=length_filter_le _ _;omega
theorem Ls{n:Nat}{l:List PI}{St:List (Nat×Nat)}{De Le:PI}(P:oI n l St De Le):St.length<=l.length/\De.length<=n/\Le.Nodup:=by
 refine⟨?_,jb (nodup_append.1 P.cols).2.1 λa b=>(P.all a).2 (.inr b),?_⟩
 ·rw[<-aC (f:=Prod.fst)]
  refine jb P.rows λb c=> ?_;obtain⟨⟨a,d⟩,e,g⟩:=aY.1 c;obtain⟨h,i,j⟩:=bC e;have:a=b:=g;subst this;exact(P.step h a d (by rw[ah i,j])).1
 ·rw[P.left]
  exact nodup_range.filter _
theorem Pz{w:World}{F:Nat->Prop}{g:Nat}{t:TypeId}{e:Array Value}{d:PI}{v:Value}(a:(rN d).ok w F [v])(k:Blk w g t e)(l:∀n:Nat,Value.int .u8 (n:Int)∉e.toList):(rN d).ok w (λb=>F b/\b≠g) [v]:=by
 unfold rN at a ⊢;split at a
 ·rename_i c
  rw[bg c];exact a
 ·rename_i c
  rw[bh c];obtain⟨m,n,o,p,q,r,s,f,u⟩:=a;refine⟨m,n,o,p,q,r,s,f,λx=> ?_⟩;obtain⟨b,h,y,z,i⟩:=u x;refine⟨b,h,y,⟨z,λA=> ?_⟩,i⟩;subst A;rw[bG] at f;have j:=i 0 _ (dQ (by omega));rw[Nat.add_zero,k.cell h] at j;exact l _ (Array.mem_toList_iff.2 (Array.mem_of_getElem? j))
theorem qL{B:Nat}{w wa d:World}(a:Below B w wa)(c:Below 0 wa d)(f:∀b,b<B->d.heap[b]? =wa.heap[b]?):Below B w d:=
 ⟨c.os.trans a.os,c.tape.trans a.tape,c.output.trans a.output,aP a.size c.size,λb e=>(f b e).trans (a.block b e)⟩
theorem PD{K H D Z n:Nat}{R:List PI}{W M z:Nat->PI}{Le:PI}(i:n=K+H)(g:∀r,∀c∈R.getD r [],c<n)(j:∀r∈Le,Byt Z (z r))(d:∀c,c<n->Byt D (W c)/\Byt Z (M c)):
 Wf D (sM K H D R W Le)/\Wf Z (wJ K H Z R z M Le)/\(sM K H D R W Le).length=Le.length+H/\(wJ K H Z R z M Le).length=Le.length+H:=by
 subst i;refine⟨λr f=> ?_,λr f=> ?_,?_,?_⟩
 ·rcases bz.1 f with a | a
  ·obtain⟨e,h,rfl⟩:=aY.1 a
   exact dF (Byt.zero D) λc b=>(d c (g e c b)).1
  ·obtain⟨k,_,rfl⟩:=aY.1 a
   exact fA (Byt.zero D) (K+H) λc b=>(d c b).1.1
 ·rcases bz.1 f with a | a
  ·obtain⟨e,h,rfl⟩:=aY.1 a
   exact dF (j e h) λc b=>(d c (g e c b)).2
  ·obtain⟨k,_,rfl⟩:=aY.1 a
   exact fA (Byt.zero Z) (K+H) λc b=>(d c b).2.1
 ·unfold sM
  rw[aH,aC,aC,dP]
 ·unfold wJ
  rw[aH,aC,aC,dP]
