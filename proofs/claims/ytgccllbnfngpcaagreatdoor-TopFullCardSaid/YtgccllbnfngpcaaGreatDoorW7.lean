import Derived.Test.YtgccllbnfngpcaaGreatDoorW6
set_option linter.unusedVariables false
set_option maxRecDepth 100000
set_option maxHeartbeats 400000000
namespace Go.Proofs.YtgccllbnfngpcaaGreatDoor
open Go.RowKit _root_.Go.Proofs.Tryz List
open Value (int slice pointer bool)
open IntKind (i64)
open Ending (returned)
open Obj (cells)
theorem wK{P:Program}{Q:Exit->Act->World->Prop}{a:Act}{w:World}{rest:Code}(l:Nat)(d:Nat->Act->World->Prop)(i:Nat)
 (k:findLabel ((Code.label l).seq rest) l=some (Code.skip.seq rest))(first:d i a w)
 (j:∀n a w,d n a w->rest.wp P (Exit.jump l (λe f=>∃c,c<n/\d c e f) Q) a w):(Code.scope ((Code.label l).seq rest)).wp P Q a w:=by
 have m:∀n a w,d n a w->rest.wp P (Exit.jump l (λa w=>∃n,d n a w) Q) a w:=λn a w b=>wp_mono (j n a w b) λg e f b=>by
  cases g with
  | goto l'=>exact⟨b.1,let ⟨c,_,h⟩:=b.2;⟨c,h⟩⟩
  | normal=>exact b
  | exit id=>exact b
  | ret=>exact b
  | panic ch=>exact b
  | outgrown=>exact b
 refine wp_scope_jumps l (λa w=>∃n,d n a w) (λa w=>leastOf (λn=>d n a w)) k ?_ ?_
 ·exact wp_seq (wp_label (m i a w first))
 ·intro a w o
  refine wp_seq (wp_skip ?_);refine wp_mono (j _ a w (leastOf_spec o).1) ?_;intro g e f b;cases g with
  | goto l'=>
    obtain⟨p,c,q,h⟩:=b;exact⟨p,⟨c,h⟩,Nat.lt_of_le_of_lt ((leastOf_spec ⟨c,h⟩).2 c h) q⟩
  | normal=>exact b
  | exit id=>exact b
  | ret=>exact b
  | panic ch=>exact b
  | outgrown=>exact b
def rN(l:PI):Rp:=if l=[] then rV (slice none 0 0) else rB l
theorem KT{l:PI}{w:World}{F:Nat->Prop}{v:Value}(b:(rN l).ok w F [v]):∃a c,v=slice a l.length c/\Rd w w.heap.size a l.length (bF l)/\(a=none->c=0)/\l.length<=c/\c<=maxLen/\(l=[]->a=none/\c=0)/\(l≠[]->a≠none):=by
 unfold rN at b;split at b
 ·rename_i e
  subst e;obtain⟨d,_⟩:=b;injection d with d _;exact⟨none,0,d,qY _ _ _,λ_=>rfl,aj _,bu _,λ_=>⟨rfl,rfl⟩,λb=>absurd rfl b⟩
 ·rename_i e
  obtain⟨a,c,f,d,g,h,i⟩:=fC b rfl;refine⟨a,c,f,d,g,h,i,λb=>absurd b e,λ_ f=> ?_⟩;have:=g f;have:l.length=0:=(by omega);exact e (eq_nil_of_length_eq_zero this)
structure PSt (w:World) (g gk gv n:Nat) (sl:Value) (kn:List Bool) (vl:List PI):Prop where
 blk:Blk w g 353 #[sl,slice (some ⟨gk,0,none⟩) n n,slice (some ⟨gv,0,none⟩) n n]
 knb:Blk w gk 4 (bX kn).toArray
 kl:kn.length=n
 vll:vl.length=n
 hs:∃hs:List Value,Blk w gv 30 hs.toArray/\hs.length=n/\∀c,c<n->(rN (vl.getD c [])).ok w (fun b=>b≠g/\b≠gk/\b≠gv) [hs.getD c undef]
theorem PSt.ne{w:World}{g gk b n:Nat}{d:Value}{kn:List Bool}{vl:List PI}(a:PSt w g gk b n d kn vl):g≠gk/\g≠b/\gk≠b:=by
 obtain⟨e,c,_⟩:=a.hs;exact⟨Blk.ne a.blk a.knb (by decide),Blk.ne a.blk c (by decide),Blk.ne a.knb c (by decide)⟩
theorem PSt.new{w w':World}{g gk c n:Nat}{d:Value}{kn:List Bool}{vl:List PI}(a:PSt w g gk c n d kn vl)(b:Below w.heap.size w w'):PSt w' g gk c n d kn vl:=by
 obtain⟨f,e,h,i⟩:=a.hs;exact⟨a.blk.below b a.blk.lt,a.knb.below b a.knb.lt,a.kl,a.vll,f,e.below b e.lt,h,λj k=>(rN _).new (i j k) b⟩
theorem PSt.rdk{w:World}{g gk b n:Nat}{c:Value}{kn:List Bool}{vl:List PI}(a:PSt w g gk b n c kn vl):Rd w w.heap.size (some ⟨gk,0,none⟩) n (bX kn):=
 ⟨by rw[lF];exact a.kl,λ_=>⟨gk,0,rfl,a.knb.lt,λd f e=>by rw[Nat.zero_add,a.knb.cell d];simpa using e⟩⟩
theorem rJ{hs:List Value}{c:Nat}(a:c<hs.length):hs[c]? =some (hs.getD c undef):=by rw[af,ah a];rfl
theorem PSt.rdv{w:World}{g gk b n:Nat}{h:Value}{kn:List Bool}{vl:List PI}(c:PSt w g gk b n h kn vl):RdM w w.heap.size (some ⟨b,0,none⟩) n vl:=by
 obtain⟨i,d,j,k⟩:=c.hs;refine⟨c.vll,i,⟨j,λ_=>⟨b,0,rfl,d.lt,λa f e=>by rw[Nat.zero_add,d.cell a];simpa using e⟩⟩,λa l e=> ?_⟩;have m:a<n:=by have:=(List.getElem?_eq_some_iff.1 e).1;rw[c.vll] at this;exact this
 have o:vl.getD a []=l:=by rw[af,e];rfl
 have f:=k a m;rw[o] at f;obtain⟨p,q,r,s,t,u,v,_⟩:=KT f;exact⟨p,q,by rw[rJ (by omega),r],s,t,u,v⟩
theorem PSt.put{w w':World}{g gk e n:Nat}{m:Value}{kn:List Bool}{vl:List PI}(f:PSt w g gk e n m kn vl){c:Nat}(B:c<n){u:Value}{d:PI}(r:d≠[])(s:(rB d).ok w (λb=>b≠g/\b≠gk/\b≠e) [u])
 (o:∀b,b≠gk->b≠e->w'.heap[b]? =w.heap[b]?)(h:Blk w' gk 4 ((bX kn).toArray.setIfInBounds c (bool true)))(t:∀hs:Array Value,Blk w e 30 hs->Blk w' e 30 (hs.setIfInBounds c u)):PSt w' g gk e n m (kn.set c true) (vl.set c d):=by
 obtain⟨v,x,C⟩:=f.ne;obtain⟨hs,y,z,A⟩:=f.hs;have p:∀a,(a≠g/\a≠gk/\a≠e)->a<w.heap.size->w'.heap[a]? =w.heap[a]? /\(a≠g/\a≠gk/\a≠e):=λa h _=>⟨o a h.2.1 h.2.2,h⟩;refine⟨(o g v x).trans f.blk,?_,by rw[length_set];exact f.kl,by rw[length_set];exact f.vll,hs.set c u,?_,by rw[length_set];exact z,λa q=> ?_⟩
 ·have i:(bX (kn.set c true)).toArray=(bX kn).toArray.setIfInBounds c (bool true):=by unfold bX;simp
  rw[i];exact h
 ·have:=t hs.toArray y
  simpa using this
 ·by_cases j:a=c
  ·subst j
   have k:(vl.set a d).getD a []=d:=(by rw[af,List.getElem?_set,bg rfl,bg (by rw[f.vll];exact q)];rfl);have l:(hs.set a u).getD a undef=u:=(by rw[af,List.getElem?_set,bg rfl,bg (by omega)];rfl);rw[k,l];unfold rN;rw[bh r];exact(rB d).keep s p
  ·have k:(vl.set c d).getD a []=vl.getD a []:=by rw[af,List.getElem?_set,bh (λi=>j i.symm),<-af]
   have l:(hs.set c u).getD a undef=hs.getD a undef:=(by rw[af,List.getElem?_set,bh (λi=>j i.symm),<-af]);rw[k,l];exact(rN _).keep (A a q) p
def cntF(kn:List Bool):Nat:=(kn.filter λa=> !a).length
theorem KU{kn:List Bool}{c:Nat}(a:c<kn.length)(b:kn.getD c false=false):cntF (kn.set c true)<cntF kn:=by
 induction kn generalizing c with
 | nil=>simp at a
 | cons d kn e=>
   cases c with
   | zero=>
     have f:d=false:=b;subst f;simp[cntF]
   | succ c=>
     have:=e (c:=c) (by simpa using a) b;unfold cntF at this ⊢;rw[set_cons_succ,filter_cons,filter_cons];cases d <;> simp_all
def ConsP(n:Nat)(m:Nat->PI)(kn:List Bool)(vl:List PI):Prop:=∀a,a<n->(kn.getD a false=true->vl.getD a []=m a)/\(kn.getD a false=false->vl.getD a []=[])
theorem ConsP.set{n:Nat}{m:Nat->PI}{kn:List Bool}{vl:List PI}(b:ConsP n m kn vl)(i:kn.length=n)(j:vl.length=n){c:Nat}(k:c<n):ConsP n m (kn.set c true) (vl.set c (m c)):=by
 intro a h;by_cases d:a=c
 ·subst d
  have e:(vl.set a (m a)).getD a []=m a:=(by rw[af,List.getElem?_set,bg rfl,bg (by omega)];rfl);have f:(kn.set a true).getD a false=true:=(by rw[af,List.getElem?_set,bg rfl,bg (by omega)];rfl);rw[e,f];exact⟨λ_=>rfl,λb=>by cases b⟩
 ·have e:(vl.set c (m c)).getD a []=vl.getD a []:=by rw[af,List.getElem?_set,bh (λg=>d g.symm),<-af]
  have f:(kn.set c true).getD a false=kn.getD a false:=(by rw[af,List.getElem?_set,bh (λg=>d g.symm),<-af]);rw[e,f];exact b a h
theorem Nw{Z:Nat}{a:PI}(b:a.length=Z):xr (replicate Z 0) a=a:=by
 refine iM (by rw[jB (by rw[aI,b]),aI,b]) λc=> ?_;rw[lS (by rw[aI,b]),qK,Nat.zero_xor]
theorem EL{n Z:Nat}{m:Nat->PI}{kn:List Bool}{vl:List PI}(d:ConsP n m kn vl)(e:∀c,c<n->(m c).length=Z/\By (m c)){x:PI×PI}(b:∀c∈x.1,c<n)(f:x.2=bR m x.1 (replicate Z 0)):
 bR (λc=>vl.getD c []) (lG kn x.1) x.2=bR m (dL kn x.1) (replicate Z 0):=
 IE (λc=>kn.getD c false) (λc a=>(e c (b c a)).1) (λc a g=>(d c (b c a)).1 g) f
def vI(n Z:Nat)(m:Nat->PI)(L:List (PI×PI)):Prop:=∀a∈L,a.1.length<=64/\(∀b∈a.1,b<n)/\a.2=bR m a.1 (replicate Z 0)
theorem KV(f g gk b n l Z:Nat)(C:PK)(v:Nat)(m:Nat->PI)(kn:List Bool)(vl:List PI)(L:List (PI×PI))(w:World)
 (z:PSt w g gk b n (slice C l v) kn vl)(R:f<=g/\f<=gk/\f<=b)(M:(fe L).ok w (Bl f) [slice C l v])(hN:L.length=l)(bk:l<=1000)(hn:n<=1000)(hZ:1<=Z)(bl:Z<=1000)
 (hm:∀c,c<n->(m c).length=Z/\By (m c))(hR:vI n Z m L)(q:ConsP n m kn vl):
 Calls prog 292 #[pointer (some ⟨g,0,none⟩)] w λx e=>x=returned (.tuple #[])/\∃d i,PSt e g gk b n (slice C l v) d i/\ConsP n m d i/\Below f w e:=by
 have U:=ae hN;have N:=ae hm;have V:=ae hR;have F:PH (PSt w g gk b n (slice C l v) kn vl/\ConsP n m kn vl/\Below f w w/\(fe L).ok w (Bl f) [slice C l v]):=ae ⟨z,q,az _ _,M⟩;clear hN hm hR z q M;go_enter func292,ntmps292
 refine wK 0 (λad a' e=>∃(kn:List Bool) (vl:List PI) (u1 u2 u3 u4 u5 u6 u7 u8 u9 ag ai ak am an ao ap aq ar au av aw ax ay aA aB aD aE aF aK aL aM u32 aO aR aS aT:Value),(cntF kn<ad/\PH (PSt e g gk b n (slice C l v) kn vl/\ConsP n m kn vl/\Below f w e/\(fe L).ok e (Bl f) [slice C l v]))/\
  a'= { tmps:=#[pointer (some ⟨g,0,none⟩),u1,u2,u3,u4,u5,u6,u7,u8,u9,ag,ai,ak,am,an,ao,ap,aq,ar,au,av,aw,ax,ay,aA,aB,aD,aE,aF,aK,aL,aM,u32,aO,aR,aS,aT],defers:=[] }) (cntF kn+1) rfl ?_ ?_
 ·exact⟨kn,vl,_,_,_,_,_,_,_,_,_,_,_,_,_,_,_,_,_,_,_,_,_,_,_,_,_,_,_,_,_,_,_,_,_,_,_,_,⟨by omega,F⟩,rfl⟩
 ·clear F kn vl
  rintro ad a' e ⟨kn,vl,u1,u2,u3,u4,u5,u6,u7,u8,u9,ag,ai,ak,am,an,ao,ap,aq,ar,au,av,aw,ax,ay,aA,aB,aD,aE,aF,aK,aL,aM,u32,aO,aR,aS,aT,⟨aV,F⟩,rfl⟩;obtain⟨z,q,S,M⟩:=F.o;have b1:=z.ne;have d:=ae (Hq g n l C (some ⟨gk,0,none⟩) v n (slice (some ⟨b,0,none⟩) n n) (Bl f) kn L e z.blk M z.rdk U.o bk (λi j=>⟨aP (V.o i j).1 (by omega),(V.o i j).2.1⟩) hn);clear z q S M;go_wp2_with fail;refine d.o.mono ?_;rintro x G ⟨bm,rfl,i,j⟩;have HR:=ae i;have O:=ae j;clear i j d;by_cases aX:bm<0
  ·go_wp2_with fail
   simp only[Exit.jump]
   (try simp only[Exit.inBlock,Exit.then])
   refine bodyPost_ret (results_none rfl _ _ _) rfl ?_;obtain⟨z,q,S,M⟩:=F.o;exact⟨rfl,kn,vl,z.new O.o,q,S.trans (O.o.mono (by have:=S.size;have:=z.blk.lt;omega))⟩
  ·obtain⟨E,rfl,hi,hu⟩:=HR.o.resolve_left aX
   obtain⟨u,q,y,J⟩:=F.o;have o:=u.new O.o;have A:=(fe L).new J O.o;have K:Below f w G:=y.trans (O.o.mono (by have:=y.size;have:=u.blk.lt;omega));obtain⟨i,Q,a1,q1,c1,a2,j,c2,rfl,_,T,bo,bp,P,X,Y,bi⟩:=mH A U.o hi;have aa:L.getD E ([],[])∈L:=(by rw[af,ah (by rw[U.o];exact hi)];exact aQ _);obtain⟨bj,d,r⟩:=V.o _ aa;have s:=EL q N.o d r;have ab:(L.getD E ([],[])).2.length=Z:=(by rw[r];exact eQ aI λc q=>(N.o c (d c q)).1);have ac:By (L.getD E ([],[])).2:=(by rw[r];exact(dF (D:=Z) (Byt.zero Z) λc q=>N.o c (d c q)).2);have br:j=Z:=(by omega);subst br;obtain⟨b2,b3,H,a0,-⟩:=dI P Y.symm;injection H with H _ W;subst H W;obtain⟨b5,b6,H,a5,bs,-⟩:=fC X ab;injection H with H _ W;subst H W;obtain⟨c,t⟩:∃c,dL kn (L.getD E ([],[])).1=[c]:=length_eq_one_iff.1 hu;have a6:c∈dL kn (L.getD E ([],[])).1:=(by rw[t];simp);obtain⟨a7,a8⟩:=mem_filter.1 a6;have I:c<n:=d c a7;have a9:kn.getD c false=false:=(by simpa using a8);rw[t] at s;have bb:bR m [c] (replicate j 0)=m c:=Nw (N.o c I).1;rw[bb] at s
   have B:=ae (xK g n q1 j (slice (some ⟨i,Q,none⟩) l v) (some ⟨gk,0,none⟩) (some ⟨b,0,none⟩) a1 a2 n n c1 c2 kn vl (L.getD E ([],[])).1 (L.getD E ([],[])).2 G o.blk o.rdk o.rdv a0 a5 bs bl (by omega) hn d (λk hd hk=>by
    have:=(q k (d k hd)).1 hk;rw[this];exact N.o k (d k hd)) ac)
   rw[s,t] at B;have p0:=o.blk.cell 0;have b7:(E:Int)<(l:Int):=(by omega);have HC:=ae q;have k:=ae o;have bc:=ae A;have bd:=ae K;have be:=ae a9;clear u q y J o A K P X aa bj d r s ab ac a0 a5 hu t a6 a7 a8 bb F HR O aX a9 Y bi;go_wp2_with fail;refine B.o.mono ?_;rintro x o ⟨v1,v2,rfl,A,K,d⟩;have X:=N.o c I;obtain⟨a3,J,rfl⟩:=A.lenA;obtain⟨s,rfl,b8,bt⟩:=A.formA (n:=1) rfl (by decide);obtain⟨a0,-⟩:=A.cellA (n:=1) rfl (show 0<1 by decide);obtain⟨t,u,rfl,-⟩:=K.rd2 X.1;have a5:([c]:PI).length=1:=rfl;rw[a5] at A ⊢;have a6:o.cell? ⟨s,0,none⟩=some (int i64 c):=a0;have a7:=k.o.new d;have y:=(az o.heap.size o).alloc (aj _) (cells #[slice (some ⟨s,0,none⟩) 1 J,slice t j u] 286);have a8:=a7.new y;have Y:=Blk.new o 286 #[slice (some ⟨s,0,none⟩) 1 J,slice t j u];have bv:=(y.cell (p:=⟨s,0,none⟩) bt).trans a6;have a9:OwnB (o.alloc (cells #[slice (some ⟨s,0,none⟩) 1 J,slice t j u] 286)) G.heap.size (slice t j u) (m c):=K.below y;have bb:Below f G (o.alloc (cells #[slice (some ⟨s,0,none⟩) 1 J,slice t j u] 286)):=(d.mono (by have:=k.o.blk.lt;omega)).trans (y.mono (by have:=d.size;have:=k.o.blk.lt;omega));have bi:=(fe L).new ((fe L).new bc.o d) y;have b9:=k.o.blk.lt;have ca:=k.o.knb.lt;have bw:=k.o.hs;obtain⟨bx,bj,bB,b0⟩:=bw;have cb:=bj.lt;obtain⟨n1,n2,P⟩:=k.o.ne;have cc:G.heap.size<=o.heap.size:=d.size;have r:=ae a8;have aa:=ae a9;have ab:=ae bi;have ac:=ae (bd.o.trans bb);clear a0 a6 a7 y a8 a9 bi bb k bc bd B A K d bj bB b0 bx bo bp p0 a5;go_wp2_with fail;generalize o.alloc (cells #[slice (some ⟨s,0,none⟩) 1 J,slice t j u] 286)=k at*;have t0:=Y.cell 0;have t1:=Y.cell 1;have t2:=r.o.blk.cell 1;have t3:=r.o.blk.cell 2
   have t4:k.cell? ⟨gk,c,none⟩=some (bool false):=by
    rw[r.o.knb.cell c,<-be.o,af];have:c<kn.length:=(by rw[r.o.kl];exact I);simp[bX,this]
   have t5:=r.o.knb.frozen c
   obtain⟨uo,t6⟩:∃uo,k.cell? ⟨b,c,none⟩=some uo:=by
    obtain⟨hs,y,A,h3⟩:=r.o.hs;exact⟨_,(y.cell c).trans (by simpa using rJ (hs:=hs) (by omega))⟩
   have t7:k.frozen? ⟨b,c,none⟩=false:=by
    obtain⟨hs,y,A,h3⟩:=r.o.hs;exact y.frozen c
   have bp:(c:Int)<(n:Int):=(by omega);have bx:¬gk=b:=P;have bB:¬b=gk:=λx=>P x.symm;have a0:¬g=gk:=n1;have a5:¬g=b:=n2;have a6:¬o.heap.size=gk:=(by omega);have a7:¬o.heap.size=b:=(by omega);have a8:¬s=gk:=(by omega);have a9:¬s=b:=(by omega);clear Y;have Y:m c≠[]:=λx=>by have:=X.1;rw[x] at this;simp at this;omega
   have bb:PH (∀d,PSt (((k.drewN d).setCell ⟨gk,c,none⟩ (bool true)).setCell ⟨b,c,none⟩ (slice t j u)) g gk b n (slice (some ⟨i,Q,none⟩) l v) (kn.set c true) (vl.set c (m c))):=ae λd=>r.o.put I Y ((rB _).more (gG aa.o) λi T _=>by
    have:G.heap.size<=i:=T;exact⟨by omega,by omega,by omega⟩)
    (λi y A=>(bE _ _ _ _ A).trans (bE _ _ _ _ y))
    ((Blk.set (w:=k.drewN d) (r.o.knb.drewN d) c (bool true)).far (p:=⟨b,c,none⟩) P _)
    (λhs h=>Blk.set (((h.drewN d).far (p:=⟨gk,c,none⟩) (λx=>P x.symm) _)) c _)
   have bc:PH (∀d,PSt (((k.drewN d).setCell ⟨b,c,none⟩ (slice t j u)).setCell ⟨gk,c,none⟩ (bool true)) g gk b n (slice (some ⟨i,Q,none⟩) l v) (kn.set c true) (vl.set c (m c))):=ae λd=>r.o.put I Y ((rB _).more (gG aa.o) λi T _=>by
    have:G.heap.size<=i:=T;exact⟨by omega,by omega,by omega⟩)
    (λi y A=>(bE _ _ _ _ y).trans (bE _ _ _ _ A))
    (Blk.set ((r.o.knb.drewN d).far (p:=⟨b,c,none⟩) P _) c (bool true))
    (λhs h=>((Blk.set (w:=k.drewN d) (h.drewN d) c _)).far (p:=⟨gk,c,none⟩) (λx=>P x.symm) _)
   have bd:PH (∀d,Below f w (((k.drewN d).setCell ⟨gk,c,none⟩ (bool true)).setCell ⟨b,c,none⟩ (slice t j u))):=ae λd=>((below_drewN ac.o d).setCell (p:=⟨gk,c,none⟩) R.2.1 _).setCell (p:=⟨b,c,none⟩) R.2.2 _;have bi:PH (∀d,Below f w (((k.drewN d).setCell ⟨b,c,none⟩ (slice t j u)).setCell ⟨gk,c,none⟩ (bool true))):=ae λd=>((below_drewN ac.o d).setCell (p:=⟨b,c,none⟩) R.2.2 _).setCell (p:=⟨gk,c,none⟩) R.2.1 _;have bj:PH (∀d,(fe L).ok (((k.drewN d).setCell ⟨gk,c,none⟩ (bool true)).setCell ⟨b,c,none⟩ (slice t j u)) (Bl f) [slice (some ⟨i,Q,none⟩) l v]):=ae λd=>(fe L).keep ab.o λB K _=>⟨(bE _ _ _ _ (by have:B<f:=K;show B≠b;omega)).trans (bE _ _ _ _ (by have:B<f:=K;show B≠gk;omega)),K⟩;have bo:PH (∀d,(fe L).ok (((k.drewN d).setCell ⟨b,c,none⟩ (slice t j u)).setCell ⟨gk,c,none⟩ (bool true)) (Bl f) [slice (some ⟨i,Q,none⟩) l v]):=ae λd=>(fe L).keep ab.o λB K _=>⟨(bE _ _ _ _ (by have:B<f:=K;show B≠gk;omega)).trans (bE _ _ _ _ (by have:B<f:=K;show B≠b;omega)),K⟩;have d:=ae (HC.o.set r.o.kl r.o.vll I);have B:=ae (KU (by rw[r.o.kl];exact I) be.o);clear r aa ab ac X Y
   have r:PH (∀e:World,(∀i,i≠gk->i≠b->e.heap[i]? =k.heap[i]?)->e.cell? ⟨g,1,none⟩=some (slice (some ⟨gk,0,none⟩) n n)/\e.cell? ⟨g,2,none⟩=some (slice (some ⟨b,0,none⟩) n n)/\e.cell? ⟨o.heap.size,0,none⟩=some (slice (some ⟨s,0,none⟩) 1 J)/\e.cell? ⟨o.heap.size,1,none⟩=some (slice t j u)/\e.cell? ⟨s,0,none⟩=some (int i64 c)):=ae λe h=>
    ⟨(World.cell?_of_block (w:=k) (a:=⟨g,1,none⟩) (h g a0 a5)).trans t2,(World.cell?_of_block (w:=k) (a:=⟨g,2,none⟩) (h g a0 a5)).trans t3,(World.cell?_of_block (w:=k) (a:=⟨o.heap.size,0,none⟩) (h _ a6 a7)).trans t0,(World.cell?_of_block (w:=k) (a:=⟨o.heap.size,1,none⟩) (h _ a6 a7)).trans t1,(World.cell?_of_block (w:=k) (a:=⟨s,0,none⟩) (h _ a8 a9)).trans bv⟩
   go_region_held3 (λe=>e.cell? ⟨g,1,none⟩=some (slice (some ⟨gk,0,none⟩) n n)/\e.cell? ⟨g,2,none⟩=some (slice (some ⟨b,0,none⟩) n n)/\e.cell? ⟨o.heap.size,0,none⟩=some (slice (some ⟨s,0,none⟩) 1 J)/\e.cell? ⟨o.heap.size,1,none⟩=some (slice t j u)/\e.cell? ⟨s,0,none⟩=some (int i64 c)) (exact r.o _ (λi y A=>by first | exact rfl | exact bE _ _ _ _ y | exact bE _ _ _ _ A | exact(bE _ _ _ _ A).trans (bE _ _ _ _ y) | exact(bE _ _ _ _ y).trans (bE _ _ _ _ A))) (fail)
   all_goals(
    go_wp2_with fail
    (try go_step3)
    first
    | exact⟨rfl,cntF kn,aV,_,_,_,_,_,_,_,_,_,_,_,_,_,_,_,_,_,_,_,_,_,_,_,_,_,_,_,_,_,_,_,_,_,_,_,_,_,_,⟨B.o,ae ⟨bb.o 1,d.o,bd.o 1,bj.o 1⟩⟩,rfl⟩
    | exact⟨rfl,cntF kn,aV,_,_,_,_,_,_,_,_,_,_,_,_,_,_,_,_,_,_,_,_,_,_,_,_,_,_,_,_,_,_,_,_,_,_,_,_,_,_,⟨B.o,ae ⟨bc.o 1,d.o,bi.o 1,bo.o 1⟩⟩,rfl⟩)
def Pd(l:PI):Prop:=∀a,a+1<l.length->l.getD a 0<l.getD (a+1) 0
theorem Dh(n d Z:Nat)(o:PK)(q:Nat)(F:Nat->Prop)(L:List (PI×PI))(w:World)
 (B:(fe L).ok w F [slice o d q])(C:L.length=d)(ao:d<=1000)(hn:n<=64)
 (D:∀x∈L,x.1.length<=1000/\(∀c∈x.1,c<n)/\Pd x.1/\x.2.length=Z):
 Calls prog 291 #[int i64 n,slice o d q] w λg a=>g=returned (bool true)/\Below w.heap.size w a:=by
 have Q:=ae ((Sx.nil w).add (eR F (slice o d q) (fe L)) B);have E:=ae (az w.heap.size w);have k:=ae C;have G:=ae D;clear B C D;go_enter func291,ntmps291;have a:¬(n:Int)<0:=by omega
 have b:¬64<(n:Int):=by omega
 go_wp2_with fail;clear a b;go_loopw [17] (λf wr=>∃e:Nat,e<=d/\f=int i64 e/\PH (Below w.heap.size w wr)) (λf _=>d-(intOf f).toNat)
 case atStart=>exact⟨0,by omega,rfl,E⟩
 case round=>
  clear E;obtain⟨e,ap,rfl,i⟩:=hrel;have r:=ae (Q.o.step i.o);by_cases H:e<d
  ·have aq:(e:Int)<(d:Int):=by omega
   have I:0<d:=(by omega);have A:L.getD e ([],[])∈L:=(by rw[af,ah (by rw[k.o];exact H)];exact aQ _);have J:L.getD 0 ([],[])∈L:=(by rw[af,ah (by rw[k.o];exact I)];exact aQ _);obtain⟨R,s,K,S⟩:=G.o _ A;obtain⟨-,-,-,T⟩:=G.o _ J;obtain⟨U,V,t,b,u,v,M,y,rfl,_,W,X,Y,N,aa,a,ab⟩:=mH (r.o.rep 0 rfl) k.o H;obtain⟨b',o',a3,q3,c3,a4,l,c4,z,_,_,j,m,_,_,_,ac⟩:=mH (r.o.rep 0 rfl) k.o I;injection z with z;injection z with ad ag _;subst ad ag;rw[Nat.zero_mul,Nat.add_zero] at m;clear j;obtain⟨ar,au,j,O,-⟩:=dI N a.symm;injection j with j _ e3;subst j e3;have P:=ae O;have ai:=ae s;have ak:=ae K;have am:=ae a;have an:=i.o.size;have av:b<=1000:=(by omega);obtain rfl:M=Z:=(by omega);obtain rfl:l=M:=(by omega);clear A N aa O ab s R K S T J ac;generalize L.getD e ([],[])=x at*;clear a;have a:=(az wr.heap.size wr).alloc (aj _) (cells #[slice t b u,slice v l y] 286);have ab:=ae a;have O:=ae (i.o.trans (a.mono an));have J:=ae (P.o.below a (aj _));have R:=(a.cell (p:=⟨U,V+1,none⟩) W).trans m;have A:=Blk.new wr 286 #[slice t b u,slice v l y];clear a r i P;go_wp2_with fail;clear m X Y;generalize wr.alloc (cells #[slice t b u,slice v l y] 286)=P at*;generalize wr.heap.size=g1 at*;have S:=A.cell 0;have T:=A.cell 1;clear A;go_loopw [24] (λf m=>∃a:Nat,a<=b/\f=int i64 a/\m=P) (λf _=>b-(intOf f).toNat)
   case atStart=>exact⟨0,by omega,rfl,rfl⟩
   case round=>
    obtain⟨a,ac,rfl,m⟩:=hrel;have f:=ae m;clear m;rw[<-f.o] at S T R;by_cases A:a<b
    ·have aw:(a:Int)<(b:Int):=by omega
     have m:a<x.1.length:=(by rw[<-am.o];exact A);obtain⟨bc,oc,rfl,ax,K⟩:=iA J.o A;have s:x.1.getD a 0<n:=ai.o _ (by rw[getD_at m];exact aQ m);have ay:¬((x.1.getD a 0:Nat):Int)<0:=(by omega);have aA:¬(n:Int)<=((x.1.getD a 0:Nat):Int):=(by omega);rw[<-f.o] at K;by_cases X:a=0
     ·subst X
      clear m;generalize x.1.getD 0 0=Y at*;rw[Nat.add_zero] at K;go_wp2_with fail;go_roundw
      case rel=>(try((repeat apply Exists.intro);refine⟨?_,rfl⟩));exact⟨0+1,by omega,by go_num,f.o⟩
      case measure=>simp[intOf];omega
     ·obtain⟨_,_,g,aB,aa⟩:=iA J.o (show a-1<b by omega)
      injection g with g;injection g with j e2 _;subst j e2;rw[<-f.o] at aa;have N:=ak.o (a-1) (by omega);rw[show a-1+1=a by omega] at N;have aD:¬((x.1.getD a 0:Nat):Int)<=((x.1.getD (a-1) 0:Nat):Int):=(by omega);have aE:(0:Int)<(a:Int):=(by omega);have aF:IntKind.i64.wrap ((a:Int)-1)=((a-1:Nat):Int):=(by rw[IntKind.wrap_i64];omega);have aK:((a:Int)-1)=((a-1:Nat):Int):=(by omega);have aL:((a-1:Nat):Int)<(b:Int):=(by omega);have HJ:PH (a+1<=b/\b-(a+1)<b-a):=ae (by omega);clear m N;generalize x.1.getD a 0=Y at*;generalize N:a-1=j1 at*;generalize x.1.getD j1 0=aM at*;clear N;go_wp2_with fail;go_roundw
      case rel=>(try((repeat apply Exists.intro);refine⟨?_,rfl⟩));exact⟨a+1,by omega,by go_num,f.o⟩
      case measure=>simp[intOf];omega
    ·obtain rfl:a=b:=by omega
     have g:PH (Below w.heap.size w wr):=ae (by rw[f.o];exact O.o);have m:(0:Int)<(d:Int):=(by omega);go_wp2_with fail
     go_quiet (fail)
     go_wp2_with fail;go_roundw
     case rel=>first | exact⟨e+1,by omega,by go_num,ae (below_drewN g.o _)⟩ | ((repeat apply Exists.intro);exact⟨⟨e+1,by omega,by go_num,ae (below_drewN g.o _)⟩,rfl⟩) | exact⟨e+1,by omega,by go_num,g⟩ | ((repeat apply Exists.intro);exact⟨⟨e+1,by omega,by go_num,g⟩,rfl⟩)
     case measure=>simp[intOf];omega
  ·obtain rfl:e=d:=by omega
   go_wp2_with fail;go_ret;exact⟨rfl,i.o⟩
theorem EO:(prog.info? 286).map (λa=>(a.zero,a.size,a.bytes))=some (some (.agg #[slice none 0 0,slice none 0 0]),2,48):=by kernel_rfl
theorem zi{b:Func}{t u v x:Tmp}(c:b.results= #[.tmp t,.tmp u,.tmp v,.tmp x])(a:Array Value)(P:Program)(w:World):
 (results b a).run P w=.ok (.tuple #[a.getD t undef,a.getD u undef,a.getD v undef,a.getD x undef]) w:=by
 simp[results,c]
def vU(kn:List Bool)(m:Nat->PI)(Z:Nat)(x:PI×PI):PI×PI:=(dL kn x.1,bR m (dL kn x.1) (replicate Z 0))
def fL(kn:List Bool)(m:Nat->PI)(Z:Nat)(L:List (PI×PI)):List (PI×PI):=(L.map (vU kn m Z)).filter λa=>a.1.length != 0
theorem Ia{kn:List Bool}{m:Nat->PI}{Z:Nat}{L:List (PI×PI)}{k:Nat}(b:k<L.length):
 fL kn m Z (L.take (k+1))=if (dL kn (L.getD k ([],[])).1).length=0 then fL kn m Z (L.take k) else fL kn m Z (L.take k)++[vU kn m Z (L.getD k ([],[]))]:=by
 unfold fL;rw[aN b,aU,filter_append,af,ah b];simp only[map_cons,map_nil,Option.getD_some,vU];split
 ·rename_i a
  simp[a]
 ·rename_i a
  simp[a]
theorem Bf{kn:List Bool}{m:Nat->PI}{Z:Nat}{L:List (PI×PI)}:(fL kn m Z L).length<=L.length:=by
 unfold fL;exact aP (length_filter_le _ _) (by rw[aC];exact aj _)
theorem vV(u:Value)(n:Nat):madeCells #[u] n=(replicate n u).toArray:=by
 apply Array.ext (by rw[size_madeCells];simp);intro a b c;simp[madeCells,Nat.mod_one]
theorem DU{n:Nat}:madeCells #[Value.bool false] n=(bX (replicate n false)).toArray:=by
 rw[vV];unfold bX;simp
theorem K7{n:Nat}:madeCells #[Value.slice none 0 0] n=(replicate n (Value.slice none 0 0)).toArray:=by
 rw[vV]
theorem Ib:(prog.info? 4).map (λa=>(a.zero,a.size,a.bytes))=some (some (bool false),1,1):=by kernel_rfl
theorem pE{n:Nat}(g:n<=1000000)(w:World):(Instr.makeSlice 293 (int i64 (n:Int)) (int i64 (n:Int))).run prog w=.ok (slice (some ⟨w.heap.size,0,none⟩) n n) (w.alloc (cells (bX (replicate n false)).toArray 4)):=by
 obtain⟨b,c,d,e,f⟩:=info_parts Ib;have a:=run_make (P:=prog) w 293 4 b (bool false) underlying293 c d .i64 .i64 (n:Int) (n:Int) (by omega) (by omega) (by rw[f];omega) (by omega);rw[e,Nat.mul_one,Int.toNat_natCast] at a;rw[<-DU];exact a
theorem Bg{n:Nat}(g:n<=1000000)(w:World):(Instr.makeSlice 45 (int i64 (n:Int)) (int i64 (n:Int))).run prog w=.ok (slice (some ⟨w.heap.size,0,none⟩) n n) (w.alloc (cells (replicate n (Value.slice none 0 0)).toArray 30)):=by
 obtain⟨b,c,d,e,f⟩:=info_parts dA;have a:=run_make (P:=prog) w 45 30 b (slice none 0 0) underlying45 c d .i64 .i64 (n:Int) (n:Int) (by omega) (by omega) (by rw[f];omega) (by omega);rw[e,Nat.mul_one,Int.toNat_natCast] at a;rw[<-K7];exact a
theorem PSt.begin{w:World}{g gk a n:Nat}{b:Value}(d:Blk w g 353 #[b,slice (some ⟨gk,0,none⟩) n n,slice (some ⟨a,0,none⟩) n n])
 (e:Blk w gk 4 (bX (replicate n false)).toArray)(f:Blk w a 30 (replicate n (Value.slice none 0 0)).toArray):PSt w g gk a n b (replicate n false) (replicate n []):=
 ⟨d,e,aI,aI,_,f,aI,λh c=>by
   rw[af,af,List.getElem?_replicate,List.getElem?_replicate,bg c,bg c];exact⟨rfl,λh c=>by rw[mem_singleton.1 c];rfl⟩⟩
theorem ConsP.begin(n:Nat)(m:Nat->PI):ConsP n m (replicate n false) (replicate n []):=λb a=>by
 rw[af,af,List.getElem?_replicate,List.getElem?_replicate,bg a,bg a];exact⟨λa=>Bool.noConfusion a,λ_=>rfl⟩
theorem nM(w:World)(X Y Z:Array Value)(tX tY a:TypeId):Blk (((w.alloc (.cells X tX)).alloc (.cells Y tY)).alloc (.cells Z a)) w.heap.size tX X/\Blk (((w.alloc (.cells X tX)).alloc (.cells Y tY)).alloc (.cells Z a)) (w.heap.size+1) tY Y/\Blk (((w.alloc (.cells X tX)).alloc (.cells Y tY)).alloc (.cells Z a)) (w.heap.size+1+1) a Z/\Below w.heap.size w (((w.alloc (.cells X tX)).alloc (.cells Y tY)).alloc (.cells Z a)):=by
 have d:(w.alloc (.cells X tX)).heap.size=w.heap.size+1:=by simp
 have b:((w.alloc (.cells X tX)).alloc (.cells Y tY)).heap.size=w.heap.size+1+1:=by simp
 have j:=(az w.heap.size w).alloc (aj _) (.cells X tX);have e:=(az (w.alloc (.cells X tX)).heap.size (w.alloc (.cells X tX))).alloc (aj _) (.cells Y tY);have c:=(az ((w.alloc (.cells X tX)).alloc (.cells Y tY)).heap.size ((w.alloc (.cells X tX)).alloc (.cells Y tY))).alloc (aj _) (.cells Z a);have f:=Blk.new w tX X;have g:=Blk.new (w.alloc (.cells X tX)) tY Y;have h:=Blk.new ((w.alloc (.cells X tX)).alloc (.cells Y tY)) a Z;have k:=(f.below e f.lt).below c (by rw[b];omega);have i:=g.below c g.lt;rw[d] at i;rw[b] at h;refine⟨k,i,h,(j.trans (e.mono (by rw[d];omega))).trans (c.mono (by rw[b];omega))⟩
theorem Ic(n e Z:Nat)(l:PK)(i:Nat)(F:Nat->Prop)(m:Nat->PI)(L:List (PI×PI))(w:World)
 (hL:(fe L).ok w F [slice l e i])(hN:L.length=e)(ak:e<=1000)(hn:n<=64)(hZ:1<=Z)(am:Z<=1000)
 (hm:∀c,c<n->(m c).length=Z/\By (m c))(A:vI n Z m L)(hU:∀x∈L,Pd x.1):
 Calls prog 233 #[int i64 n,slice l e i] w λo b=>∃g gk f a v kn vl,o=returned (.tuple #[slice (some ⟨gk,0,none⟩) n n,slice (some ⟨f,0,none⟩) n n,v,int i64 0])/\
  PSt b g gk f n (slice l e i) kn vl/\ConsP n m kn vl/\(w.heap.size<=g/\w.heap.size<=gk/\w.heap.size<=f)/\(g<a/\gk<a/\f<a)/\OwnS b a 286 2 (Fr a) v ((fL kn m Z L).map tJ)/\Below w.heap.size w b:=by
 have an:=ae A;have B:=ae hm;have W:=ae hN;have b:=ae (Dh n e Z l i F L w hL hN ak hn (λx a=>⟨aP (A x a).1 (by omega),(A x a).2.1,hU x a,by rw[(A x a).2.2];exact eQ aI λc j=>(hm c ((A x a).2.1 c j)).1⟩));have d:=ae hL;have ao:∀w:World,(Instr.makeSlice 293 (int i64 (n:Int)) (int i64 (n:Int))).run prog w=.ok (slice (some ⟨w.heap.size,0,none⟩) n n) (w.alloc (cells (bX (replicate n false)).toArray 4)):=λw=>pE (by omega) w;have ap:∀w:World,(Instr.makeSlice 45 (int i64 (n:Int)) (int i64 (n:Int))).run prog w=.ok (slice (some ⟨w.heap.size,0,none⟩) n n) (w.alloc (cells (replicate n (Value.slice none 0 0)).toArray 30)):=λw=>Bg (by omega) w;clear A hm hN hL hU;go_enter func233,ntmps233;go_wp2_with fail;refine b.o.mono ?_;rintro o w1 ⟨rfl,a⟩;have E:=ae a;have aq:=a.size;have aa:=ae ((fe L).bl ((fe L).new d.o a));clear a b d;go_upto_region 3 with fail;go_cut [8] (λv a=>∃g gk f,v=pointer (some ⟨g,0,none⟩)/\PH (PSt a g gk f n (slice l e i) (replicate n false) (replicate n []))/\PH (Below w1.heap.size w1 a)/\PH (w1.heap.size<=g/\w1.heap.size<=gk/\w1.heap.size<=f))
 case first=>
  generalize a:(bX (replicate n false)).toArray=k at*;generalize b:(replicate n (Value.slice none 0 0)).toArray=p at*;have q:=ae a;have r:=ae b;clear a b;go_region_law (first | simp only[ao] | simp only[ap])
  all_goals(
   go_wp2_with fail;go_meet
   first
   | (obtain⟨G,a,b,d⟩:=nM w1 k p #[slice l e i,slice (some ⟨w1.heap.size,0,none⟩) n n,slice (some ⟨w1.heap.size+1,0,none⟩) n n] 4 30 353
      refine⟨_,w1.heap.size,w1.heap.size+1,rfl,ae (PSt.begin (Blk.drewN b 1) (Blk.drewN (by rw[q.o];exact G) 1) (Blk.drewN (by rw[r.o];exact a) 1)),ae (below_drewN d 1),ae ⟨by omega,by omega,by omega⟩⟩)
   | (obtain⟨G,a,b,d⟩:=nM w1 p k #[slice l e i,slice (some ⟨w1.heap.size+1,0,none⟩) n n,slice (some ⟨w1.heap.size,0,none⟩) n n] 30 4 353
      refine⟨_,w1.heap.size+1,w1.heap.size,rfl,ae (PSt.begin (Blk.drewN b 1) (Blk.drewN (by rw[q.o];exact a) 1) (Blk.drewN (by rw[r.o];exact G) 1)),ae (below_drewN d 1),ae ⟨by omega,by omega,by omega⟩⟩))
 case rest=>
  clear ao ap;obtain⟨g,gk,f,rfl,q,a,k⟩:=hcut;have r:=ae ((fe L).new aa.o a.o);have s:=ae (KV w1.heap.size g gk f n e Z l i m (replicate n false) (replicate n []) L wc q.o k.o r.o W.o ak (by omega) hZ am B.o an.o (ConsP.begin n m));go_wp2_with fail;refine s.o.mono ?_;rintro o d ⟨rfl,kn,vl,t,j,p⟩;have X:=ae t;have HC:=ae j;have u:=ae ((fe L).keep aa.o λb y _=>(show d.heap[b]? =w1.heap[b]? /\Bl w1.heap.size b from⟨((a.o.trans p).block b y),y⟩));have ar:PH (Below w.heap.size w d):=ae (E.o.trans ((a.o.trans p).mono aq));have y:w1.heap.size<=d.heap.size:=(a.o.trans p).size;have aE:PH (w.heap.size<=g/\w.heap.size<=gk/\w.heap.size<=f):=ae (by have:=k.o;exact⟨by omega,by omega,by omega⟩);clear t j p s q aa r E a k aq y;have S0:=ae ((Sx.nil d).add (eR _ (slice l e i) (fe L)) u.o);have au:PH (OwnS d d.heap.size 286 2 (Fr d.heap.size) (slice none 0 0) ((fL kn m Z (L.take 0)).map tJ)):=ae (OwnS.nil _ _ _ _ _);have av:=ae (az d.heap.size d);clear u;go_wp2_with fail;go_loopw [6,27] (λv a wr=>∃b:Nat,b<=e/\a=int i64 b/\PH (OwnS wr d.heap.size 286 2 (Fr d.heap.size) v ((fL kn m Z (L.take b)).map tJ))/\PH (Below d.heap.size d wr)) (λ_ a _=>e-(intOf a).toNat)
  case atStart=>exact⟨0,by omega,rfl,au,av⟩
  case round=>
   clear au av;obtain⟨b,aS,rfl,H,C⟩:=hrel;have S1:=ae (S0.o.step C.o);have I:=ae (X.o.new C.o);have aw:=C.o.size;obtain⟨a6,n6,c6,rfl⟩:=H.o.sl;by_cases ax:b<e
   ·have aT:(b:Int)<(e:Int):=by omega
    have z:b<L.length:=(by rw[W.o];exact ax);have S:L.getD b ([],[])∈L:=(by rw[af,ah z];exact aQ _);obtain⟨T,q,r⟩:=an.o _ S;obtain⟨J,aF,K,M,N,O,a,P,rfl,_,p,aV,aX,U,V,Y,aA⟩:=mH (S1.o.rep 0 rfl) W.o ax;have hz:=EL HC.o B.o q r;have ad:(L.getD b ([],[])).2.length=Z:=(by rw[r];exact eQ aI λc j=>(B.o c (q c j)).1);have ag:By (L.getD b ([],[])).2:=(by rw[r];exact(dF (D:=Z) (Byt.zero Z) λc j=>B.o c (q c j)).2);obtain rfl:a=Z:=(by omega);obtain⟨a0,a5,s,ai,-⟩:=dI U Y.symm;injection s with s _ e3;subst s e3;obtain⟨a7,a8,s,ay,aK,-⟩:=fC V ad;injection s with s _ e3;subst s e3;have k:=(az wr.heap.size wr).alloc (aj _) (cells #[slice K M N,slice O a P] 286);have u:=I.o.new k;have t:=Blk.new wr 286 #[slice K M N,slice O a P];have k0:=t.cell 0;have G:=t.cell 1
    have CL:=ae (xK g n M a (slice (some ⟨J,aF,none⟩) e i) (some ⟨gk,0,none⟩) (some ⟨f,0,none⟩) K O n n N P kn vl (L.getD b ([],[])).1 (L.getD b ([],[])).2 _ u.blk u.rdk u.rdv (ai.below k (aj _) |>.more k.size) (ay.below k (aj _) |>.more k.size) aK am (by omega) (by omega) q (λy Q hk=>by
     have:=(HC.o y (q y Q)).1 hk;rw[this];exact B.o y (q y Q)) ag)
    rw[hz] at CL;have Q:=ae (Ia (kn:=kn) (m:=m) (Z:=a) z);have aL:(dL kn (L.getD b ([],[])).1).length<=64:=aP (length_filter_le _ _) T
    have aM:((fL kn m a (L.take b)).map tJ).length<=1000000:=by
     rw[aC];exact aP Bf (by rw[aG];omega)
    have ab:PH ((bR m (dL kn (L.getD b ([],[])).1) (replicate a 0)).length=a):=ae (eQ aI λc j=>(B.o c (q c (mem_filter.1 j).1)).1);have E:=ae (C.o.trans (k.mono aw));have ac:=ae (H.o.new k);have aO:wr.heap.size<=(wr.alloc (cells #[slice K M N,slice O a P] 286)).heap.size:=k.size;unfold vU at Q;clear k u t q r T z S U V Y aA hz ad ag ai ay H C I S1;generalize L.getD b ([],[])=x at*;generalize fL kn m a (L.take b)=LL at*;generalize k:fL kn m a (L.take (b+1))=LN at*;have ay:=ae k;clear k;go_wp2_with fail;generalize wr.alloc (cells #[slice K M N,slice O a P] 286)=wa at*;refine CL.o.mono ?_;rintro o q ⟨v1,v2,rfl,ad,U,V⟩;obtain⟨u,y,rfl⟩:=ad.lenA;obtain⟨r,k,rfl,aA,-⟩:=U.rd2 ab.o;have aB:(tJ (dL kn x.1,bR m (dL kn x.1) (replicate a 0))).ok q (Fr wa.heap.size) [slice u (dL kn x.1).length y,slice r a k]:=rY (gH ad) (gG U);have z:=(az q.heap.size q).alloc (aj _) (cells #[slice u (dL kn x.1).length y,slice r a k] 286);have ag:=ae ((tJ (dL kn x.1,bR m (dL kn x.1) (replicate a 0))).new aB z);have S:=ae ((aA.below z (aj _)).more z.size);have a9:=V.size;have T:=ae (E.o.trans ((V.mono (show d.heap.size<=wa.heap.size by omega)).trans (z.mono (show d.heap.size<=q.heap.size by omega))));have Y:=ae ((ac.o.new V).new z);have t:=Blk.new q 286 #[slice u (dL kn x.1).length y,slice r a k];have p0:=t.cell 0;have p1:=t.cell 1;have bb:=z.size;have aD:a<=k/\k<=maxLen:=(by obtain⟨_,_,o,_,_,h3⟩:=fC (gG U) ab.o;injection o with _ _ o;subst o;exact h3);have ai:PH ((tJ (dL kn x.1,bR m (dL kn x.1) (replicate a 0))).ok (q.alloc (cells #[slice u (dL kn x.1).length y,slice r a k] 286)) (λJ=>Fr d.heap.size J/\some J≠(Value.slice a6 n6 c6).ownBlock) [slice u (dL kn x.1).length y,slice r a k]):=ae (ac.o.off ag.o λJ p=>⟨aP (aP aw aO) p,.inr p⟩);clear aB z aA V E ac t ad U CL k0 G;by_cases z:(dL kn x.1).length=0
    ·have ad:dL kn x.1=[]:=eq_nil_of_length_eq_zero z
     have U:bR m (dL kn x.1) (replicate a 0)=replicate a 0:=(by rw[ad];rfl);rw[U] at S;rw[bg z] at Q;rw[z] at S T Y p0 p1 ⊢;have CZ:=ae (Aj a k _ r _ S.o aD.1 aD.2);clear S ag ai z ad U ab aL;go_wp2_with fail;generalize q.alloc (cells #[slice u 0 y,slice r a k] 286)=U at*;refine CZ.o.mono ?_;rintro o w4 ⟨rfl,ac,rfl⟩;have aB:=ae (below_drewN T.o ac);have aA:=ae (Y.o.drewN ac);clear p0 p1;generalize U.drewN ac=w5 at*;have V:fL kn m a (L.take (b+1))=LL:=(by rw[ay.o,Q.o]);rw[<-V] at aA;clear V;go_wp2_with fail;go_roundw
     case rel=>exact⟨b+1,by omega,by go_num,aA,aB⟩
     case measure=>simp[intOf];omega
    ·rw[bh z] at Q
     have bc:(0:Int)<(((dL kn x.1).length:Nat):Int):=(by omega);clear z S;generalize dL kn x.1=uk at*;generalize bR m uk (replicate a 0)=sm at*;generalize uk.length=q3 at*;go_upto_region 10 with fail;generalize q.alloc (cells #[slice u q3 y,slice r a k] 286)=U at*;have aB:d.heap.size<=U.heap.size:=T.o.size;clear ag
     go_wp2_with (at_builtin;refine gT (w:=U) (w1:=U) rfl _ _ rfl underlying284 EO rfl (by decide) (by decide) Y.o (az _ _) aB aM (R:=tJ (uk,sm)) ai.o rfl rfl rfl ?_)
     intro v6 w6 ac ad;have V:(fL kn m a (L.take (b+1))).map tJ=LL.map tJ++[tJ (uk,sm)]:=(by rw[ay.o,Q.o,aU];rfl);rw[<-V] at ac;have aA:=ae ac;have aR:=ae (T.o.trans ad);clear ac ad Y ai T V;obtain⟨b6,n6,c6,rfl⟩:=aA.o.sl;go_wp2_with fail;go_roundw
     case rel=>exact⟨b+1,by omega,by go_num,aA,aR⟩
     case measure=>simp[intOf];omega
   ·obtain rfl:b=e:=by omega
    rw[aJ (by rw[W.o];exact aj _)] at H;have s:=I.o.blk.cell 1;have t:=I.o.blk.cell 2;go_wp2_with fail
    go_quiet (fail)
    go_wp2_with fail
    (try simp only[Exit.inBlock,Exit.then])
    refine bodyPost_ret (zi rfl _ _ _) rfl ?_;obtain⟨a,k,q⟩:=aE.o;refine⟨g,gk,f,d.heap.size,_,kn,vl,rfl,(I.o).new (below_drewN (az _ _) _),HC.o,⟨a,k,q⟩,?_,H.o.drewN _,below_drewN (ar.o.trans (C.o.mono ar.o.size)) _⟩;obtain⟨u,r,-⟩:=X.o.hs;exact⟨X.o.blk.lt,X.o.knb.lt,r.lt⟩
def lJ(l:List PI):Rp:=rS 1 (l.map rI)
theorem zm{l:List PI}{w:World}{F:Nat->Prop}{a:PK}{n c i:Nat}(g:(lJ l).ok w F [slice a n c])(t:l.length=n)(h:i<n):
 ∃b o d e f,a=some ⟨b,o,none⟩/\F b/\b<w.heap.size/\w.cell? ⟨b,o+i,none⟩=some (slice d e f)/\(rI (l.getD i [])).ok w F [slice d e f]/\e=(l.getD i []).length/\Rd w w.heap.size d e (bH (l.getD i [])):=by
 have j:i<l.length:=by omega
 have k:(l.map rI)[i]? =some (rI (l.getD i [])):=by rw[List.getElem?_map,af,ah j];rfl
 obtain⟨b,o,u,rfl,m,p,e,q,r⟩:=uQ g (by decide) h k;obtain⟨v,rfl⟩:=length_eq_one_iff.1 q;obtain⟨d,f,rfl,s,-⟩:=dI e rfl;have:=r 0 _ rfl;rw[Nat.mul_one,Nat.add_zero] at this;exact⟨b,o,d,_,f,rfl,m,p,this,e,rfl,s⟩
theorem Bh(n e:Nat)(l:PK)(m:Nat)(F:Nat->Prop)(L:List PI)(w:World)
 (o:(lJ L).ok w F [slice l e m])(p:L.length=e)(M:e<=2000)(N:n<=64)
 (q:∀x∈L,x.length<=1000/\(∀c∈x,c<n)/\Pd x):
 Calls prog 353 #[int i64 n,slice l e m] w λi a=>i=returned (bool true)/\a=w:=by
 have A:=ae o;have r:=ae p;have B:=ae q;clear o p q;go_enter func353,ntmps353;have a:¬(n:Int)<0:=by omega
 have b:¬64<(n:Int):=by omega
 go_wp2_with fail;clear a b;go_loopw [17] (λg wr=>∃f:Nat,f<=e/\g=int i64 f/\wr=w) (λg _=>e-(intOf g).toNat)
 case atStart=>exact⟨0,by omega,rfl,rfl⟩
 case round=>
  obtain⟨f,O,rfl,j⟩:=hrel;have d:=ae j;clear j;by_cases s:f<e
  ·have P:(f:Int)<(e:Int):=by omega
   have a:L.getD f []∈L:=(by rw[af,ah (by rw[r.o];exact s)];exact aQ _);obtain⟨C,k,t⟩:=B.o _ a;obtain⟨Q,R,S,b,T,rfl,_,U,u,_,v,y⟩:=zm A.o r.o s;have z:=ae y;have D:=ae k;have E:=ae t;have G:=ae v;have V:b<=1000:=(by omega);clear a y k C t;generalize L.getD f []=x at*;clear v;rw[<-d.o] at u;go_wp2_with fail;clear u;go_loopw [23] (λg t=>∃a:Nat,a<=b/\g=int i64 a/\t=w) (λg _=>b-(intOf g).toNat)
   case atStart=>exact⟨0,by omega,rfl,d.o⟩
   case round=>
    obtain⟨a,W,rfl,j⟩:=hrel;clear d;have d:=ae j;clear j;by_cases t:a<b
    ·have X:(a:Int)<(b:Int):=by omega
     have g:a<x.length:=(by rw[<-G.o];exact t);obtain⟨Y,Z,rfl,aa,u⟩:=iA z.o t;have k:x.getD a 0<n:=D.o _ (by rw[getD_at g];exact aQ g);have ab:¬((x.getD a 0:Nat):Int)<0:=(by omega);have ac:¬(n:Int)<=((x.getD a 0:Nat):Int):=(by omega);rw[<-d.o] at u;by_cases y:a=0
     ·subst y
      clear g;generalize x.getD 0 0=C at*;rw[Nat.add_zero] at u;go_wp2_with fail;go_roundw
      case rel=>exact⟨0+1,by omega,by go_num,d.o⟩
      case measure=>simp[intOf];omega
     ·obtain⟨_,_,i,ad,H⟩:=iA z.o (show a-1<b by omega)
      injection i with i;injection i with I J _;subst I J;rw[<-d.o] at H;have v:=E.o (a-1) (by omega);rw[show a-1+1=a by omega] at v;have ag:¬((x.getD a 0:Nat):Int)<=((x.getD (a-1) 0:Nat):Int):=(by omega);have ai:(0:Int)<(a:Int):=(by omega);have ak:IntKind.i64.wrap ((a:Int)-1)=((a-1:Nat):Int):=(by rw[IntKind.wrap_i64];omega);have am:((a:Int)-1)=((a-1:Nat):Int):=(by omega);have an:((a-1:Nat):Int)<(b:Int):=(by omega);have HJ:PH (a+1<=b/\b-(a+1)<b-a):=ae (by omega);clear g v;generalize x.getD a 0=C at*;generalize v:a-1=K at*;generalize x.getD K 0=ao at*;clear v;go_wp2_with fail;go_roundw
      case rel=>exact⟨a+1,by omega,by go_num,d.o⟩
      case measure=>simp[intOf];omega
    ·obtain rfl:a=b:=by omega
     go_wp2_with fail;go_roundw
     case rel=>exact⟨f+1,by omega,by go_num,d.o⟩
     case measure=>simp[intOf];omega
  ·obtain rfl:f=e:=by omega
   go_wp2_with fail;go_ret;exact⟨rfl,d.o⟩
structure PlSt (w:World) (g gl gu n N:Nat) (sl:Value) (op us:List Bool):Prop where
 blk:Blk w g 416 #[sl,slice (some ⟨gl,0,none⟩) n n,slice (some ⟨gu,0,none⟩) N N]
 opb:Blk w gl 4 (bX op).toArray
 usb:Blk w gu 4 (bX us).toArray
 ol:op.length=n
 ul:us.length=N
 ne:gl≠gu
theorem PlSt.nes{w:World}{g b c n d:Nat}{e:Value}{op f:List Bool}(a:PlSt w g b c n d e op f):g≠b/\g≠c/\b≠c:=⟨Blk.ne a.blk a.opb (by decide),Blk.ne a.blk a.usb (by decide),a.ne⟩
theorem PlSt.new{w w':World}{g c d n e:Nat}{f:Value}{op h:List Bool}(a:PlSt w g c d n e f op h)(b:Below w.heap.size w w'):PlSt w' g c d n e f op h:=
 ⟨a.blk.below b a.blk.lt,a.opb.below b a.opb.lt,a.usb.below b a.usb.lt,a.ol,a.ul,a.ne⟩
theorem PlSt.cellO{w:World}{g a d n e:Nat}{f:Value}{op h:List Bool}(b:PlSt w g a d n e f op h){c:Nat}(i:c<n):w.cell? ⟨a,c,none⟩=some (bool (op.getD c false)):=by
 rw[b.opb.cell c,af];have:c<op.length:=by rw[b.ol];exact i
 simp[bX,this]
theorem PlSt.cellU{w:World}{g f b n d:Nat}{h:Value}{op a:List Bool}(e:PlSt w g f b n d h op a){c:Nat}(i:c<d):w.cell? ⟨b,c,none⟩=some (bool (a.getD c false)):=by
 rw[e.usb.cell c,af];have:c<a.length:=by rw[e.ul];exact i
 simp[bX,this]
def gI(op:List Bool)(r:PI):PI:=r.filter λa=>op.getD a false
theorem Lc{op:List Bool}{r:PI}{k:Nat}(b:k<r.length):gI op (r.take (k+1))=if op.getD (r.getD k 0) false=true then gI op (r.take k)++[r.getD k 0] else gI op (r.take k):=by
 unfold gI;rw[aN b,filter_append,getD_at b];by_cases a:op.getD r[k] false=true
 ·rw[bg a,filter_cons,bg a];rfl
 ·rw[bh a,filter_cons,bh a,filter_nil,append_nil]
theorem zn(g x y n z q c:Nat)(A:Value)(op B:List Bool)(a:PK)(r:PI)(w:World)(m:PlSt w g x y n z A op B)(i:Rd w w.heap.size a q (bH r))(J:q<=1000)(o:∀c∈r,c<n):
 Calls prog 382 #[pointer (some ⟨g,0,none⟩),slice a q c] w λb d=>b=returned (.tuple #[int i64 ((gI op r).getLastD 0:Nat),bool (decide ((gI op r).length=1))])/\d=w:=by
 have b:r.length=q:=by have:=i.len;simpa[bH] using this
 have p:=ae m;have C:=ae i;have s:=ae b;have D:=ae o;clear m i b o;go_enter func382,ntmps382;go_wp2_with fail;go_loopw [6,7,12] (λe f d wr=>∃b:Nat,b<=q/\d=int i64 b/\e=int i64 ((gI op (r.take b)).getLastD 0:Nat)/\f=int i64 ((gI op (r.take b)).length:Nat)/\wr=w) (λ_ _ d _=>q-(intOf d).toNat)
 case atStart=>exact⟨0,by omega,rfl,rfl,rfl,rfl⟩
 case round=>
  obtain⟨b,K,rfl,rfl,rfl,d⟩:=hrel;have f:=ae d;clear d;have t:(gI op (r.take b)).length<=1000:=aP (length_filter_le _ _) (by rw[aG];omega);by_cases u:b<q
  ·have L:(b:Int)<(q:Int):=by omega
   have d:b<r.length:=(by rw[s.o];exact u);obtain⟨M,N,rfl,O,E⟩:=iA C.o u;have F:r.getD b 0<n:=D.o _ (by rw[getD_at d];exact aQ d);have j:=p.o.cellO F;have G:=p.o.blk.cell 1;have e:=ae (Lc (op:=op) d);have P:((r.getD b 0:Nat):Int)<(n:Int):=(by omega);rw[<-f.o] at E j G;clear d;generalize r.getD b 0=v at*;cases hky:op.getD v false with
   | false=>
     rw[hky] at j e;rw[bh (by decide)] at e;generalize gI op (r.take b)=d at*;have k:PH ((gI op (r.take (b+1))).length=d.length):=ae (by rw[e.o]);have l:PH ((gI op (r.take (b+1))).getLastD 0=d.getLastD 0):=ae (by rw[e.o]);generalize d.length=H at*;generalize d.getLastD 0=I at*;go_wp2_with fail;go_roundw
     case rel=>exact⟨b+1,by omega,by go_num,by rw[l.o],by rw[k.o],f.o⟩
     case measure=>simp[intOf];omega
   | true=>
     rw[hky] at j e;rw[bg rfl] at e;generalize gI op (r.take b)=d at*;have k:PH ((gI op (r.take (b+1))).length=d.length+1):=ae (by rw[e.o,aH];rfl);have l:PH ((gI op (r.take (b+1))).getLastD 0=v):=ae (by rw[e.o];simp);generalize d.length=H at*;generalize d.getLastD 0=I at*;go_wp2_with fail;go_roundw
     case rel=>exact⟨b+1,by omega,by go_num,by rw[l.o],by rw[k.o];go_num,f.o⟩
     case measure=>simp[intOf];omega
  ·obtain rfl:b=q:=by omega
   rw[aJ (by rw[s.o];exact aj _)] at t ⊢;by_cases e:(gI op r).length=1
   ·rw[e]
    have j:=ae e;clear e t;go_wp2_with fail;go_ret2;exact⟨by rw[bf j.o];rfl,f.o⟩
   ·have l:¬(((gI op r).length:Nat):Int)=1:=by omega
    generalize k:(gI op r).length=d at*;have v:=ae k;have j:=ae e;have E:((d:Int) == 1)=false:=beq_eq_false_iff_ne.2 l;clear e k;go_wp2_with fail;go_ret2;exact⟨by rw[v.o,decide_eq_false j.o];rfl,f.o⟩
def uI(a b id K H Z c:Nat)(v:Value):Value:=.agg #[int i64 a,int i64 b,int i64 id,int i64 K,int i64 H,int i64 Z,.int .u32 c,v]
def qZ(a b id K H Z c:Nat)(v:Value):Array Value:=#[int i64 a,int i64 b,int i64 id,int i64 K,int i64 H,int i64 Z,.int .u32 c,v]
theorem sJ{w:World}{g:Nat}{t:TypeId}{a b c d e f x y:Value}(h:Blk w g t #[a,b,c,d,e,f,x,y]):
 w.cell? ⟨g,0,none⟩=some a/\w.cell? ⟨g,1,none⟩=some b/\w.cell? ⟨g,2,none⟩=some c/\w.cell? ⟨g,3,none⟩=some d/\w.cell? ⟨g,4,none⟩=some e/\w.cell? ⟨g,5,none⟩=some f/\w.cell? ⟨g,6,none⟩=some x/\w.cell? ⟨g,7,none⟩=some y:=
 ⟨h.cell 0,h.cell 1,h.cell 2,h.cell 3,h.cell 4,h.cell 5,h.cell 6,h.cell 7⟩
theorem uJ(d b id K H Z g:Nat)(a:PK)(c:Nat)(w:World)(m:d<=16777215)(e:b<=255)(n:id<=65535)(o:fB K H Z=true):
 Calls prog 226 #[uI d b id K H Z g (slice a Z c)] w λk f=>k=returned (bool (decide (b<8)))/\Below w.heap.size w f:=by
 have i:=ae λw=>fK K H Z w;rw[o] at i;have j:=ae (Blk.new w 178 (qZ d b id K H Z g (slice a Z c)));have f:=ae ((az w.heap.size w).alloc (aj _) (cells (qZ d b id K H Z g (slice a Z c)) 178));unfold dD at i;unfold uI;have s:(d:Int)<=16777215:=by omega
 have t:(id:Int)<=65535:=by omega
 clear m n e;go_enter func226,ntmps226;by_cases l:b<8
 ·have p:(b:Int)<8:=by omega
  rw[bf l];go_wp2_with fail;unfold qZ at j f;generalize w.alloc (cells #[int i64 d,int i64 b,int i64 id,int i64 K,int i64 H,int i64 Z,.int .u32 g,slice a Z c] 178)=u at*;refine(i.o _).mono ?_;rintro k v ⟨rfl,e⟩;have q:=ae (f.o.trans (e.mono f.o.size));have r:=ae (j.o.below e j.o.lt);obtain⟨x,y,z,A,B,C,D,E⟩:=sJ r.o;clear e f j i;go_wp2_with fail;go_ret;exact⟨rfl,q.o⟩
 ·have p:¬(b:Int)<8:=by omega
  rw[decide_eq_false l];go_wp2_with fail;go_ret;exact⟨rfl,f.o⟩
theorem oN(j k id K H Z l:Nat)(d:PI)(a:PK)(c:Nat)(w:World)(z:j<=16777215)(V:k<8)(W:id<=65535)(G:fB K H Z=true)(hs:l<4294967296)
 (A:Rd w w.heap.size a Z (bF d))(I:By d)(X:a=none->c=0):
 Calls prog 162 #[uI j k id K H Z l (slice a Z c)] w λu b=>∃g,u=returned (slice (some ⟨g,0,none⟩) 64 64)/\w.heap.size<=g/\Blk b g 5 (bK (cellL 1 (iR j k id K H Z l d)))/\Below w.heap.size w b:=by
 have ak:=ba G;have b:d.length=Z:=by have:=A.len;rwa [bG] at this
 have e:=ae λw=>uJ j k id K H Z l a c w z (by omega) W G;rw[bf V] at e;have f:=ae (Blk.new w 178 (qZ j k id K H Z l (slice a Z c)));have i:=ae ((az w.heap.size w).alloc (aj _) (cells (qZ j k id K H Z l (slice a Z c)) 178));unfold uI at e ⊢;unfold qZ at i f;have Y:=ae A;have B:=ae b;have aa:=ae I;clear A b I;have al:(K:Int)%256=(K:Int):=by omega
 have am:(H:Int)%256=(H:Int):=by omega
 have an:(Z:Int)%256=(Z:Int):=by omega
 have y:=ae λ(n:Value) (b:PI) (m o p:Nat) (w:World) (z:OwnB w m n b) (q:m<=w.heap.size) (r:o<4294967296) (hs:p<=4) (s:b.length<=1000)=>wG n b m o p w z q r hs s;go_enter func162,ntmps162;go_wp2_with fail;generalize b:w.alloc (cells #[int i64 j,int i64 k,int i64 id,int i64 K,int i64 H,int i64 Z,.int .u32 l,slice a Z c] 178)=w0 at*;have ao:w0.heap.size=w.heap.size+1:=by rw[<-b];simp
 clear b;refine(e.o _).mono ?_;rintro u J ⟨rfl,b⟩;have x:=ae (i.o.trans (b.mono i.o.size));have v:=ae (f.o.below b f.o.lt);have L:w.heap.size+1<=J.heap.size:=by have:=b.size;omega
 obtain⟨m,n,o,p,q,r,s,t⟩:=sJ v.o;clear b i f e;go_wp2_with fail;refine(y.o (slice none 0 0) [] (w.heap.size+1) j 3 J (OwnB.nil _ _) L (by omega) (by omega) (by simp)).mono ?_;rintro u M ⟨v2,rfl,e,b⟩;clear m n o p q r s t;have C:=ae (x.o.trans (b.mono (by omega)));have i:=ae (v.o.below b (by omega));have N:w.heap.size+1<=M.heap.size:=aP L b.size;have f:=ae e;obtain⟨m,n,o,p,q,r,s,t⟩:=sJ i.o;clear b e x v;obtain⟨a2,c2,rfl,-⟩:=f.o.rd;rw[nil_append] at f;go_wp2_with fail;refine(y.o _ _ _ k 1 M f.o N (by omega) (by omega) (by rw[cH];omega)).mono ?_;rintro u O ⟨v3,rfl,e,b⟩;clear m n o p q r s t;have D:=ae (C.o.trans (b.mono (by omega)));have x:=ae (i.o.below b (by omega));have P:w.heap.size+1<=O.heap.size:=aP N b.size;have f:=ae e;obtain⟨m,n,o,p,q,r,s,t⟩:=sJ x.o;clear b e C i;obtain⟨a3,c3,rfl,-⟩:=f.o.rd;go_wp2_with fail;refine(y.o _ _ _ id 2 O f.o P (by omega) (by omega) (by simp[cH])).mono ?_;rintro u v ⟨v4,rfl,e,b⟩;clear m n o p q r s t;have Q:=ae (D.o.trans (b.mono (by omega)));have i:=ae (x.o.below b (by omega));have ab:w.heap.size+1<=v.heap.size:=aP P b.size;have f:=ae e;obtain⟨m,n,o,p,q,r,s,t⟩:=sJ i.o;clear b e D x;obtain⟨a4,c4,rfl,-⟩:=f.o.rd;have x:=(az v.heap.size v).alloc (aj _) (cells (bK [K,H,Z]) 5);have C:=ae (f.o.below x);have D:=ae (qi (Blk.new v 5 (bK [K,H,Z])));have R:bK [K,H,Z]= #[.int .u8 (K:Int),.int .u8 (H:Int),.int .u8 (Z:Int)]:=rfl;have S:(v.alloc (cells (bK [K,H,Z]) 5)).heap.size=v.heap.size+1:=by simp
 have E:PH (Below (w.heap.size+1) v (v.alloc (cells (bK [K,H,Z]) 5))):=ae (x.mono ab);have F:=ae (i.o.below x (i.o.lt));rw[R] at C D S E F;clear x R
 go_wp2_with (at_builtin;refine ni rfl _ _ rfl C.o ?c1 ?c2 rfl rfl ?c3 D.o ?_)
 case c1=>omega
 case c2=>simp[cH]
 case c3=>intro u;cases u
 intro v5 R e b _ _;clear m n o p q r s t;have T:=ae (Q.o.trans ((E.o.mono (by omega)).trans (b.mono (by omega))));have x:=ae (F.o.below b (by omega));have U:w.heap.size+1<=R.heap.size:=by have:=b.size;omega
 have f:=ae e;obtain⟨m,n,o,p,q,r,s,t⟩:=sJ x.o;clear b e Q i F E D C S;obtain⟨a5,c5,rfl,-⟩:=f.o.rd;go_wp2_with fail;refine(y.o _ _ _ l 4 R f.o U (by omega) (by omega) (by simp[cH])).mono ?_;rintro u w6 ⟨v6,rfl,e,b⟩;clear m n o p q r s t;have C:=ae (T.o.trans (b.mono (by omega)));have E:=ae (x.o.below b (by omega));have ac:w.heap.size+1<=w6.heap.size:=aP U b.size;have f:=ae e;obtain⟨m,n,o,p,q,r,s,t⟩:=sJ E.o;clear b e T x;obtain⟨a6,c6,rfl,-⟩:=f.o.rd;have T:=ae (Y.o.below C.o (aj _))
 go_wp2_with (at_builtin;refine ni rfl _ _ rfl f.o ?c1 ?c2 rfl rfl ?c3 T.o ?_)
 case c1=>exact ac
 case c2=>simp[cH];omega
 case c3=>exact X
 intro v7 F e b _ _;clear m n o p q r s t;have ad:([]++bU j 3++bU k 1++bU id 2++[K,H,Z]++bU l 4++d).length=13+Z:=by simp[cH,B.o];omega
 have Q:=ae (C.o.trans (b.mono (by omega)))
 have S:OwnB F (w.heap.size+1) v7 (iR j k id K H Z l d):=by
  unfold iR;first | exact e | (simpa using e)
 have D:=iT j k id K H Z l d;have f:=ae S
 have ag:PH (By (iR j k id K H Z l d)):=ae (by
  unfold iR;intro x i;simp only[bz] at i;rcases i with((((i | i) | i) | i) | i) | i
  ·exact eY _ _ x i
  ·exact eY _ _ x i
  ·exact eY _ _ x i
  ·simp at i;omega
  ·exact eY _ _ x i
  ·exact aa.o x i)
 clear b e S C E ad;obtain⟨S,c7,rfl,C⟩:=f.o.rd;rw[D] at C;have E:=ae (ug 1 (iR j k id K H Z l d) S _ c7 F (by omega) (by omega) C ag.o (by have:=B.o;omega));rw[D];rw[B.o] at E ⊢;clear C D;go_wp2_with fail;refine E.o.mono ?_;rintro u w8 ⟨g,rfl,hg,C,b⟩;have D:=ae C;have ad:=Q.o.size;have ai:=ae (Q.o.trans (b.mono ad));clear C b;go_wp2_with fail;go_ret;exact⟨g,rfl,by omega,D.o,ai.o⟩
theorem eD{P:Program}{e:Func}{p q:Tmp}{a:TypeId}(h:e.results= #[.cell p a,.tmp q])(b:Array Value)(w:World)(g:Nat)(t:TypeId)(c:Array Value)(f:Nat×Nat)(d:TypeDesc)
 (i:b.getD p undef=pointer (some ⟨g,0,none⟩))(j:w.heap[g]? =some (.cells c t f))
 (k:P.underlying a=some d)(l:(match d with | .struct _ | .array _ _=>true | _=>false)=true)(m:(P.info? a).map (·.size)=some c.size):
 (results e b).run P w=.ok (.tuple #[.agg c,b.getD q undef]) w:=by
 rw[results_cell_tmp h];have n:b[p]?.getD undef=pointer (some ⟨g,0,none⟩):=by simpa using i
 simp[n,asAddr,run_loadVar_row w g t a c f d j k l m,Result.andThen]
def ib:Array Value:=#[int i64 0,int i64 0,int i64 0,int i64 0,int i64 0,int i64 0,.int .u32 0,slice none 0 0]
theorem zY:ib.all (·.oneCell')=true:=by kernel_rfl
theorem JB(b d id K H Z e:Nat)(a:PK)(n c:Nat):(qZ b d id K H Z e (slice a n c)).all (·.oneCell')=true:=by kernel_rfl
theorem uK(b:PI)(a:PK)(c:Nat)(w:World)(p:Rd w w.heap.size a 64 (bF b))(d:By b)(q:64<=c/\c<=maxLen)(r:¬(jf b/\b.getD 3 0=1)):
 Calls prog 178 #[slice a 64 c] w λs e=>s=returned (.tuple #[.agg ib,bool false])/\Below w.heap.size w e:=by
 have i:PH (Sx w (w.alloc (cells (ib) 178)) [bS w.heap.size 178 (ib),mF a 64 (bF b)]):=
  ae (((((Sx.nil w).add (mF a 64 (bF b)) p).alloc _).add (bS _ _ _) (Blk.new w 178 _)))
 have j:=ae λw (h:Rd w w.heap.size a 64 (bF b))=>xk b a c w h d q;have x:=ae r;have B:=getD_lt d 3;have y:w.heap.size<(w.alloc (cells (ib) 178)).heap.size:=by simp
 clear p d q r;unfold ib at i y;go_enter func178,ntmps178;go_wp2_with fail;generalize e:w.alloc (cells #[int i64 0,int i64 0,int i64 0,int i64 0,int i64 0,int i64 0,.int .u32 0,slice none 0 0] 178)=C at*;clear e;refine(j.o _ (i.o.rd 1 rfl)).mono ?_;rintro s t ⟨k,l,d⟩;have g:=ae (i.o.step d);have e:w.heap.size<=w.heap.size:=aj _;have u:=ae e;clear e;by_cases m:jf b
 ·obtain⟨D,rfl,v⟩:=k m
  have E:¬b.getD 3 0=1:=λh=>x.o ⟨m,h⟩;obtain⟨F,G,rfl,-⟩:=v.rd;clear k l d v j;generalize b.getD 3 0=z at*;have H:¬(z:Int)=1:=(by omega);have n:=g.o.blk 0 rfl;have e:=ae (g.o.1);have f:=ae n;clear n
  go_wp2_with (change wpList _ _ _ (Oper.mk none (Op.store 178 _ _) _ _ _ _ :: _) _ _;refine wpList_store_row rfl 178 _ _ rfl w.heap.size ib rfl rfl 178 _ f.o (by kernel_rfl) rfl zY ?_)
  have n:=ae (f.o.row ib);have o:=ae (bW e.o u.o ib);clear e;generalize t.setRow w.heap.size ib=A at*;go_wp2_with fail
  (try simp only[Exit.inBlock,Exit.then])
  refine bodyPost_ret (eD rfl _ _ w.heap.size 178 ib (0,0) _ rfl n.o underlying178 rfl (by kernel_rfl)) rfl ?_;exact⟨rfl,o.o⟩
 ·obtain rfl:=l m
  have f:=ae (g.o.blk 0 rfl);have e:=ae (g.o.1);clear k l d j
  go_wp2_with (change wpList _ _ _ (Oper.mk none (Op.store 178 _ _) _ _ _ _ :: _) _ _;refine wpList_store_row rfl 178 _ _ rfl w.heap.size ib rfl rfl 178 _ f.o (by kernel_rfl) rfl zY ?_)
  have n:=ae (f.o.row ib);have o:=ae (bW e.o u.o ib);clear e;generalize t.setRow w.heap.size ib=A at*;go_wp2_with fail
  (try simp only[Exit.inBlock,Exit.then])
  refine bodyPost_ret (eD rfl _ _ w.heap.size 178 ib (0,0) _ rfl n.o underlying178 rfl (by kernel_rfl)) rfl ?_;exact⟨rfl,o.o⟩
theorem Dx(g G H n b:Nat)(I:PK)(J:Nat)(F:Nat->Prop)(op d:List Bool)(L:List PI)(w:World)(t:PlSt w g G H n b (slice I b J) op d)
 (K:(lJ L).ok w F [slice I b J])(M:L.length=b)(aa:b<=2000)(N:∀x∈L,x.length<=1000/\(∀c∈x,c<n)):
 Calls prog 355 #[pointer (some ⟨g,0,none⟩)] w λf a=>((∃r c:Nat,f=returned (.tuple #[.agg #[int i64 r,int i64 c],bool true])/\r<b/\d.getD r false=false/\gI op (L.getD r [])=[c])\/
  (f=returned (.tuple #[.agg #[int i64 0,int i64 0],bool false])/\∀r,r<b->d.getD r false=false->(gI op (L.getD r [])).length≠1))/\Below w.heap.size w a:=by
 have a:=(az w.heap.size w).alloc (aj _) (cells #[int i64 0,int i64 0] 359);have u:=ae (t.new a);have U:=ae ((lJ L).new K a);have O:=ae (Blk.new w 359 #[int i64 0,int i64 0]);have P:=ae a;have Q:=ae M;have V:=ae N;have e:=(t.new a).blk.cell 0;clear a t K M N;go_enter func355,ntmps355;go_wp2_with fail;clear e;generalize w.alloc (cells #[int i64 0,int i64 0] 359)=v at*;go_loopw [13] (λe wr=>∃a:Nat,a<=b/\e=int i64 a/\PH (∀r,r<a->d.getD r false=false->(gI op (L.getD r [])).length≠1)/\wr=v) (λe _=>b-(intOf e).toNat)
 case atStart=>exact⟨0,by omega,rfl,ae (λr h=>absurd h (Nat.not_lt_zero r)),rfl⟩
 case round=>
  obtain⟨a,ab,rfl,y,i⟩:=hrel;have e:=ae i;clear i;by_cases q:a<b
  ·have ac:(a:Int)<(b:Int):=by omega
   have j:L.getD a []∈L:=(by rw[af,ah (by rw[Q.o];exact q)];exact aQ _);obtain⟨m,k⟩:=V.o _ j;obtain⟨ad,ag,W,X,Y,rfl,_,hb,R,_,o,l⟩:=zm U.o Q.o q;have s:=u.o.cellU q;have S:=u.o.blk.cell 2;have i:=ae (zn g G H n b X Y _ op d W _ v u.o l (by omega) k);rw[<-e.o] at R s S i;clear j l k m;generalize j:L.getD a []=x at*;have T:=ae j;clear o j;cases hky:d.getD a false with
   | true=>
     rw[hky] at s;have z:=ae hky;clear hky;go_wp2_with fail;go_roundw
     case rel=>
      have A:PH (∀r,r<a+1->d.getD r false=false->(gI op (L.getD r [])).length≠1):=ae λr B m=>by
       rcases Nat.lt_succ_iff_lt_or_eq.1 B with h | rfl
       ·exact y.o r h m
       ·rw[z.o] at m;exact Bool.noConfusion m
      exact⟨a+1,by omega,by go_num,A,e.o⟩
     case measure=>simp[intOf];omega
   | false=>
     rw[hky] at s;have z:=ae hky;clear hky;by_cases k:(gI op x).length=1
     ·rw[bf k] at i
      have C:=ae k;clear k;obtain⟨c,j⟩:=length_eq_one_iff.1 C.o;have f:(gI op x).getLastD 0=c:=(by rw[j];rfl);rw[f] at i;have Z:=ae j;clear j f;go_wp2_with fail;refine i.o.mono ?_;rintro f o ⟨rfl,l⟩;have j:PH (Blk o w.heap.size 359 #[int i64 0,int i64 0]):=ae (by rw[l,e.o];exact O.o);have p:PH (Below w.heap.size w o):=ae (by rw[l,e.o];exact P.o);clear l R s S i
      go_wp2_with (change wpList _ _ _ (Oper.mk none (Op.store 359 _ _) _ _ _ _ :: _) _ _;refine wpList_store_row rfl 359 _ _ rfl w.heap.size #[int i64 a,int i64 c] rfl rfl 359 _ j.o (by kernel_rfl) rfl (by kernel_rfl) ?_)
      have D:=ae (j.o.row #[int i64 a,int i64 c]);have E:=ae (bW p.o (aj _) #[int i64 a,int i64 c]);clear j p;generalize o.setRow w.heap.size #[int i64 a,int i64 c]=w2 at*;go_wp2_with fail
      (try simp only[Exit.inBlock,Exit.then])
      refine bodyPost_ret (eD rfl _ _ w.heap.size 359 #[int i64 a,int i64 c] (0,0) _ rfl D.o underlying359 rfl (by kernel_rfl)) rfl ?_;exact⟨.inl ⟨a,c,rfl,q,z.o,by rw[T.o];exact Z.o⟩,E.o⟩
     ·rw[decide_eq_false k] at i
      have C:=ae k;clear k;go_wp2_with fail;refine i.o.mono ?_;rintro f o ⟨rfl,l⟩;have Z:PH (o=v):=ae (l.trans e.o);clear l;go_wp2_with fail;go_roundw
      case rel=>
       have A:PH (∀r,r<a+1->d.getD r false=false->(gI op (L.getD r [])).length≠1):=ae λr B m=>by
        rcases Nat.lt_succ_iff_lt_or_eq.1 B with h | rfl
        ·exact y.o r h m
        ·rw[T.o];exact C.o
       exact⟨a+1,by omega,by go_num,A,Z.o⟩
      case measure=>simp[intOf];omega
  ·obtain rfl:a=b:=by omega
   have j:PH (Blk wr w.heap.size 359 #[int i64 0,int i64 0]):=ae (by rw[e.o];exact O.o);have p:PH (Below w.heap.size w wr):=ae (by rw[e.o];exact P.o);clear e
   go_wp2_with (change wpList _ _ _ (Oper.mk none (Op.store 359 _ _) _ _ _ _ :: _) _ _;refine wpList_store_row rfl 359 _ _ rfl w.heap.size #[int i64 0,int i64 0] rfl rfl 359 _ j.o (by kernel_rfl) rfl (by kernel_rfl) ?_)
   have D:=ae (j.o.row #[int i64 0,int i64 0]);have E:=ae (bW p.o (aj _) #[int i64 0,int i64 0]);clear j p;generalize wr.setRow w.heap.size #[int i64 0,int i64 0]=w2 at*;go_wp2_with fail
   (try simp only[Exit.inBlock,Exit.then])
   refine bodyPost_ret (eD rfl _ _ w.heap.size 359 #[int i64 0,int i64 0] (0,0) _ rfl D.o underlying359 rfl (by kernel_rfl)) rfl ?_;exact⟨.inr ⟨rfl,y.o⟩,E.o⟩
def fV(a:List Int):List Value:=a.map (Value.int .i64)
theorem vG{w:World}{g:Nat}{t:TypeId}{a:List Int}(b:Blk w g t (fV a).toArray){k:Nat}(c:k<a.length):w.cell? ⟨g,k,none⟩=some (int i64 (a.getD k 0)):=by
 rw[b.cell k,af];simp[fV,c]
theorem Dy{w:World}{g:Nat}{t:TypeId}{a:List Int}(b:Blk w g t (fV a).toArray)(k:Nat)(z:Int):Blk (w.setCell ⟨g,k,none⟩ (int i64 z)) g t (fV (a.set k z)).toArray:=by
 have c:(fV (a.set k z)).toArray=(fV a).toArray.setIfInBounds k (int i64 z):=by unfold fV;simp
 rw[c];exact b.set k _
theorem Np{n:Nat}(h:n<=1000000)(w:World):(Instr.makeSlice 22 (int i64 (n:Int)) (int i64 (n:Int))).run prog w=.ok (slice (some ⟨w.heap.size,0,none⟩) n n) (w.alloc (cells (fV (replicate n 0)).toArray 3)):=by
 obtain⟨b,c,d,e,f⟩:=info_parts iU;have a:=run_make (P:=prog) w 22 3 b (int i64 0) underlying22 c d .i64 .i64 (n:Int) (n:Int) (by omega) (by omega) (by rw[f];omega) (by omega);rw[e,Nat.mul_one,Int.toNat_natCast] at a;have g:(fV (replicate n 0)).toArray=madeCells #[Value.int .i64 0] n:=by rw[vV];unfold fV;simp
 rw[g];exact a
theorem Dz(g T U n f:Nat)(D:PK)(E:Nat)(F:Nat->Prop)(op G:List Bool)(L:List PI)(w:World)(v:PlSt w g T U n f (slice D f E) op G)(hn:n<=1000)
 (H:(lJ L).ok w F [slice D f E])(I:L.length=f)(am:f<=2000)(l:∀x∈L,x.length<=1000/\(∀c∈x,c<n))(J:∃c,c<n/\op.getD c false=true):
 Calls prog 356 #[pointer (some ⟨g,0,none⟩)] w λa b=>(∃c:Nat,a=returned (int i64 c)/\c<n/\op.getD c false=true)/\Below w.heap.size w b:=by
 have K:=ae v;have V:=ae H;have M:=ae I;have W:=ae l;have X:=ae J;have b:∀w:World,(Instr.makeSlice 22 (int i64 (n:Int)) (int i64 (n:Int))).run prog w=.ok (slice (some ⟨w.heap.size,0,none⟩) n n) (w.alloc (cells (fV (replicate n 0)).toArray 3)):=λw=>Np (by omega) w;have a:=(az w.heap.size w).alloc (aj _) (cells (fV (replicate n 0)).toArray 3);have N:PH (∃d:List Int,d.length=n/\Blk (w.alloc (cells (fV (replicate n 0)).toArray 3)) w.heap.size 3 (fV d).toArray):=ae ⟨_,aI,Blk.new w _ _⟩;have O:=ae a;have A:=v.blk.cell 1;have e:=(v.new a).blk.cell 0;clear a v H I l J;go_enter func356,ntmps356;generalize a:(fV (replicate n 0)).toArray=Y at*
 go_wp2_with (simp only[b])
 clear A e a b;generalize w.alloc (.cells Y 3)=w0 at*;go_loopw [22] (λe wr=>∃k:Nat,k<=f/\e=int i64 k/\PH (∃d:List Int,d.length=n/\Blk wr w.heap.size 3 (fV d).toArray)/\PH (Below w.heap.size w wr)) (λe _=>f-(intOf e).toNat)
 case atStart=>exact⟨0,by omega,rfl,N,O⟩
 case round=>
  clear N O;obtain⟨k,an,rfl,i,b⟩:=hrel;have j:=ae (K.o.new b.o);by_cases B:k<f
  ·have ao:(k:Int)<(f:Int):=by omega
   have a:L.getD k []∈L:=(by rw[af,ah (by rw[M.o];exact B)];exact aQ _);obtain⟨s,C⟩:=W.o _ a;obtain⟨Q,R,a1,o,c1,rfl,_,S,m,_,q,r⟩:=zm V.o M.o B;have Z:=ae r;have aa:=ae C;have ab:=ae q;have ap:o<=1000:=(by omega);have t:=(b.o.cell (p:=⟨Q,R+k,none⟩) S).trans m;have u:=j.o.blk.cell 0;clear a r C s m;generalize L.getD k []=x at*;clear q j;go_wp2_with fail;clear t u;go_loopw [29] (λe y=>∃a:Nat,a<=o/\e=int i64 a/\PH (∃d:List Int,d.length=n/\Blk y w.heap.size 3 (fV d).toArray)/\PH (Below w.heap.size w y)) (λe _=>o-(intOf e).toNat)
   case atStart=>exact⟨0,by omega,rfl,i,b⟩
   case round=>
    clear i b;obtain⟨a,aq,rfl,i,b⟩:=hrel;have j:=ae (K.o.new b.o);by_cases q:a<o
    ·have ac:(a:Int)<(o:Int):=by omega
     have m:a<x.length:=(by rw[<-ab.o];exact q);obtain⟨bc,oc,rfl,ad,r⟩:=iA Z.o q;have C:x.getD a 0<n:=aa.o _ (by rw[getD_at m];exact aQ m);have ar:=(b.o.cell (p:=⟨bc,oc+a,none⟩) ad).trans r;have P:=j.o.cellU B;have p2:=j.o.blk.cell 2;have au:((x.getD a 0:Nat):Int)<(n:Int):=(by omega);clear m r;generalize x.getD a 0=r at*;cases hky:G.getD k false with
     | true=>
       rw[hky] at P;go_wp2_with fail;go_roundw
       case rel=>exact⟨a+1,by omega,by go_num,i,b⟩
       case measure=>simp[intOf];omega
     | false=>
       rw[hky] at P;obtain⟨d,u,m⟩:=i.o;have z:=vG m (k:=r) (by omega);have hf:=m.frozen r;have ag:=ae λs=>Dy m r s;have ai:PH (∀s,(d.set r s).length=n):=ae λs=>(by rw[length_set];exact u);have ak:PH (∀t,Below w.heap.size w (wr.setCell ⟨w.heap.size,r,none⟩ t)):=ae λt=>b.o.setCell (p:=⟨w.heap.size,r,none⟩) (aj _) t;clear u m i j;go_wp2_with fail;go_roundw
       case rel=>exact⟨a+1,by omega,by go_num,ae ⟨_,ai.o _,ag.o _⟩,ae (ak.o _)⟩
       case measure=>simp[intOf];omega
    ·obtain rfl:a=o:=by omega
     go_wp2_with fail;go_roundw
     case rel=>exact⟨k+1,by omega,by go_num,i,b⟩
     case measure=>simp[intOf];omega
  ·obtain rfl:k=f:=by omega
   have A:=j.o.blk.cell 1;obtain⟨d,u,m⟩:=i.o;have Z:=ae u;have C:=ae m;clear i u m;go_wp2_with fail;clear A;go_loopw [8,54] (λt e y=>∃a:Nat,a<=n/\e=int i64 a/\PH ((t=int i64 (-1)/\∀c,c<a->op.getD c false=false)\/∃c:Nat,t=int i64 c/\c<n/\op.getD c false=true)/\PH (Below wr.heap.size wr y)) (λ_ e _=>n-(intOf e).toNat)
   case atStart=>exact⟨0,by omega,rfl,ae (.inl ⟨rfl,λc h=>absurd h (Nat.not_lt_zero c)⟩),ae (az _ _)⟩
   case round=>
    obtain⟨a,ab,rfl,o,e⟩:=hrel;by_cases q:a<n
    ·have ac:(a:Int)<(n:Int):=by omega
     have P:=(j.o.new e.o).cellO q;have r:∀c,c<n->∃s,(‹World›:World).cell? ⟨w.heap.size,c,none⟩=some (int i64 s):=λc z=>⟨_,(e.o.cell (p:=⟨w.heap.size,c,none⟩) C.o.lt).trans (vG C.o (k:=c) (by rw[Z.o];exact z))⟩;obtain⟨z1,ad⟩:=r a q;have t:op.getD a false=true->PH ((Value.int .i64 a=int i64 (-1)/\∀c,c<a+1->op.getD c false=false)\/∃c:Nat,Value.int .i64 a=int i64 c/\c<n/\op.getD c false=true):=λh=>ae (.inr ⟨a,rfl,q,h⟩);cases hky:op.getD a false with
     | false=>
       rw[hky] at P;have Q:=ae hky;clear hky t r
       have s:PH ((_=Value.int .i64 (-1)/\∀c,c<a+1->op.getD c false=false)\/∃c:Nat,_=Value.int .i64 c/\c<n/\op.getD c false=true):=ae (by
        rcases o.o with⟨R,y⟩ | h
        ·exact .inl ⟨R,λc z=>by
          rcases Nat.lt_succ_iff_lt_or_eq.1 z with h | rfl
          ·exact y c h
          ·exact Q.o⟩
        ·exact .inr h)
       go_wp2_with fail
       go_quiet (fail)
       go_wp2_with fail;go_roundw
       case rel=>exact⟨a+1,by omega,by go_num,s,ae (below_drewN e.o _)⟩
       case measure=>simp[intOf];omega
     | true=>
       rw[hky] at P;have S:=t hky;have Q:=ae hky;clear t hky;rcases o.o with⟨rfl,-⟩ | ⟨c,rfl,l,s⟩
       ·clear r
        go_wp2_with fail
        go_quiet (fail)
        go_wp2_with fail;go_roundw
        case rel=>exact⟨a+1,by omega,by go_num,S,ae (below_drewN e.o _)⟩
        case measure=>simp[intOf];omega
       ·obtain⟨z2,ag⟩:=r c l
        have ai:(c:Int)<(n:Int):=(by omega);have ak:¬(c:Int)<0:=(by omega);have aa:PH ((Value.int .i64 c=int i64 (-1)/\∀c,c<a+1->op.getD c false=false)\/∃z:Nat,Value.int .i64 c=int i64 z/\z<n/\op.getD z false=true):=ae (.inr ⟨c,rfl,l,s⟩);clear r s o;by_cases z:z2<z1
        ·go_wp2_with fail
         go_quiet (fail)
         go_wp2_with fail;go_roundw
         case rel=>exact⟨a+1,by omega,by go_num,S,ae (below_drewN e.o _)⟩
         case measure=>simp[intOf];omega
        ·go_wp2_with fail
         go_quiet (fail)
         go_wp2_with fail;go_roundw
         case rel=>exact⟨a+1,by omega,by go_num,aa,ae (below_drewN e.o _)⟩
         case measure=>simp[intOf];omega
    ·obtain rfl:a=n:=by omega
     obtain⟨c,rfl,l,s⟩:∃c:Nat,_=Value.int .i64 c/\c<a/\op.getD c false=true:=by
      rcases o.o with⟨R,y⟩ | h
      ·obtain⟨c,t,r⟩:=X.o
       rw[y c t] at r;exact Bool.noConfusion r
      ·exact h
     clear o;go_wp2_with fail;go_ret;exact⟨⟨c,rfl,l,s⟩,b.o.trans (e.o.mono b.o.size)⟩
structure PlInv (n:Nat) (L:List PI) (op us:List Bool) (St:List (Nat×Nat)) (De:PI):Prop where
 ol:op.length=n
 ul:us.length=L.length
 step:∀(k r c:Nat),St[k]? =some (r,c)->r<L.length/\c∈L.getD r []/\∀d∈L.getD r [],d≠c->d∈De\/∃k' r',k'<k/\St[k']? =some (r',d)
 used:∀r,r<L.length->(us.getD r false=true↔r∈St.map Prod.fst)
 opn:∀c,c<n->(op.getD c false=false↔c∈St.map Prod.snd\/c∈De)
 lt:∀c,c∈St.map Prod.snd\/c∈De->c<n
 rows:(St.map Prod.fst).Nodup
 cols:(St.map Prod.snd++De).Nodup
 nodead:∀c∈De,∀r,r<L.length->L.getD r []≠[c]
theorem vW{n c:Nat}:(replicate n false).getD c false=false:=by
 rw[af,List.getElem?_replicate];split <;> rfl
theorem wM{n c:Nat}(a:c<n):(replicate n true).getD c false=true:=by
 rw[af,List.getElem?_replicate,bg a];rfl
theorem PlInv.begin(n:Nat)(L:List PI):PlInv n L (replicate n true) (replicate L.length false) [] [] where
 ol:=aI
 ul:=aI
 step:=λd c b a=>by simp at a
 used:=λc d=>by rw[vW];simp
 opn:=λb c=>by rw[wM c];simp
 lt:=λb a=>by simp at a
 rows:=by simp
 cols:=by simp
 nodead:=λb a=>by simp at a
theorem nN{l:List Bool}{i j:Nat}{b:Bool}(a:i<l.length):(l.set i b).getD j false=if i=j then b else l.getD j false:=by
 rw[af,List.getElem?_set,af];split
 ·rename_i c;subst c;simp[]
 ·rfl
theorem PlInv.told{n:Nat}{L:List PI}{op o:List Bool}{St:List (Nat×Nat)}{De:PI}(d:PlInv n L op o St De)(u:∀x∈L,∀c∈x,c<n){r c:Nat}(j:r<L.length)(v:o.getD r false=false)(w:gI op (L.getD r [])=[c]):
 PlInv n L (op.set c false) (o.set r true) (St++[(r,c)]) De:=by
 have y:L.getD r []∈L:=by rw[af,ah j];exact aQ j
 have D:c∈gI op (L.getD r []):=by rw[w];simp
 obtain⟨z,A⟩:=mem_filter.1 D;have p:c<n:=u _ y c z;have B:¬(c∈St.map Prod.snd\/c∈De):=λb=>by rw[(d.opn c p).2 b] at A;exact Bool.noConfusion A
 have E:r∉St.map Prod.fst:=λb=>by rw[(d.used r j).2 b] at v;exact Bool.noConfusion v
 refine⟨by rw[length_set];exact d.ol,by rw[length_set];exact d.ul,?_,?_,?_,?_,?_,?_,d.nodead⟩
 ·intro l k h e
  rcases bq l St.length with F | G
  ·rw[List.getElem?_append_left F] at e
   obtain⟨a,i,C⟩:=d.step l k h e;refine⟨a,i,λf m q=> ?_⟩;rcases C f m q with g | ⟨s,H,g,t⟩
   ·exact .inl g
   ·exact .inr ⟨s,H,g,by rw[List.getElem?_append_left (by omega)];exact t⟩
  ·rw[List.getElem?_append_right G] at e
   have H:l-St.length=0:=by
    rcases Nat.eq_zero_or_pos (l-St.length) with d | d
    ·exact d
    ·rw[List.getElem?_eq_none (by simp;omega)] at e;cases e
   rw[H] at e;injection e with e;injection e with I J;subst I J;refine⟨j,z,λf m q=> ?_⟩;have K:=u _ y f m
   have M:op.getD f false=false:=by
    cases ho:op.getD f false with
    | false=>rfl
    | true=>
      have:f∈gI op (L.getD r []):=mem_filter.2 ⟨m,ho⟩;rw[w] at this;exact absurd (mem_singleton.1 this) q
   rcases(d.opn f K).1 M with g | g
   ·obtain⟨⟨k,N⟩,t,b⟩:=aY.1 g
    obtain⟨s,C,O⟩:=bC t;have:N=f:=b;subst this;exact .inr ⟨s,k,by omega,by rw[List.getElem?_append_left C,ah C,O]⟩
   ·exact .inl g
 ·intro k e
  rw[nN (by rw[d.ul];exact j),aU,bz];split
  ·rename_i b;subst b;simp
  ·rename_i b
   rw[d.used k e];constructor
   ·exact .inl
   ·rintro(a | a)
    ·exact a
    ·simp at a;exact absurd a.symm b
 ·intro h e
  rw[nN (by rw[d.ol];exact p),aU,bz];split
  ·rename_i b;subst b;simp
  ·rename_i b
   rw[d.opn h e];constructor
   ·rintro(a | a)
    ·exact .inl (.inl a)
    ·exact .inr a
   ·rintro((a | a) | a)
    ·exact .inl a
    ·simp at a;exact absurd a.symm b
    ·exact .inr a
 ·intro h e
  rw[aU,bz] at e;rcases e with(a | a) | a
  ·exact d.lt h (.inl a)
  ·simp at a;subst a;exact p
  ·exact d.lt h (.inr a)
 ·rw[aU,nodup_append]
  refine⟨d.rows,by simp,λg e h f b=> ?_⟩;simp at f;subst f b;exact E e
 ·have a:=d.cols
  rw[nodup_append] at a;rw[aU,append_assoc,nodup_append];refine⟨a.1,?_,λg e h f b=> ?_⟩
  ·show(c :: De).Nodup
   exact nodup_cons.2 ⟨λb=>B (.inr b),a.2.1⟩
  ·subst b
   rcases bz.1 f with i | i
   ·simp at i;subst i;exact B (.inl e)
   ·exact a.2.2 g e g i rfl
theorem PlInv.dead{n:Nat}{L:List PI}{op g:List Bool}{St:List (Nat×Nat)}{De:PI}(b:PlInv n L op g St De)(t:∀r,r<L.length->g.getD r false=false->(gI op (L.getD r [])).length≠1){c:Nat}(i:c<n)(j:op.getD c false=true):
 PlInv n L (op.set c false) g St (De++[c]):=by
 have p:¬(c∈St.map Prod.snd\/c∈De):=λd=>by rw[(b.opn c i).2 d] at j;exact Bool.noConfusion j
 refine⟨by rw[length_set];exact b.ol,b.ul,?_,b.used,?_,?_,b.rows,?_,?_⟩
 ·intro k h e l
  obtain⟨a,o,q⟩:=b.step k h e l;refine⟨a,o,λm s u=> ?_⟩;rcases q m s u with f | f
  ·exact .inl (mem_append_left _ f)
  ·exact .inr f
 ·intro e f
  rw[nN (by rw[b.ol];exact i),bz];split
  ·rename_i d;subst d;simp
  ·rename_i d
   rw[b.opn e f];constructor
   ·rintro(a | a)
    ·exact .inl a
    ·exact .inr (.inl a)
   ·rintro(a | a | a)
    ·exact .inl a
    ·exact .inr a
    ·simp at a;exact absurd a.symm d
 ·intro e f
  rw[bz] at f;rcases f with a | a | a
  ·exact b.lt e (.inl a)
  ·exact b.lt e (.inr a)
  ·simp at a;subst a;exact i
 ·have a:=b.cols
  rw[<-append_assoc,nodup_append];refine⟨a,by simp,λs q u o d=> ?_⟩;simp at o;subst o d;exact p (bz.1 q)
 ·intro e f r o d
  rcases bz.1 f with a | a
  ·exact b.nodead e a r o d
  ·simp at a
   subst a;cases hu:g.getD r false with
   | false=>
     apply t r o hu;rw[d];unfold gI;rw[filter_cons,bg j,filter_nil];rfl
   | true=>
     obtain⟨⟨h,m⟩,q,u⟩:=aY.1 ((b.used r o).1 hu);obtain⟨k,l,v⟩:=bC q;have:h=r:=u;subst this;obtain⟨_,s,_⟩:=b.step k h m (by rw[ah l,v]);rw[d] at s;have:=mem_singleton.1 s;subst this;exact p (.inl (aY.2 ⟨_,q,rfl⟩))
theorem PlInv.done{n:Nat}{L:List PI}{op d:List Bool}{St:List (Nat×Nat)}{De:PI}(a:PlInv n L op d St De)(f:∀c,c<n->op.getD c false=false):
 oI n L St De ((range L.length).filter λb=> !d.getD b false) where
 step:=a.step
 rows:=a.rows
 cols:=a.cols
 all:=λc=>⟨λe=>(a.opn c e).1 (f c e),a.lt c⟩
 left:=by
  refine filter_congr λb g=> ?_;have h:=bA.1 g;have:=a.used b h;cases hu:d.getD b false with
  | true=>
    have e:=this.1 hu;simp[e]
  | false=>
    have e:b∉St.map Prod.fst:=λi=>(by rw[this.2 i] at hu;exact Bool.noConfusion hu);simp;simpa using e
 nodead:=a.nodead
theorem jb{l:PI}{n:Nat}(b:l.Nodup)(c:∀x∈l,x<n):l.length<=n:=by
 induction n generalizing l with
 | zero=>
   cases l with
   | nil=>simp
   | cons x l=>exact absurd (c x (by simp)) (Nat.not_lt_zero x)
 | succ n d=>
   by_cases e:n∈l
   ·have f:=d (b.erase n) λx a=>by
     have g:=b.mem_erase_iff.1 a;have:=c x g.2;have:=g.1;omega
    rw[length_erase_of_mem e] at f;omega
   ·have f:=d b λx a=>by
     have:=c x a;have:x≠n:=λg=>e (g▸a);omega
    omega
def sO(op:List Bool):Nat:=(op.filter λa=>a).length
theorem Bi{op:List Bool}{c:Nat}(a:op.getD c false=true):sO (op.set c false)<sO op:=by
 induction op generalizing c with
 | nil=>simp at a
 | cons b op d=>
   cases c with
   | zero=>
     have e:b=true:=a;subst e;simp[sO]
   | succ c=>
     have:=d (c:=c) (by simpa using a);unfold sO at this ⊢;rw[set_cons_succ,filter_cons,filter_cons];cases b <;> simp_all
theorem PlInv.count{n:Nat}{L:List PI}{op e:List Bool}{St:List (Nat×Nat)}{De:PI}(a:PlInv n L op e St De):St.length<=L.length/\De.length<=n:=by
 constructor
 ·have f:(St.map Prod.fst).length<=L.length:=jb a.rows λb c=>by
   obtain⟨⟨d,g⟩,h,i⟩:=aY.1 c;obtain⟨j,k,l⟩:=bC h;have:d=b:=i;subst this;exact(a.step j d g (by rw[ah k,l])).1
  simpa using f
 ·exact jb (nodup_append.1 a.cols).2.1 λb c=>a.lt b (.inr c)
