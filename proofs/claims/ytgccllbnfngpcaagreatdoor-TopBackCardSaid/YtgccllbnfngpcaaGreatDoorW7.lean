import Derived.Test.YtgccllbnfngpcaaGreatDoorW6
set_option linter.unusedVariables false
set_option maxRecDepth 100000
set_option maxHeartbeats 400000000
namespace Go.Proofs.YtgccllbnfngpcaaGreatDoor
open Go.RowKit _root_.Go.Proofs.Tryz List
open Value (int slice pointer bool)
open IntKind (i64)
open Ending (returned)
open Obj (cells)
theorem yD{P:Program}{Q:Exit->Act->World->Prop}{a:Act}{w:World}{rest:Code}(l:Nat)(d:Nat->Act->World->Prop)(i:Nat)
 (k:findLabel ((Code.label l).seq rest) l=some (Code.skip.seq rest))(first:d i a w)
 (j:∀n a w,d n a w->rest.wp P (Exit.jump l (λe f=>∃c,c<n/\d c e f) Q) a w):(Code.scope ((Code.label l).seq rest)).wp P Q a w:=by
 have m:∀n a w,d n a w->rest.wp P (Exit.jump l (λa w=>∃n,d n a w) Q) a w:=λn a w b=>wp_mono (j n a w b) λg e f b=>by
  cases g with
  | goto l'=>exact⟨b.1,let ⟨c,_,h⟩:=b.2;⟨c,h⟩⟩
  | normal=>exact b
  | exit id=>exact b
  | ret=>exact b
  | panic ch=>exact b
  | outgrown=>exact b
 refine wp_scope_jumps l (λa w=>∃n,d n a w) (λa w=>leastOf (λn=>d n a w)) k ?_ ?_
 ·exact wp_seq (wp_label (m i a w first))
 ·intro a w o
  refine wp_seq (wp_skip ?_);refine wp_mono (j _ a w (leastOf_spec o).1) ?_;intro g e f b;cases g with
  | goto l'=>
    obtain⟨p,c,q,h⟩:=b;exact⟨p,⟨c,h⟩,Nat.lt_of_le_of_lt ((leastOf_spec ⟨c,h⟩).2 c h) q⟩
  | normal=>exact b
  | exit id=>exact b
  | ret=>exact b
  | panic ch=>exact b
  | outgrown=>exact b
def rN(l:SC):Rp:=if l=[] then rV (slice none 0 0) else rB l
theorem NI{l:SC}{w:World}{F:Nat->Prop}{v:Value}(b:(rN l).ok w F [v]):∃a c,v=slice a l.length c/\Rd w w.heap.size a l.length (bK l)/\(a=none->c=0)/\l.length<=c/\c<=maxLen/\(l=[]->a=none/\c=0)/\(l≠[]->a≠none):=by
 unfold rN at b;split at b
 ·rename_i e
  subst e;obtain⟨d,_⟩:=b;injection d with d _;exact⟨none,0,d,qI _ _ _,λ_=>rfl,aj _,bE _,λ_=>⟨rfl,rfl⟩,λb=>absurd rfl b⟩
 ·rename_i e
  obtain⟨a,c,f,d,g,h,i⟩:=eU b rfl;refine⟨a,c,f,d,g,h,i,λb=>absurd b e,λ_ f=> ?_⟩;have:=g f;have:l.length=0:=(by omega);exact e (eq_nil_of_length_eq_zero this)
structure PSt (w:World) (g gk gv n:Nat) (sl:Value) (kn:List Bool) (vl:List SC):Prop where
 blk:Blk w g 353 #[sl,slice (some ⟨gk,0,none⟩) n n,slice (some ⟨gv,0,none⟩) n n]
 knb:Blk w gk 4 (dA kn).toArray
 kl:kn.length=n
 vll:vl.length=n
 hs:∃hs:List Value,Blk w gv 30 hs.toArray/\hs.length=n/\∀c,c<n->(rN (vl.getD c [])).ok w (fun b=>b≠g/\b≠gk/\b≠gv) [hs.getD c undef]
theorem PSt.ne{w:World}{g gk b n:Nat}{d:Value}{kn:List Bool}{vl:List SC}(a:PSt w g gk b n d kn vl):g≠gk/\g≠b/\gk≠b:=by
 obtain⟨e,c,_⟩:=a.hs;exact⟨Blk.ne a.blk a.knb (by decide),Blk.ne a.blk c (by decide),Blk.ne a.knb c (by decide)⟩
theorem PSt.new{w w':World}{g gk c n:Nat}{d:Value}{kn:List Bool}{vl:List SC}(a:PSt w g gk c n d kn vl)(b:Below w.heap.size w w'):PSt w' g gk c n d kn vl:=by
 obtain⟨f,e,h,i⟩:=a.hs;exact⟨a.blk.below b a.blk.lt,a.knb.below b a.knb.lt,a.kl,a.vll,f,e.below b e.lt,h,λj k=>(rN _).new (i j k) b⟩
theorem PSt.rdk{w:World}{g gk b n:Nat}{c:Value}{kn:List Bool}{vl:List SC}(a:PSt w g gk b n c kn vl):Rd w w.heap.size (some ⟨gk,0,none⟩) n (dA kn):=
 ⟨by rw[mX];exact a.kl,λ_=>⟨gk,0,rfl,a.knb.lt,λd f e=>by rw[Nat.zero_add,a.knb.cell d];simpa using e⟩⟩
theorem uC{hs:List Value}{c:Nat}(a:c<hs.length):hs[c]? =some (hs.getD c undef):=by rw[af,ah a];rfl
theorem PSt.rdv{w:World}{g gk b n:Nat}{h:Value}{kn:List Bool}{vl:List SC}(c:PSt w g gk b n h kn vl):RdM w w.heap.size (some ⟨b,0,none⟩) n vl:=by
 obtain⟨i,d,j,k⟩:=c.hs;refine⟨c.vll,i,⟨j,λ_=>⟨b,0,rfl,d.lt,λa f e=>by rw[Nat.zero_add,d.cell a];simpa using e⟩⟩,λa l e=> ?_⟩;have m:a<n:=by have:=(List.getElem?_eq_some_iff.1 e).1;rw[c.vll] at this;exact this
 have o:vl.getD a []=l:=by rw[af,e];rfl
 have f:=k a m;rw[o] at f;obtain⟨p,q,r,s,t,u,v,_⟩:=NI f;exact⟨p,q,by rw[uC (by omega),r],s,t,u,v⟩
theorem PSt.put{w w':World}{g gk d n:Nat}{m:Value}{kn:List Bool}{vl:List SC}(f:PSt w g gk d n m kn vl){c:Nat}(B:c<n){u:Value}{e:SC}(r:e≠[])(s:(rB e).ok w (λb=>b≠g/\b≠gk/\b≠d) [u])
 (o:∀b,b≠gk->b≠d->w'.heap[b]? =w.heap[b]?)(h:Blk w' gk 4 ((dA kn).toArray.setIfInBounds c (bool true)))(t:∀hs:Array Value,Blk w d 30 hs->Blk w' d 30 (hs.setIfInBounds c u)):PSt w' g gk d n m (kn.set c true) (vl.set c e):=by
 obtain⟨v,x,C⟩:=f.ne;obtain⟨hs,y,z,A⟩:=f.hs;have p:∀a,(a≠g/\a≠gk/\a≠d)->a<w.heap.size->w'.heap[a]? =w.heap[a]? /\(a≠g/\a≠gk/\a≠d):=λa h _=>⟨o a h.2.1 h.2.2,h⟩;refine⟨(o g v x).trans f.blk,?_,by rw[length_set];exact f.kl,by rw[length_set];exact f.vll,hs.set c u,?_,by rw[length_set];exact z,λa q=> ?_⟩
 ·have i:(dA (kn.set c true)).toArray=(dA kn).toArray.setIfInBounds c (bool true):=by unfold dA;simp
  rw[i];exact h
 ·have:=t hs.toArray y
  simpa using this
 ·by_cases j:a=c
  ·subst j
   have k:(vl.set a e).getD a []=e:=(by rw[af,List.getElem?_set,bu rfl,bu (by rw[f.vll];exact q)];rfl);have l:(hs.set a u).getD a undef=u:=(by rw[af,List.getElem?_set,bu rfl,bu (by omega)];rfl);rw[k,l];unfold rN;rw[bA r];exact(rB e).keep s p
  ·have k:(vl.set c e).getD a []=vl.getD a []:=by rw[af,List.getElem?_set,bA (λi=>j i.symm),<-af]
   have l:(hs.set c u).getD a undef=hs.getD a undef:=(by rw[af,List.getElem?_set,bA (λi=>j i.symm),<-af]);rw[k,l];exact(rN _).keep (A a q) p
def cntF(kn:List Bool):Nat:=(kn.filter λa=> !a).length
theorem NJ{kn:List Bool}{c:Nat}(a:c<kn.length)(b:kn.getD c false=false):cntF (kn.set c true)<cntF kn:=by
 induction kn generalizing c with
 | nil=>simp at a
 | cons d kn e=>
   cases c with
   | zero=>
     have f:d=false:=b;subst f;simp[cntF]
   | succ c=>
     have:=e (c:=c) (by simpa using a) b;unfold cntF at this ⊢;rw[set_cons_succ,filter_cons,filter_cons];cases d <;> simp_all
def ConsP(n:Nat)(m:Nat->SC)(kn:List Bool)(vl:List SC):Prop:=∀a,a<n->(kn.getD a false=true->vl.getD a []=m a)/\(kn.getD a false=false->vl.getD a []=[])
theorem ConsP.set{n:Nat}{m:Nat->SC}{kn:List Bool}{vl:List SC}(b:ConsP n m kn vl)(i:kn.length=n)(j:vl.length=n){c:Nat}(k:c<n):ConsP n m (kn.set c true) (vl.set c (m c)):=by
 intro a h;by_cases d:a=c
 ·subst d
  have e:(vl.set a (m a)).getD a []=m a:=(by rw[af,List.getElem?_set,bu rfl,bu (by omega)];rfl);have f:(kn.set a true).getD a false=true:=(by rw[af,List.getElem?_set,bu rfl,bu (by omega)];rfl);rw[e,f];exact⟨λ_=>rfl,λb=>by cases b⟩
 ·have e:(vl.set c (m c)).getD a []=vl.getD a []:=by rw[af,List.getElem?_set,bA (λg=>d g.symm),<-af]
  have f:(kn.set c true).getD a false=kn.getD a false:=(by rw[af,List.getElem?_set,bA (λg=>d g.symm),<-af]);rw[e,f];exact b a h
theorem Qo{Z:Nat}{a:SC}(b:a.length=Z):xr (replicate Z 0) a=a:=by
 refine ext_get (by rw[kH (by rw[aJ,b]),aJ,b]) λc=> ?_;rw[nH (by rw[aJ,b]),sV,Nat.zero_xor]
theorem GI{n Z:Nat}{m:Nat->SC}{kn:List Bool}{vl:List SC}(d:ConsP n m kn vl)(e:∀c,c<n->(m c).length=Z/\By (m c)){x:SC×SC}(b:∀c∈x.1,c<n)(f:x.2=bZ m x.1 (replicate Z 0)):
 bZ (λc=>vl.getD c []) (mY kn x.1) x.2=bZ m (eu kn x.1) (replicate Z 0):=
 KQ (λc=>kn.getD c false) (λc a=>(e c (b c a)).1) (λc a g=>(d c (b c a)).1 g) f
def xO(n Z:Nat)(m:Nat->SC)(L:List (SC×SC)):Prop:=∀a∈L,a.1.length<=64/\(∀b∈a.1,b<n)/\a.2=bZ m a.1 (replicate Z 0)
theorem NK(f g gk b n N Z:Nat)(B:SE)(u:Nat)(m:Nat->SC)(kn:List Bool)(vl:List SC)(L:List (SC×SC))(w:World)
 (y:PSt w g gk b n (slice B N u) kn vl)(R:f<=g/\f<=gk/\f<=b)(K:(gq L).ok w (Bl f) [slice B N u])(hN:L.length=N)(bf:N<=1000)(hn:n<=1000)(hZ:1<=Z)(bh:Z<=1000)
 (hm:∀c,c<n->(m c).length=Z/\By (m c))(hR:xO n Z m L)(o:ConsP n m kn vl):
 Calls prog 292 #[pointer (some ⟨g,0,none⟩)] w λv e=>v=returned (.tuple #[])/\∃d i,PSt e g gk b n (slice B N u) d i/\ConsP n m d i/\Below f w e:=by
 have U:=ae hN;have M:=ae hm;have V:=ae hR;have E:Sz (PSt w g gk b n (slice B N u) kn vl/\ConsP n m kn vl/\Below f w w/\(gq L).ok w (Bl f) [slice B N u]):=ae ⟨y,o,aC _ _,K⟩;clear hN hm hR y o K;go_enter func292,ntmps292
 refine yD 0 (λad a' e=>∃(kn:List Bool) (vl:List SC) (u1 u2 u3 u4 u5 u6 u7 u8 u9 ag ai ak am an ao ap aq ar au av aw ax ay az aA aB aD aE aF aK aL u32 aM aR aS aT:Value),(cntF kn<ad/\Sz (PSt e g gk b n (slice B N u) kn vl/\ConsP n m kn vl/\Below f w e/\(gq L).ok e (Bl f) [slice B N u]))/\
  a'= { tmps:=#[pointer (some ⟨g,0,none⟩),u1,u2,u3,u4,u5,u6,u7,u8,u9,ag,ai,ak,am,an,ao,ap,aq,ar,au,av,aw,ax,ay,az,aA,aB,aD,aE,aF,aK,aL,u32,aM,aR,aS,aT],defers:=[] }) (cntF kn+1) rfl ?_ ?_
 ·exact⟨kn,vl,_,_,_,_,_,_,_,_,_,_,_,_,_,_,_,_,_,_,_,_,_,_,_,_,_,_,_,_,_,_,_,_,_,_,_,_,⟨by omega,E⟩,rfl⟩
 ·clear E kn vl
  rintro ad a' e ⟨kn,vl,u1,u2,u3,u4,u5,u6,u7,u8,u9,ag,ai,ak,am,an,ao,ap,aq,ar,au,av,aw,ax,ay,az,aA,aB,aD,aE,aF,aK,aL,u32,aM,aR,aS,aT,⟨aV,E⟩,rfl⟩;obtain⟨y,o,S,K⟩:=E.o;have bw:=y.ne;have d:=ae (J3 g n N B (some ⟨gk,0,none⟩) u n (slice (some ⟨b,0,none⟩) n n) (Bl f) kn L e y.blk K y.rdk U.o bf (λi j=>⟨aP (V.o i j).1 (by omega),(V.o i j).2.1⟩) hn);clear y o S K;go_wp2_with fail;refine d.o.mono ?_;rintro v F ⟨bi,rfl,i,j⟩;have HR:=ae i;have O:=ae j;clear i j d;by_cases aX:bi<0
  ·go_wp2_with fail
   simp only[Exit.jump]
   (try simp only[Exit.inBlock,Exit.then])
   refine bodyPost_ret (results_none rfl _ _ _) rfl ?_;obtain⟨y,o,S,K⟩:=E.o;exact⟨rfl,kn,vl,y.new O.o,o,S.trans (O.o.mono (by have:=S.size;have:=y.blk.lt;omega))⟩
  ·obtain⟨C,rfl,hi,hu⟩:=HR.o.resolve_left aX
   obtain⟨t,o,x,I⟩:=E.o;have l:=t.new O.o;have z:=(gq L).new I O.o;have J:Below f w F:=x.trans (O.o.mono (by have:=x.size;have:=t.blk.lt;omega));obtain⟨i,Q,a1,q1,c1,a2,j,c2,rfl,_,T,bj,bk,P,X,Y,bd⟩:=oF z U.o hi;have aa:L.getD C ([],[])∈L:=(by rw[af,ah (by rw[U.o];exact hi)];exact aQ _);obtain⟨be,d,q⟩:=V.o _ aa;have r:=GI o M.o d q;have ab:(L.getD C ([],[])).2.length=Z:=(by rw[q];exact fM aJ λc o=>(M.o c (d c o)).1);have ac:By (L.getD C ([],[])).2:=(by rw[q];exact(dU (D:=Z) (Byt.zero Z) λc o=>M.o c (d c o)).2);have bl:j=Z:=(by omega);subst bl;obtain⟨bx,bz,G,aY,-⟩:=dY P Y.symm;injection G with G _ W;subst G W;obtain⟨bB,b0,G,a0,bm,-⟩:=eU X ab;injection G with G _ W;subst G W;obtain⟨c,s⟩:∃c,eu kn (L.getD C ([],[])).1=[c]:=length_eq_one_iff.1 hu;have a5:c∈eu kn (L.getD C ([],[])).1:=(by rw[s];simp);obtain⟨a6,a7⟩:=mem_filter.1 a5;have H:c<n:=d c a6;have a8:kn.getD c false=false:=(by simpa using a7);rw[s] at r;have a9:bZ m [c] (replicate j 0)=m c:=Qo (M.o c H).1;rw[a9] at r
   have A:=ae (zu g n q1 j (slice (some ⟨i,Q,none⟩) N u) (some ⟨gk,0,none⟩) (some ⟨b,0,none⟩) a1 a2 n n c1 c2 kn vl (L.getD C ([],[])).1 (L.getD C ([],[])).2 F l.blk l.rdk l.rdv aY a0 bm bh (by omega) hn d (λk hd hk=>by
    have:=(o k (d k hd)).1 hk;rw[this];exact M.o k (d k hd)) ac)
   rw[r,s] at A;have p0:=l.blk.cell 0;have b1:(C:Int)<(N:Int):=(by omega);have HC:=ae o;have k:=ae l;have ba:=ae z;have bb:=ae J;have bc:=ae a8;clear t o x I l z J P X aa be d q r ab ac aY a0 hu s a5 a6 a7 a9 E HR O aX a8 Y bd;go_wp2_with fail;refine A.o.mono ?_;rintro v l ⟨v1,v2,rfl,z,J,d⟩;have X:=M.o c H;obtain⟨a3,I,rfl⟩:=z.lenA;obtain⟨r,rfl,b2,bo⟩:=z.formA (n:=1) rfl (by decide);obtain⟨aY,-⟩:=z.cellA (n:=1) rfl (show 0<1 by decide);obtain⟨s,t,rfl,-⟩:=J.rd2 X.1;have a0:([c]:SC).length=1:=rfl;rw[a0] at z ⊢;have a5:l.cell? ⟨r,0,none⟩=some (int i64 c):=aY;have a6:=k.o.new d;have x:=(aC l.heap.size l).alloc (aj _) (cells #[slice (some ⟨r,0,none⟩) 1 I,slice s j t] 286);have a7:=a6.new x;have Y:=Blk.new l 286 #[slice (some ⟨r,0,none⟩) 1 I,slice s j t];have bp:=(x.cell (p:=⟨r,0,none⟩) bo).trans a5;have a8:OwnB (l.alloc (cells #[slice (some ⟨r,0,none⟩) 1 I,slice s j t] 286)) F.heap.size (slice s j t) (m c):=J.below x;have a9:Below f F (l.alloc (cells #[slice (some ⟨r,0,none⟩) 1 I,slice s j t] 286)):=(d.mono (by have:=k.o.blk.lt;omega)).trans (x.mono (by have:=d.size;have:=k.o.blk.lt;omega));have bd:=(gq L).new ((gq L).new ba.o d) x;have b3:=k.o.blk.lt;have b5:=k.o.knb.lt;have br:=k.o.hs;obtain⟨bs,be,bt,bv⟩:=br;have b6:=be.lt;obtain⟨n1,n2,P⟩:=k.o.ne;have b7:F.heap.size<=l.heap.size:=d.size;have q:=ae a7;have aa:=ae a8;have ab:=ae bd;have ac:=ae (bb.o.trans a9);clear aY a5 a6 x a7 a8 bd a9 k ba bb A z J d be bt bv bs bj bk p0 a0;go_wp2_with fail;generalize l.alloc (cells #[slice (some ⟨r,0,none⟩) 1 I,slice s j t] 286)=k at*;have t0:=Y.cell 0;have t1:=Y.cell 1;have t2:=q.o.blk.cell 1;have t3:=q.o.blk.cell 2
   have t4:k.cell? ⟨gk,c,none⟩=some (bool false):=by
    rw[q.o.knb.cell c,<-bc.o,af];have:c<kn.length:=(by rw[q.o.kl];exact H);simp[dA,this]
   have t5:=q.o.knb.frozen c
   obtain⟨uo,t6⟩:∃uo,k.cell? ⟨b,c,none⟩=some uo:=by
    obtain⟨hs,x,z,h3⟩:=q.o.hs;exact⟨_,(x.cell c).trans (by simpa using uC (hs:=hs) (by omega))⟩
   have t7:k.frozen? ⟨b,c,none⟩=false:=by
    obtain⟨hs,x,z,h3⟩:=q.o.hs;exact x.frozen c
   have bk:(c:Int)<(n:Int):=(by omega);have bs:¬gk=b:=P;have bt:¬b=gk:=λv=>P v.symm;have aY:¬g=gk:=n1;have a0:¬g=b:=n2;have a5:¬l.heap.size=gk:=(by omega);have a6:¬l.heap.size=b:=(by omega);have a7:¬r=gk:=(by omega);have a8:¬r=b:=(by omega);clear Y;have Y:m c≠[]:=λv=>by have:=X.1;rw[v] at this;simp at this;omega
   have a9:Sz (∀d,PSt (((k.drewN d).setCell ⟨gk,c,none⟩ (bool true)).setCell ⟨b,c,none⟩ (slice s j t)) g gk b n (slice (some ⟨i,Q,none⟩) N u) (kn.set c true) (vl.set c (m c))):=ae λd=>q.o.put H Y ((rB _).more (gK aa.o) λi T _=>by
    have:F.heap.size<=i:=T;exact⟨by omega,by omega,by omega⟩)
    (λi x z=>(bJ _ _ _ _ z).trans (bJ _ _ _ _ x))
    ((Blk.set (w:=k.drewN d) (q.o.knb.drewN d) c (bool true)).far (p:=⟨b,c,none⟩) P _)
    (λhs h=>Blk.set (((h.drewN d).far (p:=⟨gk,c,none⟩) (λv=>P v.symm) _)) c _)
   have ba:Sz (∀d,PSt (((k.drewN d).setCell ⟨b,c,none⟩ (slice s j t)).setCell ⟨gk,c,none⟩ (bool true)) g gk b n (slice (some ⟨i,Q,none⟩) N u) (kn.set c true) (vl.set c (m c))):=ae λd=>q.o.put H Y ((rB _).more (gK aa.o) λi T _=>by
    have:F.heap.size<=i:=T;exact⟨by omega,by omega,by omega⟩)
    (λi x z=>(bJ _ _ _ _ x).trans (bJ _ _ _ _ z))
    (Blk.set ((q.o.knb.drewN d).far (p:=⟨b,c,none⟩) P _) c (bool true))
    (λhs h=>((Blk.set (w:=k.drewN d) (h.drewN d) c _)).far (p:=⟨gk,c,none⟩) (λv=>P v.symm) _)
   have bb:Sz (∀d,Below f w (((k.drewN d).setCell ⟨gk,c,none⟩ (bool true)).setCell ⟨b,c,none⟩ (slice s j t))):=ae λd=>((below_drewN ac.o d).setCell (p:=⟨gk,c,none⟩) R.2.1 _).setCell (p:=⟨b,c,none⟩) R.2.2 _;have bd:Sz (∀d,Below f w (((k.drewN d).setCell ⟨b,c,none⟩ (slice s j t)).setCell ⟨gk,c,none⟩ (bool true))):=ae λd=>((below_drewN ac.o d).setCell (p:=⟨b,c,none⟩) R.2.2 _).setCell (p:=⟨gk,c,none⟩) R.2.1 _;have be:Sz (∀d,(gq L).ok (((k.drewN d).setCell ⟨gk,c,none⟩ (bool true)).setCell ⟨b,c,none⟩ (slice s j t)) (Bl f) [slice (some ⟨i,Q,none⟩) N u]):=ae λd=>(gq L).keep ab.o λA J _=>⟨(bJ _ _ _ _ (by have:A<f:=J;show A≠b;omega)).trans (bJ _ _ _ _ (by have:A<f:=J;show A≠gk;omega)),J⟩;have bj:Sz (∀d,(gq L).ok (((k.drewN d).setCell ⟨b,c,none⟩ (slice s j t)).setCell ⟨gk,c,none⟩ (bool true)) (Bl f) [slice (some ⟨i,Q,none⟩) N u]):=ae λd=>(gq L).keep ab.o λA J _=>⟨(bJ _ _ _ _ (by have:A<f:=J;show A≠gk;omega)).trans (bJ _ _ _ _ (by have:A<f:=J;show A≠b;omega)),J⟩;have d:=ae (HC.o.set q.o.kl q.o.vll H);have A:=ae (NJ (by rw[q.o.kl];exact H) bc.o);clear q aa ab ac X Y
   have q:Sz (∀e:World,(∀i,i≠gk->i≠b->e.heap[i]? =k.heap[i]?)->e.cell? ⟨g,1,none⟩=some (slice (some ⟨gk,0,none⟩) n n)/\e.cell? ⟨g,2,none⟩=some (slice (some ⟨b,0,none⟩) n n)/\e.cell? ⟨l.heap.size,0,none⟩=some (slice (some ⟨r,0,none⟩) 1 I)/\e.cell? ⟨l.heap.size,1,none⟩=some (slice s j t)/\e.cell? ⟨r,0,none⟩=some (int i64 c)):=ae λe h=>
    ⟨(World.cell?_of_block (w:=k) (a:=⟨g,1,none⟩) (h g aY a0)).trans t2,(World.cell?_of_block (w:=k) (a:=⟨g,2,none⟩) (h g aY a0)).trans t3,(World.cell?_of_block (w:=k) (a:=⟨l.heap.size,0,none⟩) (h _ a5 a6)).trans t0,(World.cell?_of_block (w:=k) (a:=⟨l.heap.size,1,none⟩) (h _ a5 a6)).trans t1,(World.cell?_of_block (w:=k) (a:=⟨r,0,none⟩) (h _ a7 a8)).trans bp⟩
   go_region_held3 (λe=>e.cell? ⟨g,1,none⟩=some (slice (some ⟨gk,0,none⟩) n n)/\e.cell? ⟨g,2,none⟩=some (slice (some ⟨b,0,none⟩) n n)/\e.cell? ⟨l.heap.size,0,none⟩=some (slice (some ⟨r,0,none⟩) 1 I)/\e.cell? ⟨l.heap.size,1,none⟩=some (slice s j t)/\e.cell? ⟨r,0,none⟩=some (int i64 c)) (exact q.o _ (λi x z=>by first | exact rfl | exact bJ _ _ _ _ x | exact bJ _ _ _ _ z | exact(bJ _ _ _ _ z).trans (bJ _ _ _ _ x) | exact(bJ _ _ _ _ x).trans (bJ _ _ _ _ z))) (fail)
   all_goals(
    go_wp2_with fail
    (try go_step3)
    first
    | exact⟨rfl,cntF kn,aV,_,_,_,_,_,_,_,_,_,_,_,_,_,_,_,_,_,_,_,_,_,_,_,_,_,_,_,_,_,_,_,_,_,_,_,_,_,_,⟨A.o,ae ⟨a9.o 1,d.o,bb.o 1,be.o 1⟩⟩,rfl⟩
    | exact⟨rfl,cntF kn,aV,_,_,_,_,_,_,_,_,_,_,_,_,_,_,_,_,_,_,_,_,_,_,_,_,_,_,_,_,_,_,_,_,_,_,_,_,_,_,⟨A.o,ae ⟨ba.o 1,d.o,bd.o 1,bj.o 1⟩⟩,rfl⟩)
def RP(l:SC):Prop:=∀a,a+1<l.length->l.getD a 0<l.getD (a+1) 0
theorem ET(n N Z:Nat)(m:SE)(o:Nat)(F:Nat->Prop)(L:List (SC×SC))(w:World)
 (A:(gq L).ok w F [slice m N o])(B:L.length=N)(ao:N<=1000)(hn:n<=64)
 (C:∀x∈L,x.1.length<=1000/\(∀c∈x.1,c<n)/\RP x.1/\x.2.length=Z):
 Calls prog 291 #[int i64 n,slice m N o] w λf a=>f=returned (bool true)/\Below w.heap.size w a:=by
 have Q:=ae ((Sx.nil w).add (eR F (slice m N o) (gq L)) A);have D:=ae (aC w.heap.size w);have j:=ae B;have E:=ae C;clear A B C;go_enter func291,ntmps291;have a:¬(n:Int)<0:=by omega
 have b:¬64<(n:Int):=by omega
 go_wp2_with fail;clear a b;go_loopw [17] (λe wr=>∃d:Nat,d<=N/\e=int i64 d/\Sz (Below w.heap.size w wr)) (λe _=>N-(intOf e).toNat)
 case atStart=>exact⟨0,by omega,rfl,D⟩
 case round=>
  clear D;obtain⟨d,ap,rfl,g⟩:=hrel;have q:=ae (Q.o.step g.o);by_cases G:d<N
  ·have aq:(d:Int)<(N:Int):=by omega
   have H:0<N:=(by omega);have z:L.getD d ([],[])∈L:=(by rw[af,ah (by rw[j.o];exact G)];exact aQ _);have I:L.getD 0 ([],[])∈L:=(by rw[af,ah (by rw[j.o];exact H)];exact aQ _);obtain⟨R,r,J,S⟩:=E.o _ z;obtain⟨-,-,-,T⟩:=E.o _ I;obtain⟨U,V,s,b,t,u,K,v,rfl,_,W,X,Y,M,aa,a,ab⟩:=oF (q.o.rep 0 rfl) j.o G;obtain⟨b',o',a3,q3,c3,a4,k,c4,y,_,_,i,l,_,_,_,ac⟩:=oF (q.o.rep 0 rfl) j.o H;injection y with y;injection y with ad ag _;subst ad ag;rw[Nat.zero_mul,Nat.add_zero] at l;clear i;obtain⟨ar,au,i,O,-⟩:=dY M a.symm;injection i with i _ e3;subst i e3;have P:=ae O;have ai:=ae r;have ak:=ae J;have am:=ae a;have an:=g.o.size;have av:b<=1000:=(by omega);obtain rfl:K=Z:=(by omega);obtain rfl:k=K:=(by omega);clear z M aa O ab r R J S T I ac;generalize L.getD d ([],[])=x at*;clear a;have a:=(aC wr.heap.size wr).alloc (aj _) (cells #[slice s b t,slice u k v] 286);have ab:=ae a;have O:=ae (g.o.trans (a.mono an));have I:=ae (P.o.below a (aj _));have R:=(a.cell (p:=⟨U,V+1,none⟩) W).trans l;have z:=Blk.new wr 286 #[slice s b t,slice u k v];clear a q g P;go_wp2_with fail;clear l X Y;generalize wr.alloc (cells #[slice s b t,slice u k v] 286)=P at*;generalize wr.heap.size=g1 at*;have S:=z.cell 0;have T:=z.cell 1;clear z;go_loopw [24] (λe l=>∃a:Nat,a<=b/\e=int i64 a/\l=P) (λe _=>b-(intOf e).toNat)
   case atStart=>exact⟨0,by omega,rfl,rfl⟩
   case round=>
    obtain⟨a,ac,rfl,l⟩:=hrel;have e:=ae l;clear l;rw[<-e.o] at S T R;by_cases z:a<b
    ·have aw:(a:Int)<(b:Int):=by omega
     have l:a<x.1.length:=(by rw[<-am.o];exact z);obtain⟨bc,oc,rfl,ax,J⟩:=ji I.o z;have r:x.1.getD a 0<n:=ai.o _ (by rw[getD_at l];exact aQ l);have ay:¬((x.1.getD a 0:Nat):Int)<0:=(by omega);have az:¬(n:Int)<=((x.1.getD a 0:Nat):Int):=(by omega);rw[<-e.o] at J;by_cases X:a=0
     ·subst X
      clear l;generalize x.1.getD 0 0=Y at*;rw[Nat.add_zero] at J;go_wp2_with fail;go_roundw
      case rel=>(try((repeat apply Exists.intro);refine⟨?_,rfl⟩));exact⟨0+1,by omega,by go_num,e.o⟩
      case measure=>simp[intOf];omega
     ·obtain⟨_,_,f,aA,aa⟩:=ji I.o (show a-1<b by omega)
      injection f with f;injection f with i e2 _;subst i e2;rw[<-e.o] at aa;have M:=ak.o (a-1) (by omega);rw[show a-1+1=a by omega] at M;have aB:¬((x.1.getD a 0:Nat):Int)<=((x.1.getD (a-1) 0:Nat):Int):=(by omega);have aD:(0:Int)<(a:Int):=(by omega);have aE:IntKind.i64.wrap ((a:Int)-1)=((a-1:Nat):Int):=(by rw[IntKind.wrap_i64];omega);have aF:((a:Int)-1)=((a-1:Nat):Int):=(by omega);have aK:((a-1:Nat):Int)<(b:Int):=(by omega);have HJ:Sz (a+1<=b/\b-(a+1)<b-a):=ae (by omega);clear l M;generalize x.1.getD a 0=Y at*;generalize M:a-1=j1 at*;generalize x.1.getD j1 0=aL at*;clear M;go_wp2_with fail;go_roundw
      case rel=>(try((repeat apply Exists.intro);refine⟨?_,rfl⟩));exact⟨a+1,by omega,by go_num,e.o⟩
      case measure=>simp[intOf];omega
    ·obtain rfl:a=b:=by omega
     have f:Sz (Below w.heap.size w wr):=ae (by rw[e.o];exact O.o);have l:(0:Int)<(N:Int):=(by omega);go_wp2_with fail
     go_quiet (fail)
     go_wp2_with fail;go_roundw
     case rel=>first | exact⟨d+1,by omega,by go_num,ae (below_drewN f.o _)⟩ | ((repeat apply Exists.intro);exact⟨⟨d+1,by omega,by go_num,ae (below_drewN f.o _)⟩,rfl⟩) | exact⟨d+1,by omega,by go_num,f⟩ | ((repeat apply Exists.intro);exact⟨⟨d+1,by omega,by go_num,f⟩,rfl⟩)
     case measure=>simp[intOf];omega
  ·obtain rfl:d=N:=by omega
   go_wp2_with fail;go_ret;exact⟨rfl,g.o⟩
theorem GQ:(prog.info? 286).map (λa=>(a.zero,a.size,a.bytes))=some (some (.agg #[slice none 0 0,slice none 0 0]),2,48):=by kernel_rfl
theorem A7{b:Func}{t u v x:Tmp}(c:b.results= #[.tmp t,.tmp u,.tmp v,.tmp x])(a:Array Value)(P:Program)(w:World):
 (results b a).run P w=.ok (.tuple #[a.getD t undef,a.getD u undef,a.getD v undef,a.getD x undef]) w:=by
 simp[results,c]
def xW(kn:List Bool)(m:Nat->SC)(Z:Nat)(x:SC×SC):SC×SC:=(eu kn x.1,bZ m (eu kn x.1) (replicate Z 0))
def gV(kn:List Bool)(m:Nat->SC)(Z:Nat)(L:List (SC×SC)):List (SC×SC):=(L.map (xW kn m Z)).filter λa=>a.1.length != 0
theorem Kj{kn:List Bool}{m:Nat->SC}{Z:Nat}{L:List (SC×SC)}{k:Nat}(b:k<L.length):
 gV kn m Z (L.take (k+1))=if (eu kn (L.getD k ([],[])).1).length=0 then gV kn m Z (L.take k) else gV kn m Z (L.take k)++[xW kn m Z (L.getD k ([],[]))]:=by
 unfold gV;rw[aO b,aU,filter_append,af,ah b];simp only[map_cons,map_nil,Option.getD_some,xW];split
 ·rename_i a
  simp[a]
 ·rename_i a
  simp[a]
theorem Dx{kn:List Bool}{m:Nat->SC}{Z:Nat}{L:List (SC×SC)}:(gV kn m Z L).length<=L.length:=by
 unfold gV;exact aP (length_filter_le _ _) (by rw[aG];exact aj _)
theorem sW(u:Value)(n:Nat):madeCells #[u] n=(replicate n u).toArray:=by
 apply Array.ext (by rw[size_madeCells];simp);intro a b c;simp[madeCells,Nat.mod_one]
theorem FK{n:Nat}:madeCells #[Value.bool false] n=(dA (replicate n false)).toArray:=by
 rw[sW];unfold dA;simp
theorem Ob{n:Nat}:madeCells #[Value.slice none 0 0] n=(replicate n (Value.slice none 0 0)).toArray:=by
 rw[sW]
theorem Kk:(prog.info? 4).map (λa=>(a.zero,a.size,a.bytes))=some (some (bool false),1,1):=by kernel_rfl
theorem ru{n:Nat}(g:n<=1000000)(w:World):(Instr.makeSlice 293 (int i64 (n:Int)) (int i64 (n:Int))).run prog w=.ok (slice (some ⟨w.heap.size,0,none⟩) n n) (w.alloc (cells (dA (replicate n false)).toArray 4)):=by
 obtain⟨b,c,d,e,f⟩:=info_parts Kk;have a:=run_make (P:=prog) w 293 4 b (bool false) underlying293 c d .i64 .i64 (n:Int) (n:Int) (by omega) (by omega) (by rw[f];omega) (by omega);rw[e,Nat.mul_one,Int.toNat_natCast] at a;rw[<-FK];exact a
theorem Dy{n:Nat}(g:n<=1000000)(w:World):(Instr.makeSlice 45 (int i64 (n:Int)) (int i64 (n:Int))).run prog w=.ok (slice (some ⟨w.heap.size,0,none⟩) n n) (w.alloc (cells (replicate n (Value.slice none 0 0)).toArray 30)):=by
 obtain⟨b,c,d,e,f⟩:=info_parts dP;have a:=run_make (P:=prog) w 45 30 b (slice none 0 0) underlying45 c d .i64 .i64 (n:Int) (n:Int) (by omega) (by omega) (by rw[f];omega) (by omega);rw[e,Nat.mul_one,Int.toNat_natCast] at a;rw[<-Ob];exact a
theorem PSt.begin{w:World}{g gk a n:Nat}{b:Value}(d:Blk w g 353 #[b,slice (some ⟨gk,0,none⟩) n n,slice (some ⟨a,0,none⟩) n n])
 (e:Blk w gk 4 (dA (replicate n false)).toArray)(f:Blk w a 30 (replicate n (Value.slice none 0 0)).toArray):PSt w g gk a n b (replicate n false) (replicate n []):=
 ⟨d,e,aJ,aJ,_,f,aJ,λh c=>by
   rw[af,af,List.getElem?_replicate,List.getElem?_replicate,bu c,bu c];exact⟨rfl,λh c=>by rw[mem_singleton.1 c];rfl⟩⟩
theorem ConsP.begin(n:Nat)(m:Nat->SC):ConsP n m (replicate n false) (replicate n []):=λb a=>by
 rw[af,af,List.getElem?_replicate,List.getElem?_replicate,bu a,bu a];exact⟨λa=>Bool.noConfusion a,λ_=>rfl⟩
theorem pX(w:World)(X Y Z:Array Value)(tX tY a:TypeId):Blk (((w.alloc (.cells X tX)).alloc (.cells Y tY)).alloc (.cells Z a)) w.heap.size tX X/\Blk (((w.alloc (.cells X tX)).alloc (.cells Y tY)).alloc (.cells Z a)) (w.heap.size+1) tY Y/\Blk (((w.alloc (.cells X tX)).alloc (.cells Y tY)).alloc (.cells Z a)) (w.heap.size+1+1) a Z/\Below w.heap.size w (((w.alloc (.cells X tX)).alloc (.cells Y tY)).alloc (.cells Z a)):=by
 have d:(w.alloc (.cells X tX)).heap.size=w.heap.size+1:=by simp
 have b:((w.alloc (.cells X tX)).alloc (.cells Y tY)).heap.size=w.heap.size+1+1:=by simp
 have j:=(aC w.heap.size w).alloc (aj _) (.cells X tX);have e:=(aC (w.alloc (.cells X tX)).heap.size (w.alloc (.cells X tX))).alloc (aj _) (.cells Y tY);have c:=(aC ((w.alloc (.cells X tX)).alloc (.cells Y tY)).heap.size ((w.alloc (.cells X tX)).alloc (.cells Y tY))).alloc (aj _) (.cells Z a);have f:=Blk.new w tX X;have g:=Blk.new (w.alloc (.cells X tX)) tY Y;have h:=Blk.new ((w.alloc (.cells X tX)).alloc (.cells Y tY)) a Z;have k:=(f.below e f.lt).below c (by rw[b];omega);have i:=g.below c g.lt;rw[d] at i;rw[b] at h;refine⟨k,i,h,(j.trans (e.mono (by rw[d];omega))).trans (c.mono (by rw[b];omega))⟩
theorem Kl(n N Z:Nat)(k:SE)(f:Nat)(F:Nat->Prop)(m:Nat->SC)(L:List (SC×SC))(w:World)
 (hL:(gq L).ok w F [slice k N f])(hN:L.length=N)(ak:N<=1000)(hn:n<=64)(hZ:1<=Z)(am:Z<=1000)
 (hm:∀c,c<n->(m c).length=Z/\By (m c))(z:xO n Z m L)(hU:∀x∈L,RP x.1):
 Calls prog 233 #[int i64 n,slice k N f] w λl b=>∃g gk e a v kn vl,l=returned (.tuple #[slice (some ⟨gk,0,none⟩) n n,slice (some ⟨e,0,none⟩) n n,v,int i64 0])/\
  PSt b g gk e n (slice k N f) kn vl/\ConsP n m kn vl/\(w.heap.size<=g/\w.heap.size<=gk/\w.heap.size<=e)/\(g<a/\gk<a/\e<a)/\OwnS b a 286 2 (Fr a) v ((gV kn m Z L).map vM)/\Below w.heap.size w b:=by
 have an:=ae z;have A:=ae hm;have W:=ae hN;have b:=ae (ET n N Z k f F L w hL hN ak hn (λx a=>⟨aP (z x a).1 (by omega),(z x a).2.1,hU x a,by rw[(z x a).2.2];exact fM aJ λc i=>(hm c ((z x a).2.1 c i)).1⟩));have d:=ae hL;have ao:∀w:World,(Instr.makeSlice 293 (int i64 (n:Int)) (int i64 (n:Int))).run prog w=.ok (slice (some ⟨w.heap.size,0,none⟩) n n) (w.alloc (cells (dA (replicate n false)).toArray 4)):=λw=>ru (by omega) w;have ap:∀w:World,(Instr.makeSlice 45 (int i64 (n:Int)) (int i64 (n:Int))).run prog w=.ok (slice (some ⟨w.heap.size,0,none⟩) n n) (w.alloc (cells (replicate n (Value.slice none 0 0)).toArray 30)):=λw=>Dy (by omega) w;clear z hm hN hL hU;go_enter func233,ntmps233;go_wp2_with fail;refine b.o.mono ?_;rintro l w1 ⟨rfl,a⟩;have C:=ae a;have aq:=a.size;have aa:=ae ((gq L).bl ((gq L).new d.o a));clear a b d;go_upto_region 3 with fail;go_cut [8] (λv a=>∃g gk e,v=pointer (some ⟨g,0,none⟩)/\Sz (PSt a g gk e n (slice k N f) (replicate n false) (replicate n []))/\Sz (Below w1.heap.size w1 a)/\Sz (w1.heap.size<=g/\w1.heap.size<=gk/\w1.heap.size<=e))
 case first=>
  generalize a:(dA (replicate n false)).toArray=j at*;generalize b:(replicate n (Value.slice none 0 0)).toArray=o at*;have p:=ae a;have q:=ae b;clear a b;go_region_law (first | simp only[ao] | simp only[ap])
  all_goals(
   go_wp2_with fail;go_meet
   first
   | (obtain⟨E,a,b,d⟩:=pX w1 j o #[slice k N f,slice (some ⟨w1.heap.size,0,none⟩) n n,slice (some ⟨w1.heap.size+1,0,none⟩) n n] 4 30 353
      refine⟨_,w1.heap.size,w1.heap.size+1,rfl,ae (PSt.begin (Blk.drewN b 1) (Blk.drewN (by rw[p.o];exact E) 1) (Blk.drewN (by rw[q.o];exact a) 1)),ae (below_drewN d 1),ae ⟨by omega,by omega,by omega⟩⟩)
   | (obtain⟨E,a,b,d⟩:=pX w1 o j #[slice k N f,slice (some ⟨w1.heap.size+1,0,none⟩) n n,slice (some ⟨w1.heap.size,0,none⟩) n n] 30 4 353
      refine⟨_,w1.heap.size+1,w1.heap.size,rfl,ae (PSt.begin (Blk.drewN b 1) (Blk.drewN (by rw[p.o];exact a) 1) (Blk.drewN (by rw[q.o];exact E) 1)),ae (below_drewN d 1),ae ⟨by omega,by omega,by omega⟩⟩))
 case rest=>
  clear ao ap;obtain⟨g,gk,e,rfl,p,a,j⟩:=hcut;have q:=ae ((gq L).new aa.o a.o);have r:=ae (NK w1.heap.size g gk e n N Z k f m (replicate n false) (replicate n []) L wc p.o j.o q.o W.o ak (by omega) hZ am A.o an.o (ConsP.begin n m));go_wp2_with fail;refine r.o.mono ?_;rintro l d ⟨rfl,kn,vl,s,i,o⟩;have X:=ae s;have HC:=ae i;have t:=ae ((gq L).keep aa.o λb u _=>(show d.heap[b]? =w1.heap[b]? /\Bl w1.heap.size b from⟨((a.o.trans o).block b u),u⟩));have ar:Sz (Below w.heap.size w d):=ae (C.o.trans ((a.o.trans o).mono aq));have u:w1.heap.size<=d.heap.size:=(a.o.trans o).size;have aD:Sz (w.heap.size<=g/\w.heap.size<=gk/\w.heap.size<=e):=ae (by have:=j.o;exact⟨by omega,by omega,by omega⟩);clear s i o r p aa q C a j aq u;have S0:=ae ((Sx.nil d).add (eR _ (slice k N f) (gq L)) t.o);have au:Sz (OwnS d d.heap.size 286 2 (Fr d.heap.size) (slice none 0 0) ((gV kn m Z (L.take 0)).map vM)):=ae (OwnS.nil _ _ _ _ _);have av:=ae (aC d.heap.size d);clear t;go_wp2_with fail;go_loopw [6,27] (λv a wr=>∃b:Nat,b<=N/\a=int i64 b/\Sz (OwnS wr d.heap.size 286 2 (Fr d.heap.size) v ((gV kn m Z (L.take b)).map vM))/\Sz (Below d.heap.size d wr)) (λ_ a _=>N-(intOf a).toNat)
  case atStart=>exact⟨0,by omega,rfl,au,av⟩
  case round=>
   clear au av;obtain⟨b,aS,rfl,G,B⟩:=hrel;have S1:=ae (S0.o.step B.o);have H:=ae (X.o.new B.o);have aw:=B.o.size;obtain⟨a6,n6,c6,rfl⟩:=G.o.sl;by_cases ax:b<N
   ·have aT:(b:Int)<(N:Int):=by omega
    have y:b<L.length:=(by rw[W.o];exact ax);have S:L.getD b ([],[])∈L:=(by rw[af,ah y];exact aQ _);obtain⟨T,p,q⟩:=an.o _ S;obtain⟨I,aE,J,K,M,O,a,P,rfl,_,o,aV,aX,U,V,Y,az⟩:=oF (S1.o.rep 0 rfl) W.o ax;have hz:=GI HC.o A.o p q;have ad:(L.getD b ([],[])).2.length=Z:=(by rw[q];exact fM aJ λc i=>(A.o c (p c i)).1);have ag:By (L.getD b ([],[])).2:=(by rw[q];exact(dU (D:=Z) (Byt.zero Z) λc i=>A.o c (p c i)).2);obtain rfl:a=Z:=(by omega);obtain⟨aY,a0,r,ai,-⟩:=dY U Y.symm;injection r with r _ e3;subst r e3;obtain⟨a5,a7,r,ay,aF,-⟩:=eU V ad;injection r with r _ e3;subst r e3;have j:=(aC wr.heap.size wr).alloc (aj _) (cells #[slice J K M,slice O a P] 286);have t:=H.o.new j;have s:=Blk.new wr 286 #[slice J K M,slice O a P];have k0:=s.cell 0;have E:=s.cell 1
    have CL:=ae (zu g n K a (slice (some ⟨I,aE,none⟩) N f) (some ⟨gk,0,none⟩) (some ⟨e,0,none⟩) J O n n M P kn vl (L.getD b ([],[])).1 (L.getD b ([],[])).2 _ t.blk t.rdk t.rdv (ai.below j (aj _) |>.more j.size) (ay.below j (aj _) |>.more j.size) aF am (by omega) (by omega) p (λu Q hk=>by
     have:=(HC.o u (p u Q)).1 hk;rw[this];exact A.o u (p u Q)) ag)
    rw[hz] at CL;have Q:=ae (Kj (kn:=kn) (m:=m) (Z:=a) y);have aK:(eu kn (L.getD b ([],[])).1).length<=64:=aP (length_filter_le _ _) T
    have aL:((gV kn m a (L.take b)).map vM).length<=1000000:=by
     rw[aG];exact aP Dx (by rw[aH];omega)
    have ab:Sz ((bZ m (eu kn (L.getD b ([],[])).1) (replicate a 0)).length=a):=ae (fM aJ λc i=>(A.o c (p c (mem_filter.1 i).1)).1);have C:=ae (B.o.trans (j.mono aw));have ac:=ae (G.o.new j);have aM:wr.heap.size<=(wr.alloc (cells #[slice J K M,slice O a P] 286)).heap.size:=j.size;unfold xW at Q;clear j t s p q T y S U V Y az hz ad ag ai ay G B H S1;generalize L.getD b ([],[])=x at*;generalize gV kn m a (L.take b)=LL at*;generalize j:gV kn m a (L.take (b+1))=LN at*;have ay:=ae j;clear j;go_wp2_with fail;generalize wr.alloc (cells #[slice J K M,slice O a P] 286)=wa at*;refine CL.o.mono ?_;rintro l p ⟨v1,v2,rfl,ad,U,V⟩;obtain⟨t,u,rfl⟩:=ad.lenA;obtain⟨q,j,rfl,az,-⟩:=U.rd2 ab.o;have aA:(vM (eu kn x.1,bZ m (eu kn x.1) (replicate a 0))).ok p (Fr wa.heap.size) [slice t (eu kn x.1).length u,slice q a j]:=qj (gM ad) (gK U);have y:=(aC p.heap.size p).alloc (aj _) (cells #[slice t (eu kn x.1).length u,slice q a j] 286);have ag:=ae ((vM (eu kn x.1,bZ m (eu kn x.1) (replicate a 0))).new aA y);have S:=ae ((az.below y (aj _)).more y.size);have a8:=V.size;have T:=ae (C.o.trans ((V.mono (show d.heap.size<=wa.heap.size by omega)).trans (y.mono (show d.heap.size<=p.heap.size by omega))));have Y:=ae ((ac.o.new V).new y);have s:=Blk.new p 286 #[slice t (eu kn x.1).length u,slice q a j];have p0:=s.cell 0;have p1:=s.cell 1;have a9:=y.size;have aB:a<=j/\j<=maxLen:=(by obtain⟨_,_,l,_,_,h3⟩:=eU (gK U) ab.o;injection l with _ _ l;subst l;exact h3);have ai:Sz ((vM (eu kn x.1,bZ m (eu kn x.1) (replicate a 0))).ok (p.alloc (cells #[slice t (eu kn x.1).length u,slice q a j] 286)) (λI=>Fr d.heap.size I/\some I≠(Value.slice a6 n6 c6).ownBlock) [slice t (eu kn x.1).length u,slice q a j]):=ae (ac.o.off ag.o λI o=>⟨aP (aP aw aM) o,.inr o⟩);clear aA y az V C ac s ad U CL k0 E;by_cases y:(eu kn x.1).length=0
    ·have ad:eu kn x.1=[]:=eq_nil_of_length_eq_zero y
     have U:bZ m (eu kn x.1) (replicate a 0)=replicate a 0:=(by rw[ad];rfl);rw[U] at S;rw[bu y] at Q;rw[y] at S T Y p0 p1 ⊢;have CZ:=ae (BZ a j _ q _ S.o aB.1 aB.2);clear S ag ai y ad U ab aK;go_wp2_with fail;generalize p.alloc (cells #[slice t 0 u,slice q a j] 286)=U at*;refine CZ.o.mono ?_;rintro l w4 ⟨rfl,ac,rfl⟩;have aA:=ae (below_drewN T.o ac);have az:=ae (Y.o.drewN ac);clear p0 p1;generalize U.drewN ac=w5 at*;have V:gV kn m a (L.take (b+1))=LL:=(by rw[ay.o,Q.o]);rw[<-V] at az;clear V;go_wp2_with fail;go_roundw
     case rel=>exact⟨b+1,by omega,by go_num,az,aA⟩
     case measure=>simp[intOf];omega
    ·rw[bA y] at Q
     have ba:(0:Int)<(((eu kn x.1).length:Nat):Int):=(by omega);clear y S;generalize eu kn x.1=uk at*;generalize bZ m uk (replicate a 0)=sm at*;generalize uk.length=q3 at*;go_upto_region 10 with fail;generalize p.alloc (cells #[slice t q3 u,slice q a j] 286)=U at*;have aA:d.heap.size<=U.heap.size:=T.o.size;clear ag
     go_wp2_with (at_builtin;refine iA (w:=U) (w1:=U) rfl _ _ rfl underlying284 GQ rfl (by decide) (by decide) Y.o (aC _ _) aA aL (R:=vM (uk,sm)) ai.o rfl rfl rfl ?_)
     intro v6 w6 ac ad;have V:(gV kn m a (L.take (b+1))).map vM=LL.map vM++[vM (uk,sm)]:=(by rw[ay.o,Q.o,aU];rfl);rw[<-V] at ac;have az:=ae ac;have aR:=ae (T.o.trans ad);clear ac ad Y ai T V;obtain⟨b6,n6,c6,rfl⟩:=az.o.sl;go_wp2_with fail;go_roundw
     case rel=>exact⟨b+1,by omega,by go_num,az,aR⟩
     case measure=>simp[intOf];omega
   ·obtain rfl:b=N:=by omega
    rw[aN (by rw[W.o];exact aj _)] at G;have r:=H.o.blk.cell 1;have s:=H.o.blk.cell 2;go_wp2_with fail
    go_quiet (fail)
    go_wp2_with fail
    (try simp only[Exit.inBlock,Exit.then])
    refine bodyPost_ret (A7 rfl _ _ _) rfl ?_;obtain⟨a,j,p⟩:=aD.o;refine⟨g,gk,e,d.heap.size,_,kn,vl,rfl,(H.o).new (below_drewN (aC _ _) _),HC.o,⟨a,j,p⟩,?_,G.o.drewN _,below_drewN (ar.o.trans (B.o.mono ar.o.size)) _⟩;obtain⟨t,q,-⟩:=X.o.hs;exact⟨X.o.blk.lt,X.o.knb.lt,q.lt⟩
def nz(l:List SC):Rp:=rS 1 (l.map rI)
theorem A8{l:List SC}{w:World}{F:Nat->Prop}{a:SE}{n c i:Nat}(g:(nz l).ok w F [slice a n c])(t:l.length=n)(h:i<n):
 ∃b o d e f,a=some ⟨b,o,none⟩/\F b/\b<w.heap.size/\w.cell? ⟨b,o+i,none⟩=some (slice d e f)/\(rI (l.getD i [])).ok w F [slice d e f]/\e=(l.getD i []).length/\Rd w w.heap.size d e (bM (l.getD i [])):=by
 have j:i<l.length:=by omega
 have k:(l.map rI)[i]? =some (rI (l.getD i [])):=by rw[List.getElem?_map,af,ah j];rfl
 obtain⟨b,o,u,rfl,m,p,e,q,r⟩:=su g (by decide) h k;obtain⟨v,rfl⟩:=length_eq_one_iff.1 q;obtain⟨d,f,rfl,s,-⟩:=dY e rfl;have:=r 0 _ rfl;rw[Nat.mul_one,Nat.add_zero] at this;exact⟨b,o,d,_,f,rfl,m,p,this,e,rfl,s⟩
theorem Dz(n N:Nat)(k:SE)(l:Nat)(F:Nat->Prop)(L:List SC)(w:World)
 (m:(nz L).ok w F [slice k N l])(o:L.length=N)(K:N<=2000)(M:n<=64)
 (p:∀x∈L,x.length<=1000/\(∀c∈x,c<n)/\RP x):
 Calls prog 353 #[int i64 n,slice k N l] w λg a=>g=returned (bool true)/\a=w:=by
 have z:=ae m;have q:=ae o;have A:=ae p;clear m o p;go_enter func353,ntmps353;have a:¬(n:Int)<0:=by omega
 have b:¬64<(n:Int):=by omega
 go_wp2_with fail;clear a b;go_loopw [17] (λf wr=>∃e:Nat,e<=N/\f=int i64 e/\wr=w) (λf _=>N-(intOf f).toNat)
 case atStart=>exact⟨0,by omega,rfl,rfl⟩
 case round=>
  obtain⟨e,O,rfl,i⟩:=hrel;have d:=ae i;clear i;by_cases r:e<N
  ·have P:(e:Int)<(N:Int):=by omega
   have a:L.getD e []∈L:=(by rw[af,ah (by rw[q.o];exact r)];exact aQ _);obtain⟨B,j,s⟩:=A.o _ a;obtain⟨Q,R,S,b,T,rfl,_,U,t,_,u,v⟩:=A8 z.o q.o r;have y:=ae v;have C:=ae j;have D:=ae s;have E:=ae u;have V:b<=1000:=(by omega);clear a v j B s;generalize L.getD e []=x at*;clear u;rw[<-d.o] at t;go_wp2_with fail;clear t;go_loopw [23] (λf s=>∃a:Nat,a<=b/\f=int i64 a/\s=w) (λf _=>b-(intOf f).toNat)
   case atStart=>exact⟨0,by omega,rfl,d.o⟩
   case round=>
    obtain⟨a,W,rfl,i⟩:=hrel;clear d;have d:=ae i;clear i;by_cases s:a<b
    ·have X:(a:Int)<(b:Int):=by omega
     have f:a<x.length:=(by rw[<-E.o];exact s);obtain⟨Y,Z,rfl,aa,t⟩:=ji y.o s;have j:x.getD a 0<n:=C.o _ (by rw[getD_at f];exact aQ f);have ab:¬((x.getD a 0:Nat):Int)<0:=(by omega);have ac:¬(n:Int)<=((x.getD a 0:Nat):Int):=(by omega);rw[<-d.o] at t;by_cases v:a=0
     ·subst v
      clear f;generalize x.getD 0 0=B at*;rw[Nat.add_zero] at t;go_wp2_with fail;go_roundw
      case rel=>exact⟨0+1,by omega,by go_num,d.o⟩
      case measure=>simp[intOf];omega
     ·obtain⟨_,_,g,ad,G⟩:=ji y.o (show a-1<b by omega)
      injection g with g;injection g with H I _;subst H I;rw[<-d.o] at G;have u:=D.o (a-1) (by omega);rw[show a-1+1=a by omega] at u;have ag:¬((x.getD a 0:Nat):Int)<=((x.getD (a-1) 0:Nat):Int):=(by omega);have ai:(0:Int)<(a:Int):=(by omega);have ak:IntKind.i64.wrap ((a:Int)-1)=((a-1:Nat):Int):=(by rw[IntKind.wrap_i64];omega);have am:((a:Int)-1)=((a-1:Nat):Int):=(by omega);have an:((a-1:Nat):Int)<(b:Int):=(by omega);have HJ:Sz (a+1<=b/\b-(a+1)<b-a):=ae (by omega);clear f u;generalize x.getD a 0=B at*;generalize u:a-1=J at*;generalize x.getD J 0=ao at*;clear u;go_wp2_with fail;go_roundw
      case rel=>exact⟨a+1,by omega,by go_num,d.o⟩
      case measure=>simp[intOf];omega
    ·obtain rfl:a=b:=by omega
     go_wp2_with fail;go_roundw
     case rel=>exact⟨e+1,by omega,by go_num,d.o⟩
     case measure=>simp[intOf];omega
  ·obtain rfl:e=N:=by omega
   go_wp2_with fail;go_ret;exact⟨rfl,d.o⟩
structure PlSt (w:World) (g gl gu n N:Nat) (sl:Value) (op us:List Bool):Prop where
 blk:Blk w g 416 #[sl,slice (some ⟨gl,0,none⟩) n n,slice (some ⟨gu,0,none⟩) N N]
 opb:Blk w gl 4 (dA op).toArray
 usb:Blk w gu 4 (dA us).toArray
 ol:op.length=n
 ul:us.length=N
 ne:gl≠gu
theorem PlSt.nes{w:World}{g b c n N:Nat}{d:Value}{op e:List Bool}(a:PlSt w g b c n N d op e):g≠b/\g≠c/\b≠c:=⟨Blk.ne a.blk a.opb (by decide),Blk.ne a.blk a.usb (by decide),a.ne⟩
theorem PlSt.new{w w':World}{g c d n N:Nat}{e:Value}{op f:List Bool}(a:PlSt w g c d n N e op f)(b:Below w.heap.size w w'):PlSt w' g c d n N e op f:=
 ⟨a.blk.below b a.blk.lt,a.opb.below b a.opb.lt,a.usb.below b a.usb.lt,a.ol,a.ul,a.ne⟩
theorem PlSt.cellO{w:World}{g a d n N:Nat}{e:Value}{op f:List Bool}(b:PlSt w g a d n N e op f){c:Nat}(h:c<n):w.cell? ⟨a,c,none⟩=some (bool (op.getD c false)):=by
 rw[b.opb.cell c,af];have:c<op.length:=by rw[b.ol];exact h
 simp[dA,this]
theorem PlSt.cellU{w:World}{g e b n N:Nat}{f:Value}{op a:List Bool}(d:PlSt w g e b n N f op a){c:Nat}(h:c<N):w.cell? ⟨b,c,none⟩=some (bool (a.getD c false)):=by
 rw[d.usb.cell c,af];have:c<a.length:=by rw[d.ul];exact h
 simp[dA,this]
def iI(op:List Bool)(r:SC):SC:=r.filter λa=>op.getD a false
theorem Od{op:List Bool}{r:SC}{k:Nat}(b:k<r.length):iI op (r.take (k+1))=if op.getD (r.getD k 0) false=true then iI op (r.take k)++[r.getD k 0] else iI op (r.take k):=by
 unfold iI;rw[aO b,filter_append,getD_at b];by_cases a:op.getD r[k] false=true
 ·rw[bu a,filter_cons,bu a];rfl
 ·rw[bA a,filter_cons,bA a,filter_nil,append_nil]
theorem A9(g x y n N q c:Nat)(z:Value)(op A:List Bool)(a:SE)(r:SC)(w:World)(m:PlSt w g x y n N z op A)(i:Rd w w.heap.size a q (bM r))(I:q<=1000)(o:∀c∈r,c<n):
 Calls prog 382 #[pointer (some ⟨g,0,none⟩),slice a q c] w λb d=>b=returned (.tuple #[int i64 ((iI op r).getLastD 0:Nat),bool (decide ((iI op r).length=1))])/\d=w:=by
 have b:r.length=q:=by have:=i.len;simpa[bM] using this
 have p:=ae m;have B:=ae i;have s:=ae b;have C:=ae o;clear m i b o;go_enter func382,ntmps382;go_wp2_with fail;go_loopw [6,7,12] (λe f d wr=>∃b:Nat,b<=q/\d=int i64 b/\e=int i64 ((iI op (r.take b)).getLastD 0:Nat)/\f=int i64 ((iI op (r.take b)).length:Nat)/\wr=w) (λ_ _ d _=>q-(intOf d).toNat)
 case atStart=>exact⟨0,by omega,rfl,rfl,rfl,rfl⟩
 case round=>
  obtain⟨b,J,rfl,rfl,rfl,d⟩:=hrel;have f:=ae d;clear d;have t:(iI op (r.take b)).length<=1000:=aP (length_filter_le _ _) (by rw[aH];omega);by_cases u:b<q
  ·have K:(b:Int)<(q:Int):=by omega
   have d:b<r.length:=(by rw[s.o];exact u);obtain⟨L,M,rfl,O,D⟩:=ji B.o u;have E:r.getD b 0<n:=C.o _ (by rw[getD_at d];exact aQ d);have j:=p.o.cellO E;have F:=p.o.blk.cell 1;have e:=ae (Od (op:=op) d);have P:((r.getD b 0:Nat):Int)<(n:Int):=(by omega);rw[<-f.o] at D j F;clear d;generalize r.getD b 0=v at*;cases hky:op.getD v false with
   | false=>
     rw[hky] at j e;rw[bA (by decide)] at e;generalize iI op (r.take b)=d at*;have k:Sz ((iI op (r.take (b+1))).length=d.length):=ae (by rw[e.o]);have l:Sz ((iI op (r.take (b+1))).getLastD 0=d.getLastD 0):=ae (by rw[e.o]);generalize d.length=G at*;generalize d.getLastD 0=H at*;go_wp2_with fail;go_roundw
     case rel=>exact⟨b+1,by omega,by go_num,by rw[l.o],by rw[k.o],f.o⟩
     case measure=>simp[intOf];omega
   | true=>
     rw[hky] at j e;rw[bu rfl] at e;generalize iI op (r.take b)=d at*;have k:Sz ((iI op (r.take (b+1))).length=d.length+1):=ae (by rw[e.o,aI];rfl);have l:Sz ((iI op (r.take (b+1))).getLastD 0=v):=ae (by rw[e.o];simp);generalize d.length=G at*;generalize d.getLastD 0=H at*;go_wp2_with fail;go_roundw
     case rel=>exact⟨b+1,by omega,by go_num,by rw[l.o],by rw[k.o];go_num,f.o⟩
     case measure=>simp[intOf];omega
  ·obtain rfl:b=q:=by omega
   rw[aN (by rw[s.o];exact aj _)] at t ⊢;by_cases e:(iI op r).length=1
   ·rw[e]
    have j:=ae e;clear e t;go_wp2_with fail;go_ret2;exact⟨by rw[bq j.o];rfl,f.o⟩
   ·have l:¬(((iI op r).length:Nat):Int)=1:=by omega
    generalize k:(iI op r).length=d at*;have v:=ae k;have j:=ae e;have D:((d:Int) == 1)=false:=beq_eq_false_iff_ne.2 l;clear e k;go_wp2_with fail;go_ret2;exact⟨by rw[v.o,decide_eq_false j.o];rfl,f.o⟩
def tO(a b id K H Z c:Nat)(v:Value):Value:=.agg #[int i64 a,int i64 b,int i64 id,int i64 K,int i64 H,int i64 Z,.int .u32 c,v]
def tQ(a b id K H Z c:Nat)(v:Value):Array Value:=#[int i64 a,int i64 b,int i64 id,int i64 K,int i64 H,int i64 Z,.int .u32 c,v]
theorem uV{w:World}{g:Nat}{t:TypeId}{a b c h e f x y:Value}(d:Blk w g t #[a,b,c,h,e,f,x,y]):
 w.cell? ⟨g,0,none⟩=some a/\w.cell? ⟨g,1,none⟩=some b/\w.cell? ⟨g,2,none⟩=some c/\w.cell? ⟨g,3,none⟩=some h/\w.cell? ⟨g,4,none⟩=some e/\w.cell? ⟨g,5,none⟩=some f/\w.cell? ⟨g,6,none⟩=some x/\w.cell? ⟨g,7,none⟩=some y:=
 ⟨d.cell 0,d.cell 1,d.cell 2,d.cell 3,d.cell 4,d.cell 5,d.cell 6,d.cell 7⟩
theorem qK(d b id K H Z g:Nat)(a:SE)(c:Nat)(w:World)(m:d<=16777215)(e:b<=255)(n:id<=65535)(o:fQ K H Z=true):
 Calls prog 226 #[tO d b id K H Z g (slice a Z c)] w λk f=>k=returned (bool (decide (b<8)))/\Below w.heap.size w f:=by
 have i:=ae λw=>gU K H Z w;rw[o] at i;have j:=ae (Blk.new w 178 (tQ d b id K H Z g (slice a Z c)));have f:=ae ((aC w.heap.size w).alloc (aj _) (cells (tQ d b id K H Z g (slice a Z c)) 178));unfold dO at i;unfold tO;have s:(d:Int)<=16777215:=by omega
 have t:(id:Int)<=65535:=by omega
 clear m n e;go_enter func226,ntmps226;by_cases l:b<8
 ·have p:(b:Int)<8:=by omega
  rw[bq l];go_wp2_with fail;unfold tQ at j f;generalize w.alloc (cells #[int i64 d,int i64 b,int i64 id,int i64 K,int i64 H,int i64 Z,.int .u32 g,slice a Z c] 178)=u at*;refine(i.o _).mono ?_;rintro k v ⟨rfl,e⟩;have q:=ae (f.o.trans (e.mono f.o.size));have r:=ae (j.o.below e j.o.lt);obtain⟨x,y,z,A,B,C,D,E⟩:=uV r.o;clear e f j i;go_wp2_with fail;go_ret;exact⟨rfl,q.o⟩
 ·have p:¬(b:Int)<8:=by omega
  rw[decide_eq_false l];go_wp2_with fail;go_ret;exact⟨rfl,f.o⟩
theorem qL(i j id K H Z k:Nat)(t:SC)(a:SE)(c:Nat)(w:World)(z:i<=16777215)(V:j<8)(W:id<=65535)(G:fQ K H Z=true)(hs:k<4294967296)
 (A:Rd w w.heap.size a Z (bK t))(I:By t)(X:a=none->c=0):
 Calls prog 162 #[tO i j id K H Z k (slice a Z c)] w λu b=>∃g,u=returned (slice (some ⟨g,0,none⟩) 64 64)/\w.heap.size<=g/\Blk b g 5 (bO (cellL 1 (jw i j id K H Z k t)))/\Below w.heap.size w b:=by
 have ak:=bn G;have b:t.length=Z:=by have:=A.len;rwa [bL] at this
 have d:=ae λw=>qK i j id K H Z k a c w z (by omega) W G;rw[bq V] at d;have e:=ae (Blk.new w 178 (tQ i j id K H Z k (slice a Z c)));have f:=ae ((aC w.heap.size w).alloc (aj _) (cells (tQ i j id K H Z k (slice a Z c)) 178));unfold tO at d ⊢;unfold tQ at f e;have Y:=ae A;have B:=ae b;have aa:=ae I;clear A b I;have al:(K:Int)%256=(K:Int):=by omega
 have am:(H:Int)%256=(H:Int):=by omega
 have an:(Z:Int)%256=(Z:Int):=by omega
 have y:=ae λ(m:Value) (b:SC) (l n o:Nat) (w:World) (z:OwnB w l m b) (p:l<=w.heap.size) (q:n<4294967296) (hs:o<=4) (r:b.length<=1000)=>yz m b l n o w z p q hs r;go_enter func162,ntmps162;go_wp2_with fail;generalize b:w.alloc (cells #[int i64 i,int i64 j,int i64 id,int i64 K,int i64 H,int i64 Z,.int .u32 k,slice a Z c] 178)=w0 at*;have ao:w0.heap.size=w.heap.size+1:=by rw[<-b];simp
 clear b;refine(d.o _).mono ?_;rintro u J ⟨rfl,b⟩;have x:=ae (f.o.trans (b.mono f.o.size));have v:=ae (e.o.below b e.o.lt);have L:w.heap.size+1<=J.heap.size:=by have:=b.size;omega
 obtain⟨l,m,n,o,p,q,r,s⟩:=uV v.o;clear b f e d;go_wp2_with fail;refine(y.o (slice none 0 0) [] (w.heap.size+1) i 3 J (OwnB.nil _ _) L (by omega) (by omega) (by simp)).mono ?_;rintro u M ⟨v2,rfl,d,b⟩;clear l m n o p q r s;have C:=ae (x.o.trans (b.mono (by omega)));have f:=ae (v.o.below b (by omega));have N:w.heap.size+1<=M.heap.size:=aP L b.size;have e:=ae d;obtain⟨l,m,n,o,p,q,r,s⟩:=uV f.o;clear b d x v;obtain⟨a2,c2,rfl,-⟩:=e.o.rd;rw[nil_append] at e;go_wp2_with fail;refine(y.o _ _ _ j 1 M e.o N (by omega) (by omega) (by rw[dz];omega)).mono ?_;rintro u O ⟨v3,rfl,d,b⟩;clear l m n o p q r s;have D:=ae (C.o.trans (b.mono (by omega)));have x:=ae (f.o.below b (by omega));have P:w.heap.size+1<=O.heap.size:=aP N b.size;have e:=ae d;obtain⟨l,m,n,o,p,q,r,s⟩:=uV x.o;clear b d C f;obtain⟨a3,c3,rfl,-⟩:=e.o.rd;go_wp2_with fail;refine(y.o _ _ _ id 2 O e.o P (by omega) (by omega) (by simp[dz])).mono ?_;rintro u v ⟨v4,rfl,d,b⟩;clear l m n o p q r s;have Q:=ae (D.o.trans (b.mono (by omega)));have f:=ae (x.o.below b (by omega));have ab:w.heap.size+1<=v.heap.size:=aP P b.size;have e:=ae d;obtain⟨l,m,n,o,p,q,r,s⟩:=uV f.o;clear b d D x;obtain⟨a4,c4,rfl,-⟩:=e.o.rd;have x:=(aC v.heap.size v).alloc (aj _) (cells (bO [K,H,Z]) 5);have C:=ae (e.o.below x);have D:=ae (sw (Blk.new v 5 (bO [K,H,Z])));have R:bO [K,H,Z]= #[.int .u8 (K:Int),.int .u8 (H:Int),.int .u8 (Z:Int)]:=rfl;have S:(v.alloc (cells (bO [K,H,Z]) 5)).heap.size=v.heap.size+1:=by simp
 have E:Sz (Below (w.heap.size+1) v (v.alloc (cells (bO [K,H,Z]) 5))):=ae (x.mono ab);have F:=ae (f.o.below x (f.o.lt));rw[R] at C D S E F;clear x R
 go_wp2_with (at_builtin;refine mM rfl _ _ rfl C.o ?c1 ?c2 rfl rfl ?c3 D.o ?_)
 case c1=>omega
 case c2=>simp[dz]
 case c3=>intro u;cases u
 intro v5 R d b _ _;clear l m n o p q r s;have T:=ae (Q.o.trans ((E.o.mono (by omega)).trans (b.mono (by omega))));have x:=ae (F.o.below b (by omega));have U:w.heap.size+1<=R.heap.size:=by have:=b.size;omega
 have e:=ae d;obtain⟨l,m,n,o,p,q,r,s⟩:=uV x.o;clear b d Q f F E D C S;obtain⟨a5,c5,rfl,-⟩:=e.o.rd;go_wp2_with fail;refine(y.o _ _ _ k 4 R e.o U (by omega) (by omega) (by simp[dz])).mono ?_;rintro u w6 ⟨v6,rfl,d,b⟩;clear l m n o p q r s;have C:=ae (T.o.trans (b.mono (by omega)));have E:=ae (x.o.below b (by omega));have ac:w.heap.size+1<=w6.heap.size:=aP U b.size;have e:=ae d;obtain⟨l,m,n,o,p,q,r,s⟩:=uV E.o;clear b d T x;obtain⟨a6,c6,rfl,-⟩:=e.o.rd;have T:=ae (Y.o.below C.o (aj _))
 go_wp2_with (at_builtin;refine mM rfl _ _ rfl e.o ?c1 ?c2 rfl rfl ?c3 T.o ?_)
 case c1=>exact ac
 case c2=>simp[dz];omega
 case c3=>exact X
 intro v7 F d b _ _;clear l m n o p q r s;have ad:([]++bT i 3++bT j 1++bT id 2++[K,H,Z]++bT k 4++t).length=13+Z:=by simp[dz,B.o];omega
 have Q:=ae (C.o.trans (b.mono (by omega)))
 have S:OwnB F (w.heap.size+1) v7 (jw i j id K H Z k t):=by
  unfold jw;first | exact d | (simpa using d)
 have D:=kJ i j id K H Z k t;have e:=ae S
 have ag:Sz (By (jw i j id K H Z k t)):=ae (by
  unfold jw;intro x f;simp only[bF] at f;rcases f with((((f | f) | f) | f) | f) | f
  ·exact fB _ _ x f
  ·exact fB _ _ x f
  ·exact fB _ _ x f
  ·simp at f;omega
  ·exact fB _ _ x f
  ·exact aa.o x f)
 clear b d S C E ad;obtain⟨S,c7,rfl,C⟩:=e.o.rd;rw[D] at C;have E:=ae (wF 1 (jw i j id K H Z k t) S _ c7 F (by omega) (by omega) C ag.o (by have:=B.o;omega));rw[D];rw[B.o] at E ⊢;clear C D;go_wp2_with fail;refine E.o.mono ?_;rintro u w8 ⟨g,rfl,hg,C,b⟩;have D:=ae C;have ad:=Q.o.size;have ai:=ae (Q.o.trans (b.mono ad));clear C b;go_wp2_with fail;go_ret;exact⟨g,rfl,by omega,D.o,ai.o⟩
theorem dC{P:Program}{e:Func}{p q:Tmp}{a:TypeId}(h:e.results= #[.cell p a,.tmp q])(b:Array Value)(w:World)(g:Nat)(t:TypeId)(c:Array Value)(f:Nat×Nat)(d:TypeDesc)
 (i:b.getD p undef=pointer (some ⟨g,0,none⟩))(j:w.heap[g]? =some (.cells c t f))
 (k:P.underlying a=some d)(l:(match d with | .struct _ | .array _ _=>true | _=>false)=true)(m:(P.info? a).map (·.size)=some c.size):
 (results e b).run P w=.ok (.tuple #[.agg c,b.getD q undef]) w:=by
 rw[results_cell_tmp h];have n:b[p]?.getD undef=pointer (some ⟨g,0,none⟩):=by simpa using i
 simp[n,asAddr,run_loadVar_row w g t a c f d j k l m,Result.andThen]
def ja:Array Value:=#[int i64 0,int i64 0,int i64 0,int i64 0,int i64 0,int i64 0,.int .u32 0,slice none 0 0]
theorem BG:ja.all (·.oneCell')=true:=by kernel_rfl
theorem L8(b d id K H Z e:Nat)(a:SE)(n c:Nat):(tQ b d id K H Z e (slice a n c)).all (·.oneCell')=true:=by kernel_rfl
theorem wT(b:SC)(a:SE)(c:Nat)(w:World)(p:Rd w w.heap.size a 64 (bK b))(d:By b)(q:64<=c/\c<=maxLen)(r:¬(iH b/\b.getD 3 0=1)):
 Calls prog 178 #[slice a 64 c] w λs e=>s=returned (.tuple #[.agg ja,bool false])/\Below w.heap.size w e:=by
 have i:Sz (Sx w (w.alloc (cells (ja) 178)) [bY w.heap.size 178 (ja),mR a 64 (bK b)]):=
  ae (((((Sx.nil w).add (mR a 64 (bK b)) p).alloc _).add (bY _ _ _) (Blk.new w 178 _)))
 have j:=ae λw (h:Rd w w.heap.size a 64 (bK b))=>pG b a c w h d q;have x:=ae r;have B:=getD_lt d 3;have y:w.heap.size<(w.alloc (cells (ja) 178)).heap.size:=by simp
 clear p d q r;unfold ja at i y;go_enter func178,ntmps178;go_wp2_with fail;generalize e:w.alloc (cells #[int i64 0,int i64 0,int i64 0,int i64 0,int i64 0,int i64 0,.int .u32 0,slice none 0 0] 178)=C at*;clear e;refine(j.o _ (i.o.rd 1 rfl)).mono ?_;rintro s t ⟨k,l,d⟩;have g:=ae (i.o.step d);have e:w.heap.size<=w.heap.size:=aj _;have u:=ae e;clear e;by_cases m:iH b
 ·obtain⟨D,rfl,v⟩:=k m
  have E:¬b.getD 3 0=1:=λh=>x.o ⟨m,h⟩;obtain⟨F,G,rfl,-⟩:=v.rd;clear k l d v j;generalize b.getD 3 0=z at*;have H:¬(z:Int)=1:=(by omega);have n:=g.o.blk 0 rfl;have e:=ae (g.o.1);have f:=ae n;clear n
  go_wp2_with (change wpList _ _ _ (Oper.mk none (Op.store 178 _ _) _ _ _ _ :: _) _ _;refine wpList_store_row rfl 178 _ _ rfl w.heap.size ja rfl rfl 178 _ f.o (by kernel_rfl) rfl BG ?_)
  have n:=ae (f.o.row ja);have o:=ae (bS e.o u.o ja);clear e;generalize t.setRow w.heap.size ja=A at*;go_wp2_with fail
  (try simp only[Exit.inBlock,Exit.then])
  refine bodyPost_ret (dC rfl _ _ w.heap.size 178 ja (0,0) _ rfl n.o underlying178 rfl (by kernel_rfl)) rfl ?_;exact⟨rfl,o.o⟩
 ·obtain rfl:=l m
  have f:=ae (g.o.blk 0 rfl);have e:=ae (g.o.1);clear k l d j
  go_wp2_with (change wpList _ _ _ (Oper.mk none (Op.store 178 _ _) _ _ _ _ :: _) _ _;refine wpList_store_row rfl 178 _ _ rfl w.heap.size ja rfl rfl 178 _ f.o (by kernel_rfl) rfl BG ?_)
  have n:=ae (f.o.row ja);have o:=ae (bS e.o u.o ja);clear e;generalize t.setRow w.heap.size ja=A at*;go_wp2_with fail
  (try simp only[Exit.inBlock,Exit.then])
  refine bodyPost_ret (dC rfl _ _ w.heap.size 178 ja (0,0) _ rfl n.o underlying178 rfl (by kernel_rfl)) rfl ?_;exact⟨rfl,o.o⟩
theorem Fh(g E G n N:Nat)(H:SE)(I:Nat)(F:Nat->Prop)(op b:List Bool)(L:List SC)(w:World)(s:PlSt w g E G n N (slice H N I) op b)
 (J:(nz L).ok w F [slice H N I])(K:L.length=N)(aa:N<=2000)(M:∀x∈L,x.length<=1000/\(∀c∈x,c<n)):
 Calls prog 355 #[pointer (some ⟨g,0,none⟩)] w λe a=>((∃r c:Nat,e=returned (.tuple #[.agg #[int i64 r,int i64 c],bool true])/\r<N/\b.getD r false=false/\iI op (L.getD r [])=[c])\/
  (e=returned (.tuple #[.agg #[int i64 0,int i64 0],bool false])/\∀r,r<N->b.getD r false=false->(iI op (L.getD r [])).length≠1))/\Below w.heap.size w a:=by
 have a:=(aC w.heap.size w).alloc (aj _) (cells #[int i64 0,int i64 0] 359);have t:=ae (s.new a);have U:=ae ((nz L).new J a);have O:=ae (Blk.new w 359 #[int i64 0,int i64 0]);have P:=ae a;have Q:=ae K;have V:=ae M;have d:=(s.new a).blk.cell 0;clear a s J K M;go_enter func355,ntmps355;go_wp2_with fail;clear d;generalize w.alloc (cells #[int i64 0,int i64 0] 359)=u at*;go_loopw [13] (λd wr=>∃a:Nat,a<=N/\d=int i64 a/\Sz (∀r,r<a->b.getD r false=false->(iI op (L.getD r [])).length≠1)/\wr=u) (λd _=>N-(intOf d).toNat)
 case atStart=>exact⟨0,by omega,rfl,ae (λr h=>absurd h (Nat.not_lt_zero r)),rfl⟩
 case round=>
  obtain⟨a,ab,rfl,v,f⟩:=hrel;have d:=ae f;clear f;by_cases p:a<N
  ·have ac:(a:Int)<(N:Int):=by omega
   have i:L.getD a []∈L:=(by rw[af,ah (by rw[Q.o];exact p)];exact aQ _);obtain⟨l,j⟩:=V.o _ i;obtain⟨ad,ag,W,X,Y,rfl,_,hb,R,_,m,k⟩:=A8 U.o Q.o p;have q:=t.o.cellU p;have S:=t.o.blk.cell 2;have f:=ae (A9 g E G n N X Y _ op b W _ u t.o k (by omega) j);rw[<-d.o] at R q S f;clear i k j l;generalize i:L.getD a []=x at*;have T:=ae i;clear m i;cases hky:b.getD a false with
   | true=>
     rw[hky] at q;have y:=ae hky;clear hky;go_wp2_with fail;go_roundw
     case rel=>
      have z:Sz (∀r,r<a+1->b.getD r false=false->(iI op (L.getD r [])).length≠1):=ae λr A l=>by
       rcases Nat.lt_succ_iff_lt_or_eq.1 A with h | rfl
       ·exact v.o r h l
       ·rw[y.o] at l;exact Bool.noConfusion l
      exact⟨a+1,by omega,by go_num,z,d.o⟩
     case measure=>simp[intOf];omega
   | false=>
     rw[hky] at q;have y:=ae hky;clear hky;by_cases j:(iI op x).length=1
     ·rw[bq j] at f
      have B:=ae j;clear j;obtain⟨c,i⟩:=length_eq_one_iff.1 B.o;have e:(iI op x).getLastD 0=c:=(by rw[i];rfl);rw[e] at f;have Z:=ae i;clear i e;go_wp2_with fail;refine f.o.mono ?_;rintro e m ⟨rfl,k⟩;have i:Sz (Blk m w.heap.size 359 #[int i64 0,int i64 0]):=ae (by rw[k,d.o];exact O.o);have o:Sz (Below w.heap.size w m):=ae (by rw[k,d.o];exact P.o);clear k R q S f
      go_wp2_with (change wpList _ _ _ (Oper.mk none (Op.store 359 _ _) _ _ _ _ :: _) _ _;refine wpList_store_row rfl 359 _ _ rfl w.heap.size #[int i64 a,int i64 c] rfl rfl 359 _ i.o (by kernel_rfl) rfl (by kernel_rfl) ?_)
      have C:=ae (i.o.row #[int i64 a,int i64 c]);have D:=ae (bS o.o (aj _) #[int i64 a,int i64 c]);clear i o;generalize m.setRow w.heap.size #[int i64 a,int i64 c]=w2 at*;go_wp2_with fail
      (try simp only[Exit.inBlock,Exit.then])
      refine bodyPost_ret (dC rfl _ _ w.heap.size 359 #[int i64 a,int i64 c] (0,0) _ rfl C.o underlying359 rfl (by kernel_rfl)) rfl ?_;exact⟨.inl ⟨a,c,rfl,p,y.o,by rw[T.o];exact Z.o⟩,D.o⟩
     ·rw[decide_eq_false j] at f
      have B:=ae j;clear j;go_wp2_with fail;refine f.o.mono ?_;rintro e m ⟨rfl,k⟩;have Z:Sz (m=u):=ae (k.trans d.o);clear k;go_wp2_with fail;go_roundw
      case rel=>
       have z:Sz (∀r,r<a+1->b.getD r false=false->(iI op (L.getD r [])).length≠1):=ae λr A l=>by
        rcases Nat.lt_succ_iff_lt_or_eq.1 A with h | rfl
        ·exact v.o r h l
        ·rw[T.o];exact B.o
       exact⟨a+1,by omega,by go_num,z,Z.o⟩
      case measure=>simp[intOf];omega
  ·obtain rfl:a=N:=by omega
   have i:Sz (Blk wr w.heap.size 359 #[int i64 0,int i64 0]):=ae (by rw[d.o];exact O.o);have o:Sz (Below w.heap.size w wr):=ae (by rw[d.o];exact P.o);clear d
   go_wp2_with (change wpList _ _ _ (Oper.mk none (Op.store 359 _ _) _ _ _ _ :: _) _ _;refine wpList_store_row rfl 359 _ _ rfl w.heap.size #[int i64 0,int i64 0] rfl rfl 359 _ i.o (by kernel_rfl) rfl (by kernel_rfl) ?_)
   have C:=ae (i.o.row #[int i64 0,int i64 0]);have D:=ae (bS o.o (aj _) #[int i64 0,int i64 0]);clear i o;generalize wr.setRow w.heap.size #[int i64 0,int i64 0]=w2 at*;go_wp2_with fail
   (try simp only[Exit.inBlock,Exit.then])
   refine bodyPost_ret (dC rfl _ _ w.heap.size 359 #[int i64 0,int i64 0] (0,0) _ rfl C.o underlying359 rfl (by kernel_rfl)) rfl ?_;exact⟨.inr ⟨rfl,v.o⟩,D.o⟩
def iq(a:List Int):List Value:=a.map (Value.int .i64)
theorem xM{w:World}{g:Nat}{t:TypeId}{a:List Int}(b:Blk w g t (iq a).toArray){k:Nat}(c:k<a.length):w.cell? ⟨g,k,none⟩=some (int i64 (a.getD k 0)):=by
 rw[b.cell k,af];simp[iq,c]
theorem Fj{w:World}{g:Nat}{t:TypeId}{a:List Int}(b:Blk w g t (iq a).toArray)(k:Nat)(z:Int):Blk (w.setCell ⟨g,k,none⟩ (int i64 z)) g t (iq (a.set k z)).toArray:=by
 have c:(iq (a.set k z)).toArray=(iq a).toArray.setIfInBounds k (int i64 z):=by unfold iq;simp
 rw[c];exact b.set k _
theorem Qf{n:Nat}(h:n<=1000000)(w:World):(Instr.makeSlice 22 (int i64 (n:Int)) (int i64 (n:Int))).run prog w=.ok (slice (some ⟨w.heap.size,0,none⟩) n n) (w.alloc (cells (iq (replicate n 0)).toArray 3)):=by
 obtain⟨b,c,d,e,f⟩:=info_parts je;have a:=run_make (P:=prog) w 22 3 b (int i64 0) underlying22 c d .i64 .i64 (n:Int) (n:Int) (by omega) (by omega) (by rw[f];omega) (by omega);rw[e,Nat.mul_one,Int.toNat_natCast] at a;have g:(iq (replicate n 0)).toArray=madeCells #[Value.int .i64 0] n:=by rw[sW];unfold iq;simp
 rw[g];exact a
theorem Fq(g T U n N:Nat)(C:SE)(D:Nat)(F:Nat->Prop)(op E:List Bool)(L:List SC)(w:World)(u:PlSt w g T U n N (slice C N D) op E)(hn:n<=1000)
 (G:(nz L).ok w F [slice C N D])(H:L.length=N)(am:N<=2000)(j:∀x∈L,x.length<=1000/\(∀c∈x,c<n))(I:∃c,c<n/\op.getD c false=true):
 Calls prog 356 #[pointer (some ⟨g,0,none⟩)] w λa b=>(∃c:Nat,a=returned (int i64 c)/\c<n/\op.getD c false=true)/\Below w.heap.size w b:=by
 have J:=ae u;have V:=ae G;have K:=ae H;have W:=ae j;have X:=ae I;have b:∀w:World,(Instr.makeSlice 22 (int i64 (n:Int)) (int i64 (n:Int))).run prog w=.ok (slice (some ⟨w.heap.size,0,none⟩) n n) (w.alloc (cells (iq (replicate n 0)).toArray 3)):=λw=>Qf (by omega) w;have a:=(aC w.heap.size w).alloc (aj _) (cells (iq (replicate n 0)).toArray 3);have M:Sz (∃d:List Int,d.length=n/\Blk (w.alloc (cells (iq (replicate n 0)).toArray 3)) w.heap.size 3 (iq d).toArray):=ae ⟨_,aJ,Blk.new w _ _⟩;have O:=ae a;have z:=u.blk.cell 1;have e:=(u.new a).blk.cell 0;clear a u G H j I;go_enter func356,ntmps356;generalize a:(iq (replicate n 0)).toArray=Y at*
 go_wp2_with (simp only[b])
 clear z e a b;generalize w.alloc (.cells Y 3)=w0 at*;go_loopw [22] (λe wr=>∃k:Nat,k<=N/\e=int i64 k/\Sz (∃d:List Int,d.length=n/\Blk wr w.heap.size 3 (iq d).toArray)/\Sz (Below w.heap.size w wr)) (λe _=>N-(intOf e).toNat)
 case atStart=>exact⟨0,by omega,rfl,M,O⟩
 case round=>
  clear M O;obtain⟨k,an,rfl,f,b⟩:=hrel;have i:=ae (J.o.new b.o);by_cases A:k<N
  ·have ao:(k:Int)<(N:Int):=by omega
   have a:L.getD k []∈L:=(by rw[af,ah (by rw[K.o];exact A)];exact aQ _);obtain⟨r,B⟩:=W.o _ a;obtain⟨Q,R,a1,m,c1,rfl,_,S,l,_,o,q⟩:=A8 V.o K.o A;have Z:=ae q;have aa:=ae B;have ab:=ae o;have ap:m<=1000:=(by omega);have s:=(b.o.cell (p:=⟨Q,R+k,none⟩) S).trans l;have t:=i.o.blk.cell 0;clear a q B r l;generalize L.getD k []=x at*;clear o i;go_wp2_with fail;clear s t;go_loopw [29] (λe v=>∃a:Nat,a<=m/\e=int i64 a/\Sz (∃d:List Int,d.length=n/\Blk v w.heap.size 3 (iq d).toArray)/\Sz (Below w.heap.size w v)) (λe _=>m-(intOf e).toNat)
   case atStart=>exact⟨0,by omega,rfl,f,b⟩
   case round=>
    clear f b;obtain⟨a,aq,rfl,f,b⟩:=hrel;have i:=ae (J.o.new b.o);by_cases o:a<m
    ·have ac:(a:Int)<(m:Int):=by omega
     have l:a<x.length:=(by rw[<-ab.o];exact o);obtain⟨bc,oc,rfl,ad,q⟩:=ji Z.o o;have B:x.getD a 0<n:=aa.o _ (by rw[getD_at l];exact aQ l);have ar:=(b.o.cell (p:=⟨bc,oc+a,none⟩) ad).trans q;have P:=i.o.cellU A;have p2:=i.o.blk.cell 2;have au:((x.getD a 0:Nat):Int)<(n:Int):=(by omega);clear l q;generalize x.getD a 0=q at*;cases hky:E.getD k false with
     | true=>
       rw[hky] at P;go_wp2_with fail;go_roundw
       case rel=>exact⟨a+1,by omega,by go_num,f,b⟩
       case measure=>simp[intOf];omega
     | false=>
       rw[hky] at P;obtain⟨d,t,l⟩:=f.o;have y:=xM l (k:=q) (by omega);have hf:=l.frozen q;have ag:=ae λr=>Fj l q r;have ai:Sz (∀r,(d.set q r).length=n):=ae λr=>(by rw[length_set];exact t);have ak:Sz (∀s,Below w.heap.size w (wr.setCell ⟨w.heap.size,q,none⟩ s)):=ae λs=>b.o.setCell (p:=⟨w.heap.size,q,none⟩) (aj _) s;clear t l f i;go_wp2_with fail;go_roundw
       case rel=>exact⟨a+1,by omega,by go_num,ae ⟨_,ai.o _,ag.o _⟩,ae (ak.o _)⟩
       case measure=>simp[intOf];omega
    ·obtain rfl:a=m:=by omega
     go_wp2_with fail;go_roundw
     case rel=>exact⟨k+1,by omega,by go_num,f,b⟩
     case measure=>simp[intOf];omega
  ·obtain rfl:k=N:=by omega
   have z:=i.o.blk.cell 1;obtain⟨d,t,l⟩:=f.o;have Z:=ae t;have B:=ae l;clear f t l;go_wp2_with fail;clear z;go_loopw [8,54] (λs e v=>∃a:Nat,a<=n/\e=int i64 a/\Sz ((s=int i64 (-1)/\∀c,c<a->op.getD c false=false)\/∃c:Nat,s=int i64 c/\c<n/\op.getD c false=true)/\Sz (Below wr.heap.size wr v)) (λ_ e _=>n-(intOf e).toNat)
   case atStart=>exact⟨0,by omega,rfl,ae (.inl ⟨rfl,λc h=>absurd h (Nat.not_lt_zero c)⟩),ae (aC _ _)⟩
   case round=>
    obtain⟨a,ab,rfl,m,e⟩:=hrel;by_cases o:a<n
    ·have ac:(a:Int)<(n:Int):=by omega
     have P:=(i.o.new e.o).cellO o;have q:∀c,c<n->∃r,(‹World›:World).cell? ⟨w.heap.size,c,none⟩=some (int i64 r):=λc y=>⟨_,(e.o.cell (p:=⟨w.heap.size,c,none⟩) B.o.lt).trans (xM B.o (k:=c) (by rw[Z.o];exact y))⟩;obtain⟨z1,ad⟩:=q a o;have s:op.getD a false=true->Sz ((Value.int .i64 a=int i64 (-1)/\∀c,c<a+1->op.getD c false=false)\/∃c:Nat,Value.int .i64 a=int i64 c/\c<n/\op.getD c false=true):=λh=>ae (.inr ⟨a,rfl,o,h⟩);cases hky:op.getD a false with
     | false=>
       rw[hky] at P;have Q:=ae hky;clear hky s q
       have r:Sz ((_=Value.int .i64 (-1)/\∀c,c<a+1->op.getD c false=false)\/∃c:Nat,_=Value.int .i64 c/\c<n/\op.getD c false=true):=ae (by
        rcases m.o with⟨R,v⟩ | h
        ·exact .inl ⟨R,λc y=>by
          rcases Nat.lt_succ_iff_lt_or_eq.1 y with h | rfl
          ·exact v c h
          ·exact Q.o⟩
        ·exact .inr h)
       go_wp2_with fail
       go_quiet (fail)
       go_wp2_with fail;go_roundw
       case rel=>exact⟨a+1,by omega,by go_num,r,ae (below_drewN e.o _)⟩
       case measure=>simp[intOf];omega
     | true=>
       rw[hky] at P;have S:=s hky;have Q:=ae hky;clear s hky;rcases m.o with⟨rfl,-⟩ | ⟨c,rfl,j,r⟩
       ·clear q
        go_wp2_with fail
        go_quiet (fail)
        go_wp2_with fail;go_roundw
        case rel=>exact⟨a+1,by omega,by go_num,S,ae (below_drewN e.o _)⟩
        case measure=>simp[intOf];omega
       ·obtain⟨z2,ag⟩:=q c j
        have ai:(c:Int)<(n:Int):=(by omega);have ak:¬(c:Int)<0:=(by omega);have aa:Sz ((Value.int .i64 c=int i64 (-1)/\∀c,c<a+1->op.getD c false=false)\/∃y:Nat,Value.int .i64 c=int i64 y/\y<n/\op.getD y false=true):=ae (.inr ⟨c,rfl,j,r⟩);clear q r m;by_cases y:z2<z1
        ·go_wp2_with fail
         go_quiet (fail)
         go_wp2_with fail;go_roundw
         case rel=>exact⟨a+1,by omega,by go_num,S,ae (below_drewN e.o _)⟩
         case measure=>simp[intOf];omega
        ·go_wp2_with fail
         go_quiet (fail)
         go_wp2_with fail;go_roundw
         case rel=>exact⟨a+1,by omega,by go_num,aa,ae (below_drewN e.o _)⟩
         case measure=>simp[intOf];omega
    ·obtain rfl:a=n:=by omega
     obtain⟨c,rfl,j,r⟩:∃c:Nat,_=Value.int .i64 c/\c<a/\op.getD c false=true:=by
      rcases m.o with⟨R,v⟩ | h
      ·obtain⟨c,s,q⟩:=X.o
       rw[v c s] at q;exact Bool.noConfusion q
      ·exact h
     clear m;go_wp2_with fail;go_ret;exact⟨⟨c,rfl,j,r⟩,b.o.trans (e.o.mono b.o.size)⟩
structure PlInv (n:Nat) (L:List SC) (op us:List Bool) (St:List (Nat×Nat)) (De:SC):Prop where
 ol:op.length=n
 ul:us.length=L.length
 step:∀(k r c:Nat),St[k]? =some (r,c)->r<L.length/\c∈L.getD r []/\∀d∈L.getD r [],d≠c->d∈De\/∃k' r',k'<k/\St[k']? =some (r',d)
 used:∀r,r<L.length->(us.getD r false=true↔r∈St.map Prod.fst)
 opn:∀c,c<n->(op.getD c false=false↔c∈St.map Prod.snd\/c∈De)
 lt:∀c,c∈St.map Prod.snd\/c∈De->c<n
 rows:(St.map Prod.fst).Nodup
 cols:(St.map Prod.snd++De).Nodup
 nodead:∀c∈De,∀r,r<L.length->L.getD r []≠[c]
theorem xX{n c:Nat}:(replicate n false).getD c false=false:=by
 rw[af,List.getElem?_replicate];split <;> rfl
theorem yF{n c:Nat}(a:c<n):(replicate n true).getD c false=true:=by
 rw[af,List.getElem?_replicate,bu a];rfl
theorem PlInv.begin(n:Nat)(L:List SC):PlInv n L (replicate n true) (replicate L.length false) [] [] where
 ol:=aJ
 ul:=aJ
 step:=λd c b a=>by simp at a
 used:=λc d=>by rw[xX];simp
 opn:=λb c=>by rw[yF c];simp
 lt:=λb a=>by simp at a
 rows:=by simp
 cols:=by simp
 nodead:=λb a=>by simp at a
theorem pY{l:List Bool}{i j:Nat}{b:Bool}(a:i<l.length):(l.set i b).getD j false=if i=j then b else l.getD j false:=by
 rw[af,List.getElem?_set,af];split
 ·rename_i c;subst c;simp[]
 ·rfl
theorem PlInv.told{n:Nat}{L:List SC}{op o:List Bool}{St:List (Nat×Nat)}{De:SC}(d:PlInv n L op o St De)(u:∀x∈L,∀c∈x,c<n){r c:Nat}(j:r<L.length)(v:o.getD r false=false)(w:iI op (L.getD r [])=[c]):
 PlInv n L (op.set c false) (o.set r true) (St++[(r,c)]) De:=by
 have y:L.getD r []∈L:=by rw[af,ah j];exact aQ j
 have D:c∈iI op (L.getD r []):=by rw[w];simp
 obtain⟨z,A⟩:=mem_filter.1 D;have p:c<n:=u _ y c z;have B:¬(c∈St.map Prod.snd\/c∈De):=λb=>by rw[(d.opn c p).2 b] at A;exact Bool.noConfusion A
 have E:r∉St.map Prod.fst:=λb=>by rw[(d.used r j).2 b] at v;exact Bool.noConfusion v
 refine⟨by rw[length_set];exact d.ol,by rw[length_set];exact d.ul,?_,?_,?_,?_,?_,?_,d.nodead⟩
 ·intro l k h e
  rcases bD l St.length with F | G
  ·rw[List.getElem?_append_left F] at e
   obtain⟨a,i,C⟩:=d.step l k h e;refine⟨a,i,λf m q=> ?_⟩;rcases C f m q with g | ⟨s,H,g,t⟩
   ·exact .inl g
   ·exact .inr ⟨s,H,g,by rw[List.getElem?_append_left (by omega)];exact t⟩
  ·rw[List.getElem?_append_right G] at e
   have H:l-St.length=0:=by
    rcases Nat.eq_zero_or_pos (l-St.length) with d | d
    ·exact d
    ·rw[List.getElem?_eq_none (by simp;omega)] at e;cases e
   rw[H] at e;injection e with e;injection e with I J;subst I J;refine⟨j,z,λf m q=> ?_⟩;have K:=u _ y f m
   have M:op.getD f false=false:=by
    cases ho:op.getD f false with
    | false=>rfl
    | true=>
      have:f∈iI op (L.getD r []):=mem_filter.2 ⟨m,ho⟩;rw[w] at this;exact absurd (mem_singleton.1 this) q
   rcases(d.opn f K).1 M with g | g
   ·obtain⟨⟨k,N⟩,t,b⟩:=aZ.1 g
    obtain⟨s,C,O⟩:=bH t;have:N=f:=b;subst this;exact .inr ⟨s,k,by omega,by rw[List.getElem?_append_left C,ah C,O]⟩
   ·exact .inl g
 ·intro k e
  rw[pY (by rw[d.ul];exact j),aU,bF];split
  ·rename_i b;subst b;simp
  ·rename_i b
   rw[d.used k e];constructor
   ·exact .inl
   ·rintro(a | a)
    ·exact a
    ·simp at a;exact absurd a.symm b
 ·intro h e
  rw[pY (by rw[d.ol];exact p),aU,bF];split
  ·rename_i b;subst b;simp
  ·rename_i b
   rw[d.opn h e];constructor
   ·rintro(a | a)
    ·exact .inl (.inl a)
    ·exact .inr a
   ·rintro((a | a) | a)
    ·exact .inl a
    ·simp at a;exact absurd a.symm b
    ·exact .inr a
 ·intro h e
  rw[aU,bF] at e;rcases e with(a | a) | a
  ·exact d.lt h (.inl a)
  ·simp at a;subst a;exact p
  ·exact d.lt h (.inr a)
 ·rw[aU,nodup_append]
  refine⟨d.rows,by simp,λg e h f b=> ?_⟩;simp at f;subst f b;exact E e
 ·have a:=d.cols
  rw[nodup_append] at a;rw[aU,append_assoc,nodup_append];refine⟨a.1,?_,λg e h f b=> ?_⟩
  ·show(c :: De).Nodup
   exact nodup_cons.2 ⟨λb=>B (.inr b),a.2.1⟩
  ·subst b
   rcases bF.1 f with i | i
   ·simp at i;subst i;exact B (.inl e)
   ·exact a.2.2 g e g i rfl
theorem PlInv.dead{n:Nat}{L:List SC}{op g:List Bool}{St:List (Nat×Nat)}{De:SC}(b:PlInv n L op g St De)(t:∀r,r<L.length->g.getD r false=false->(iI op (L.getD r [])).length≠1){c:Nat}(i:c<n)(j:op.getD c false=true):
 PlInv n L (op.set c false) g St (De++[c]):=by
 have p:¬(c∈St.map Prod.snd\/c∈De):=λd=>by rw[(b.opn c i).2 d] at j;exact Bool.noConfusion j
 refine⟨by rw[length_set];exact b.ol,b.ul,?_,b.used,?_,?_,b.rows,?_,?_⟩
 ·intro k h e l
  obtain⟨a,o,q⟩:=b.step k h e l;refine⟨a,o,λm s u=> ?_⟩;rcases q m s u with f | f
  ·exact .inl (mem_append_left _ f)
  ·exact .inr f
 ·intro e f
  rw[pY (by rw[b.ol];exact i),bF];split
  ·rename_i d;subst d;simp
  ·rename_i d
   rw[b.opn e f];constructor
   ·rintro(a | a)
    ·exact .inl a
    ·exact .inr (.inl a)
   ·rintro(a | a | a)
    ·exact .inl a
    ·exact .inr a
    ·simp at a;exact absurd a.symm d
 ·intro e f
  rw[bF] at f;rcases f with a | a | a
  ·exact b.lt e (.inl a)
  ·exact b.lt e (.inr a)
  ·simp at a;subst a;exact i
 ·have a:=b.cols
  rw[<-append_assoc,nodup_append];refine⟨a,by simp,λs q u o d=> ?_⟩;simp at o;subst o d;exact p (bF.1 q)
 ·intro e f r o d
  rcases bF.1 f with a | a
  ·exact b.nodead e a r o d
  ·simp at a
   subst a;cases hu:g.getD r false with
   | false=>
     apply t r o hu;rw[d];unfold iI;rw[filter_cons,bu j,filter_nil];rfl
   | true=>
     obtain⟨⟨h,m⟩,q,u⟩:=aZ.1 ((b.used r o).1 hu);obtain⟨k,l,v⟩:=bH q;have:h=r:=u;subst this;obtain⟨_,s,_⟩:=b.step k h m (by rw[ah l,v]);rw[d] at s;have:=mem_singleton.1 s;subst this;exact p (.inl (aZ.2 ⟨_,q,rfl⟩))
theorem PlInv.done{n:Nat}{L:List SC}{op d:List Bool}{St:List (Nat×Nat)}{De:SC}(a:PlInv n L op d St De)(f:∀c,c<n->op.getD c false=false):
 qE n L St De ((range L.length).filter λb=> !d.getD b false) where
 step:=a.step
 rows:=a.rows
 cols:=a.cols
 all:=λc=>⟨λe=>(a.opn c e).1 (f c e),a.lt c⟩
 left:=by
  refine filter_congr λb g=> ?_;have h:=bG.1 g;have:=a.used b h;cases hu:d.getD b false with
  | true=>
    have e:=this.1 hu;simp[e]
  | false=>
    have e:b∉St.map Prod.fst:=λi=>(by rw[this.2 i] at hu;exact Bool.noConfusion hu);simp;simpa using e
 nodead:=a.nodead
theorem jT{l:SC}{n:Nat}(b:l.Nodup)(c:∀x∈l,x<n):l.length<=n:=by
 induction n generalizing l with
 | zero=>
   cases l with
   | nil=>simp
   | cons x l=>exact absurd (c x (by simp)) (Nat.not_lt_zero x)
 | succ n d=>
   by_cases e:n∈l
   ·have f:=d (b.erase n) λx a=>by
     have g:=b.mem_erase_iff.1 a;have:=c x g.2;have:=g.1;omega
    rw[length_erase_of_mem e] at f;omega
   ·have f:=d b λx a=>by
     have:=c x a;have:x≠n:=λg=>e (g▸a);omega
    omega
def uZ(op:List Bool):Nat:=(op.filter λa=>a).length
theorem DC{op:List Bool}{c:Nat}(a:op.getD c false=true):uZ (op.set c false)<uZ op:=by
 induction op generalizing c with
 | nil=>simp at a
 | cons b op d=>
   cases c with
   | zero=>
     have e:b=true:=a;subst e;simp[uZ]
   | succ c=>
     have:=d (c:=c) (by simpa using a);unfold uZ at this ⊢;rw[set_cons_succ,filter_cons,filter_cons];cases b <;> simp_all
theorem PlInv.count{n:Nat}{L:List SC}{op e:List Bool}{St:List (Nat×Nat)}{De:SC}(a:PlInv n L op e St De):St.length<=L.length/\De.length<=n:=by
 constructor
 ·have f:(St.map Prod.fst).length<=L.length:=jT a.rows λb c=>by
   obtain⟨⟨d,g⟩,h,i⟩:=aZ.1 c;obtain⟨j,k,l⟩:=bH h;have:d=b:=i;subst this;exact(a.step j d g (by rw[ah k,l])).1
  simpa using f
 ·exact jT (nodup_append.1 a.cols).2.1 λb c=>a.lt b (.inr c)
