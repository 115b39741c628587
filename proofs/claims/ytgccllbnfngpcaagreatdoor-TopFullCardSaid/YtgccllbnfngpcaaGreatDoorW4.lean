import Derived.Test.YtgccllbnfngpcaaGreatDoorW3
import Derived.Lib.BitFns
import Derived.Shelf.Small.Bits
import Derived.Shelf.Strconv.Itoa0
import Derived.Shelf.Sort.Plain
import Derived.Test.YtgccllbnfngpcaaGreatDoorProg
import Derived.Sort.Walk7a
import Derived.Sort.OwnSortedInts
set_option linter.unusedVariables false
set_option maxRecDepth 100000
set_option maxHeartbeats 400000000
namespace Go.Proofs.YtgccllbnfngpcaaGreatDoor
open Go.RowKit _root_.Go.Proofs.Tryz List
open Value (int slice pointer bool)
open IntKind (i64)
open Ending (returned)
open Obj (cells)
def dN(p v:Nat->Nat):Nat->Nat
 | 0=>0
 | n+1=>dN p v n ^^^ fm (p n) (v n)
theorem yg(p v:Nat->Nat)(n:Nat):dN p v n<256:=by
 induction n with
 | zero=>exact(by decide:(0:Nat)<256)
 | succ n a=>exact rF a (iC _ _)
theorem Ek(a b c d:Nat):(a ^^^ b) ^^^ (c ^^^ d)=(a ^^^ c) ^^^ (b ^^^ d):=by
 rw[Nat.xor_assoc,Nat.xor_assoc,<-Nat.xor_assoc b c,Nat.xor_comm b c,Nat.xor_assoc c]
theorem OP{p a b:Nat->Nat}{c:Nat}(d:Vb p)(f:Vb a)(g:Vb b)(e:c<256)(n:Nat):dN p (jP c a b) n=dN p b n ^^^ fm c (dN p a n):=by
 induction n with
 | zero=>show 0=0 ^^^ fm c 0;rw[bM];rfl
 | succ n h=>
   show dN p (jP c a b) n ^^^ fm (p n) (b n ^^^ fm c (a n))=(dN p b n ^^^ fm (p n) (b n)) ^^^ fm c (dN p a n ^^^ fm (p n) (a n))
   have i:fm (p n) (fm c (a n))=fm c (fm (p n) (a n)):=by
    rw[<-kX _ _ _ (d n) e (f n),jp (p n) c,kX _ _ _ e (d n) (f n)]
   rw[h,rG (d n) (g n) (iC _ _),rG e (yg _ _ _) (iC _ _),i];exact Ek _ _ _ _
theorem zW(p:Nat->Nat)(n:Nat):dN p vz n=0:=by
 induction n with
 | zero=>rfl
 | succ n a=>show dN p vz n ^^^ fm (p n) 0=0;rw[a,bM];rfl
theorem yh{M:List (Nat->Nat)}(a:∀r∈M,Vb r){p:Nat->Nat}(b:Vb p){n:Nat}(d:∀r∈M,dN p r n=0){v:Nat->Nat}(e:Spn M v):dN p v n=0:=by
 induction e with
 | zero=>exact zW p n
 | add c r v hc hr hs ih=>rw[OP b (a r hr) hs.vb hc,ih,d r hr,bM];rfl
theorem Cf{n:Nat}{T:List PI}(f:Wf n T)(g:∀j,j<T.length->∃p,Vb p/\(∀i,i<j->dN p (vO (T.getD i [])) n=0)/\dN p (vO (T.getD j [])) n≠0):(dS T).length=T.length:=by
 have h:∀j,j<=T.length->(dS (T.take j)).length=j:=by
  intro j
  induction j with
  | zero=>intro _;have:=(kF (show Wf n (T.take 0) from λd b=>by simp at b)).2;simpa using this
  | succ j k=>
    intro x;have c:Wf n (T.take j):=λd b=>f d (bD b);have a:=f.get (i:=j) (by omega)
    have l:T.take (j+1)=T.take j++[T.getD j []]:=by
     rw[aN (by omega),af,ah (by omega)];rfl
    obtain⟨y,m⟩:=J6 c a.1 a.2;have o:=(kF (yO c a.1 a.2)).2;rw[aH,aG,length_singleton] at o;rw[l]
    have z:¬(dS (T.take j++[T.getD j []])).length=(dS (T.take j)).length:=by
     intro e;rw[m] at e;obtain⟨A,q,r⟩:=fF c;rw[q.rest_spn a.1 a.2] at e;obtain⟨p,s,t,u⟩:=g j (by omega);refine u (yh c.vb s (λd b=> ?_) ((r _).2 e));obtain⟨B,v,rfl⟩:=aY.1 b;obtain⟨i,w,rfl⟩:=bC v;rw[aG] at w;have:=t i (by omega);rw[af,ah (by omega)] at this;rw[getElem_take];exact this
    have:=k (by omega);omega
 have:=h T.length (aj _)
 rwa [take_length] at this
theorem sZ{p q v:Nat->Nat}(b:Vb p)(c:Vb q)(d:Vb v)(n:Nat):dN (λa=>p a ^^^ q a) v n=dN p v n ^^^ dN q v n:=by
 induction n with
 | zero=>show(0:Nat)=0 ^^^ 0;decide
 | succ n e=>
   show dN (λa=>p a ^^^ q a) v n ^^^ fm (p n ^^^ q n) (v n)=_;rw[e,mG (b n) (c n) (d n)];exact Ek _ _ _ _
theorem yj{p v:Nat->Nat}{c:Nat}(b:c<256)(d:Vb p)(e:Vb v)(n:Nat):dN (λa=>fm c (p a)) v n=fm c (dN p v n):=by
 induction n with
 | zero=>show 0=fm c 0;rw[bM]
 | succ n f=>
   show dN (λa=>fm c (p a)) v n ^^^ fm (fm c (p n)) (v n)=fm c (dN p v n ^^^ fm (p n) (v n));rw[f,rG b (yg _ _ _) (iC _ _),kX _ _ _ b (d n) (e n)]
def jQ(n:Nat):Nat->List PI
 | 0=>[]
 | k+1=>jQ n k++[dO n k]
theorem lD(n k:Nat):(jQ n k).length=k:=by
 induction k with
 | zero=>rfl
 | succ k a=>rw[jQ,aH,a];rfl
theorem nH(n k:Nat):Wf n (jQ n k):=by
 induction k with
 | zero=>intro b a;simp[jQ] at a
 | succ k a=>exact yO a (gP _ _) (ng _ _)
theorem pu(n k:Nat){i:Nat}(c:i<k):(jQ n k).getD i []=dO n i:=by
 induction k with
 | zero=>omega
 | succ k b=>
   rw[jQ,af,List.getElem?_append,lD];by_cases a:i<k
   ·rw[bg a,<-af];exact b a
   ·obtain rfl:i=k:=by omega
    simp
theorem jR(v:Nat->Nat)(c:Vb v)(k:Nat):∀n,dN (λa=>if a=k then 1 else 0) v n=if k<n then v k else 0:=by
 intro n
 induction n with
 | zero=>rfl
 | succ n d=>
   show dN _ v n ^^^ fm (if n=k then 1 else 0) (v n)=_;rw[d];by_cases a:n=k
   ·subst a
    rw[bg rfl,bh (by omega),bg (by omega),iP _ (c n),Nat.zero_xor]
   ·rw[bh a,dE,Nat.xor_zero]
    by_cases b:k<n
    ·rw[bg b,bg (by omega)]
    ·rw[bh b,bh (by omega)]
theorem tF(k:Nat):Vb λa=>if a=k then 1 else 0:=λa=>by show(if a=k then 1 else 0)<256;split <;> decide
theorem AZ(n:Nat):(dS (jQ n n)).length=n:=by
 have d:=Cf (nH n n) λa b=>by
  rw[lD] at b;refine⟨_,tF a,λc e=> ?_,?_⟩
  ·rw[pu n n (by omega),jR _ (gV (ng n c)),bg b]
   show(dO n c).getD a 0=0;rw[mr,bh (by omega)]
  ·rw[pu n n b,jR _ (gV (ng n a)),bg b]
   show(dO n a).getD a 0≠0;rw[mr,bg ⟨rfl,b⟩];decide
 rw[d,lD]
theorem Dw{n:Nat}{a:List PI}(c:Wf n a):(dS (a++jQ n n)).length=n:=by
 have b:=Du c (nH n n);have f:=(kF b).1;have d:=xX (nH n n) b λg e=>e.sub λg e=>by rw[aU];exact mem_append_right _ e
 rw[AZ] at d;omega
structure oI (n:Nat) (l:List PI) (St:List (Nat×Nat)) (De Le:PI):Prop where
 step:∀(k r c:Nat),St[k]? =some (r,c)->r<l.length/\c∈l.getD r []/\∀d∈l.getD r [],d≠c->d∈De\/∃k' r',k'<k/\St[k']? =some (r',d)
 rows:(St.map Prod.fst).Nodup
 cols:(St.map Prod.snd++De).Nodup
 all:∀c,c<n↔c∈St.map Prod.snd\/c∈De
 left:Le=(range l.length).filter fun i=> !(St.map Prod.fst).contains i
 nodead:∀c∈De,∀r,r<l.length->l.getD r []≠[c]
def jd(W:Nat->PI)(c:Nat)(x:PI):Nat->PI:=λa=>if a=c then x else W a
theorem lh(W:Nat->PI)(c:Nat)(x:PI):jd W c x c=x:=bg rfl
theorem jX(W:Nat->PI){c d:Nat}(x:PI)(a:d≠c):jd W c x d=W d:=bh a
def others(l:List PI)(r c:Nat):PI:=(l.getD r []).filter λa=> !(a == c)
def dh(l:List PI)(z:Nat->PI)(W:Nat->PI):List (Nat×Nat)->Nat->PI
 | []=>W
 | (r,c) :: St=>dh l z (jd W c (bR W (others l r c) (z r))) St
theorem zJ(l:List PI)(z:Nat->PI):∀(a B:List (Nat×Nat)) (W:Nat->PI),dh l z W (a++B)=dh l z (dh l z W a) B:=by
 intro a
 induction a with
 | nil=>intro B W;rfl
 | cons b a c=>intro B W;obtain⟨d,e⟩:=b;exact c B _
theorem kG(l:List PI)(z:Nat->PI)(a:List (Nat×Nat))(r c:Nat)(W:Nat->PI):dh l z W (a++[(r,c)])=jd (dh l z W a) c (bR (dh l z W a) (others l r c) (z r)):=by rw[zJ];rfl
def comes(D:Nat)(v:Nat->Nat->Nat)(w:PI)(j:Nat):Nat:=dN (vO w) (λa=>v a j) D
theorem zK{D:Nat}{v:Nat->Nat->Nat}{a b:PI}(c:∀i j,v i j<256)(d:a.length=b.length)(e:∀x∈a,x<256)(f:∀x∈b,x<256)(j:Nat):comes D v (xr a b) j=comes D v a j ^^^ comes D v b j:=by
 unfold comes;rw[<-sZ (gV e) (gV f) λi=>c i j];congr 1;funext i;exact lS d i
theorem jF(D:Nat)(v:Nat->Nat->Nat)(k j:Nat):comes D v (replicate k 0) j=0:=by
 unfold comes
 have d:vO (replicate k 0)=λ_=>0:=by
  funext a;show(replicate k 0).getD a 0=0;rw[af,List.getElem?_replicate];split <;> rfl
 rw[d];generalize (λa=>v a j)=b
 induction D with
 | zero=>rfl
 | succ c e=>show dN _ b c ^^^ fm 0 (b c)=0;rw[e,dE];rfl
def Byt(D:Nat)(w:PI):Prop:=w.length=D/\∀a∈w,a<256
theorem Byt.xr{D:Nat}{a b:PI}(c:Byt D a)(d:Byt D b):Byt D (Go.Proofs.YtgccllbnfngpcaaGreatDoor.xr a b):=⟨by rw[jB (by rw[c.1,d.1])];exact c.1,xr_lt c.2 d.2⟩
theorem Byt.zero(D:Nat):Byt D (replicate D 0):=⟨aI,λb a=>by rw[eq_of_mem_replicate a];decide⟩
theorem dF{D:Nat}{W:Nat->PI}:∀ {cols:PI} {z:PI},Byt D z->(∀c∈cols,Byt D (W c))->Byt D (bR W cols z):=by
 intro cols
 induction cols with
 | nil=>intro z a _;exact a
 | cons c cols d=>intro z a b;exact d (a.xr (b c (by simp))) λe f=>b e (by simp[f])
theorem oJ{D:Nat}{v:Nat->Nat->Nat}(e:∀i j,v i j<256)(j:Nat){W:Nat->PI}:∀ {cols:PI} {z:PI},Byt D z->(∀c∈cols,Byt D (W c))->
 comes D v (bR W cols z) j=comes D v z j ^^^ sX (λc j=>comes D v (W c) j) j cols:=by
 intro cols
 induction cols with
 | nil=>intro z _ _;exact(Nat.xor_zero _).symm
 | cons c cols f=>
   intro z a d;have b:=d c (by simp);show comes D v (bR W cols (Go.Proofs.YtgccllbnfngpcaaGreatDoor.xr z (W c))) j=_;rw[f (a.xr b) λg h=>d g (by simp[h]),zK e (by rw[a.1,b.1]) a.2 b.2,Nat.xor_assoc];rfl
theorem LZ{D Z:Nat}{l:List PI}{St:List (Nat×Nat)}{De:PI}
 (P:∀(k r c:Nat),St[k]? =some (r,c)->r<l.length/\c∈l.getD r []/\∀d∈l.getD r [],d≠c->d∈De\/∃h o,h<k/\St[h]? =some (o,d))(B:∀r,(l.getD r []).Nodup){W0 M0:Nat->PI}{z:Nat->PI}
 (m v:Nat->Nat->Nat)(C:∀i j,v i j<256)(s:∀r,r<l.length->Byt Z (z r))(E:∀r j,r<l.length->sX m j (l.getD r [])=(z r).getD j 0)
 (F:∀c∈De,Byt D (W0 c)/\Byt Z (M0 c)/\∀j,m c j=comes D v (W0 c) j ^^^ (M0 c).getD j 0):
 ∀k,k<=St.length->∀c,c∈De\/c∈(St.take k).map Prod.snd->
  Byt D (dh l (λ_=>replicate D 0) W0 (St.take k) c)/\Byt Z (dh l z M0 (St.take k) c)/\∀j,m c j=comes D v (dh l (λ_=>replicate D 0) W0 (St.take k) c) j ^^^ (dh l z M0 (St.take k) c).getD j 0:=by
 intro k
 induction k with
 | zero=>
   intro _ c b;rcases b with b | b
   ·exact F c b
   ·simp at b
 | succ k g=>
   intro U c b;have t:k<St.length:=(by omega);obtain⟨r,d,u⟩:∃r d,St[k]=(r,d):=⟨_,_,rfl⟩;have G:St[k]? =some (r,d):=(by rw[ah t,u]);have w:St.take (k+1)=St.take k++[(r,d)]:=(by rw[aN t,u]);obtain⟨p,H,I⟩:=P k r d G;have g:=g (by omega)
   have q:∀a∈others l r d,a∈De\/a∈(St.take k).map Prod.snd:=λa e=>by
    obtain⟨J,K⟩:=mem_filter.1 e;have L:a≠d:=(by simpa using K);rcases I a J L with M | ⟨h,o,N,O⟩
    ·exact .inl M
    ·right
     refine aY.2 ⟨(o,a),?_,rfl⟩;refine mem_of_getElem? (i:=h) ?_;rw[List.getElem?_take,bg N];exact O
   rw[w,kG,kG];by_cases n:c=d
   ·subst n
    rw[lh,lh];have x:∀a∈others l r c,Byt D (dh l (λ_=>replicate D 0) W0 (St.take k) a):=λa e=>(g a (q a e)).1;have y:∀a∈others l r c,Byt Z (dh l z M0 (St.take k) a):=λa e=>(g a (q a e)).2.1;refine⟨dF (Byt.zero D) x,dF (s r p) y,λj=> ?_⟩;rw[oJ C j (Byt.zero D) x,jF,Nat.zero_xor,iQ j (s r p).1 λa e=>(y a e).1];have A:=E r j p;rw[IC H (B r)] at A
    have Q:sX m j (others l r c)=sX (λc j=>comes D v (dh l (λ_=>replicate D 0) W0 (St.take k) c) j) j (others l r c) ^^^ sX (λc j=>(dh l z M0 (St.take k) c).getD j 0) j (others l r c):=by
     have:∀(f:PI),(∀a∈f,m a j=comes D v (dh l (λ_=>replicate D 0) W0 (St.take k) a) j ^^^ (dh l z M0 (St.take k) a).getD j 0)->
      sX m j f=sX (λc j=>comes D v (dh l (λ_=>replicate D 0) W0 (St.take k) c) j) j f ^^^ sX (λc j=>(dh l z M0 (St.take k) c).getD j 0) j f:=by
      intro f
      induction f with
      | nil=>intro _;simp[sX]
      | cons a f R=>
        intro e;show m a j ^^^ sX m j f=(_ ^^^ _) ^^^ (_ ^^^ _);rw[e a (by simp),R λS T=>e S (by simp[T])]
        dsimp only
        generalize comes D v (dh l (λ_=>replicate D 0) W0 (St.take k) a) j=S;generalize (dh l z M0 (St.take k) a).getD j 0=T;generalize sX (λc j=>comes D v (dh l (λ_=>replicate D 0) W0 (St.take k) c) j) j f=V;generalize sX (λc j=>(dh l z M0 (St.take k) c).getD j 0) j f=W
        ac_rfl
     exact this _ λa e=>(g a (q a e)).2.2 j
    have a:m c j=(z r).getD j 0 ^^^ sX m j (others l r c):=by
     rw[<-A];show m c j=(m c j ^^^ sX m j (others l r c)) ^^^ sX m j (others l r c);rw[Nat.xor_assoc,Nat.xor_self,Nat.xor_zero]
    rw[a,Q];generalize sX (λc j=>comes D v (dh l (λ_=>replicate D 0) W0 (St.take k) c) j) j (others l r c)=S;generalize sX (λc j=>(dh l z M0 (St.take k) c).getD j 0) j (others l r c)=T
    ac_rfl
   ·rw[jX _ _ n,jX _ _ n]
    refine g c ?_;rcases b with b | b
    ·exact .inl b
    ·right
     rw[w,aU] at b;rcases bz.1 b with b | b
     ·exact b
     ·exact absurd (by simpa using b) n
theorem D6{p q v:Nat->Nat}:∀ {n:Nat},(∀c,c<n->fm (p c) (v c)=fm (q c) (v c))->dN p v n=dN q v n:=by
 intro n
 induction n with
 | zero=>intro _;rfl
 | succ n b=>intro a;show dN p v n ^^^ fm (p n) (v n)=dN q v n ^^^ fm (q n) (v n);rw[b λc d=>a c (by omega),a n (by omega)]
theorem IM{ls:PI}{n:Nat}(e:ls.length<n):∃f,f<n/\f∉ls:=by
 apply Classical.byContradiction;intro a;have b:∀f,f∈range n->f∈ls:=λf c=>Classical.byContradiction λd=>a ⟨f,bA.1 c,d⟩;have:=(nodup_range (n:=n)).length_le_of_subset b;rw[aZ] at this;omega
theorem kernel{n:Nat}{g:List PI}(t:Wf n g)(L:(dS g).length<n):∃p:Nat->Nat,Vb p/\(∃f,f<n/\p f=1)/\∀r∈g,dN p (vO r) n=0:=by
 obtain⟨ls,e,z⟩:=fF t;have M:(dS g).length=ls.length:=by have:=e.red.len;rwa [aC] at this
 obtain⟨f,u,A⟩:=IM (ls:=ls) (n:=n) (by omega);generalize dS g=c at*;have B:ls.Nodup:=e.red.up.imp λh=>Nat.ne_of_lt h
 have v:∀a,(c.getD a []).getD f 0<256:=λa=>by
  rcases bq a c.length with h | h
  ·exact getD_lt (e.wf.get h).2 f
  ·have i:c.getD a []=[]:=by rw[af,List.getElem?_eq_none h];rfl
   rw[i];show(0:Nat)<256;decide
 obtain⟨d,j⟩:∃d:Nat->Nat,d=λb=>if b∈ls then (c.getD (ls.idxOf b) []).getD f 0 else 0:=⟨_,rfl⟩;have m:Vb d:=λb=>by rw[j];show(if b∈ls then _ else 0)<256;split;exact v _;decide
 have C:d f=0:=by rw[j];exact bh A
 refine⟨λb=>(if b=f then 1 else 0) ^^^ d b,λb=> ?_,⟨f,u,?_⟩,λr D=> ?_⟩
 ·exact Nat.xor_lt_two_pow (n:=8) (by split <;> decide) (m b)
 ·show(if f=f then 1 else 0) ^^^ d f=1
  rw[bg rfl,C];rfl
 ·have E:∀k∈c.map vO,dN (λb=>(if b=f then 1 else 0) ^^^ d b) k n=0:=by
   intro k F;obtain⟨a,w,rfl⟩:=bC F;rw[aC] at w;have G:a<ls.length:=(by omega);have l:Vb (c.map vO)[a]:=e.red.byt _ (aQ _);rw[sZ (tF f) m l,jR _ l,bg u];have H:(c.map vO)[a]=vO (c.getD a []):=(by rw[getElem_map,af,ah w];rfl);have x:(c.map vO)[a]? =some (c.map vO)[a]:=ah _;have I:ls[a]? =some ls[a]:=ah G;have o:=v a
   have i:dN d (c.map vO)[a] n=dN (λb=>fm ((c.getD a []).getD f 0) (if b=ls[a] then 1 else 0)) (c.map vO)[a] n:=by
    refine D6 λb N=> ?_;by_cases q:b=ls[a]
    ·subst q
     rw[bg rfl,o6 _ o];congr 1;rw[j];show(if ls[a]∈ls then _ else 0)=_;rw[bg (aQ _),B.idxOf_getElem]
    ·rw[bh q,bM,dE]
     by_cases y:b∈ls
     ·obtain⟨s,J,rfl⟩:=bC y
      have K:a≠s:=λi=>q (by subst i;rfl);have:=e.red.zero s a (c.map vO)[a] ls[s] x (ah J) K;rw[this,bM]
     ·have:d b=0:=by rw[j];exact bh y
      rw[this,dE]
   rw[i,yj o (tF _) l,jR _ l,bg (e.lt _ (aQ _)),e.red.one a _ _ x I,o6 _ o,H];exact Nat.xor_self _
  have s:∀k∈c.map vO,Vb k:=e.red.byt;exact yh s (λb=>Nat.xor_lt_two_pow (n:=8) (by split <;> decide) (m b)) E ((z _).1 (Spn.mem t.vb (mem_map_of_mem D)))
theorem zD{n:Nat}{d:List PI}(b:Wf n d)(c:(dS d).length=n){p:Nat->Nat}(h:Vb p)(g:∀r∈d,dN p (vO r) n=0):∀k,k<n->p k=0:=by
 intro k e;have i:=nH n n;have m:=um b (Du b i) (λf a=>a.sub λr c=>by rw[aU];exact mem_append_left _ c) (by rw[Dw b,c];exact aj _)
 have o:dO n k∈d++jQ n n:=by
  refine mem_append_right _ ?_;have:=pu n n e;rw[<-this];have j:k<(jQ n n).length:=(by rw[lD];exact e);rw[af,ah j];exact aQ j
 have q:=(m (vO (dO n k))).2 (Spn.mem (Du b i).vb (mem_map_of_mem o))
 have l:=yh b.vb h (λf a=>by
  obtain⟨r,c,rfl⟩:=aY.1 a;exact g r c) q
 have s:dN p (vO (dO n k)) n=dN (λf=>if f=k then 1 else 0) p n:=by
  have:∀a,a<=n->dN p (vO (dO n k)) a=dN (λf=>if f=k then 1 else 0) p a:=by
   intro a
   induction a with
   | zero=>intro _;rfl
   | succ a t=>
     intro u;show dN p _ a ^^^ fm (p a) ((dO n k).getD a 0)=dN _ p a ^^^ fm (if a=k then 1 else 0) (p a);rw[t (by omega),mr,jp];congr 2;by_cases f:a=k
     ·rw[bg f,bg ⟨f,e⟩]
     ·rw[bh f,bh λg=>f g.1]
  exact this n (aj _)
 rw[s,jR _ h,bg e] at l;exact l
structure zx (n:Nat) (known:Nat->Bool) (l:List PI) (St:List (Nat×Nat)) (De Le:PI):Prop where
 step:∀(k r c:Nat),St[k]? =some (r,c)->r<l.length/\c∈l.getD r []/\∀d∈l.getD r [],d≠c->d∈De\/∃k' r',k'<k/\St[k']? =some (r',d)
 cols:(St.map Prod.snd++De).Nodup
 all:∀c,c<n->(known c=false↔c∈St.map Prod.snd\/c∈De)
 bd:∀c,c∈St.map Prod.snd\/c∈De->c<n
 left:∀i,i∈Le↔i<l.length/\i∉St.map Prod.fst
theorem qO(l:List PI)(z:Nat->PI):∀(St:List (Nat×Nat)) (W:Nat->PI) (c:Nat),c∉St.map Prod.snd->dh l z W St c=W c:=by
 intro St
 induction St with
 | nil=>intro W c _;rfl
 | cons e St f=>
   intro W c a;obtain⟨i,b⟩:=e;have g:c≠b:=λd=>a (by simp[d]);have h:c∉St.map Prod.snd:=λd=>a (by simp[aY] at d ⊢;exact .inr d);show dh l z (jd W b _) St c=W c;rw[f _ c h,jX _ _ g]
theorem tL{m a:Nat->PI}:∀ {cols:PI} {z:PI},(∀c∈cols,m c=a c)->bR m cols z=bR a cols z:=by
 intro cols
 induction cols with
 | nil=>intro z _;rfl
 | cons c cols d=>intro z b;show bR m cols (xr z (m c))=bR a cols (xr z (a c));rw[b c (by simp)];exact d λe f=>b e (by simp[f])
theorem LH{n:Nat}{known:Nat->Bool}{l:List PI}{St:List (Nat×Nat)}{De Le:PI}(P:zx n known l St De Le)(z:Nat->PI)(W0:Nat->PI){k r c:Nat}(hs:St[k]? =some (r,c)):
 dh l z W0 St c=bR (dh l z W0 St) (others l r c) (z r):=by
 obtain⟨C,h⟩:=List.getElem?_eq_some_iff.1 hs;have b:St=St.take k++(r,c) :: St.drop (k+1):=by rw[<-h,getElem_cons_drop,take_append_drop]
 have j:(St.map Prod.snd).Nodup:=(nodup_append.1 P.cols).1;have d:=j;rw[b,aU,map_cons] at d;obtain⟨D,m,o⟩:=nodup_append.1 d;obtain⟨p,E⟩:=nodup_cons.1 m
 have e:∀a,dh l z W0 St a=dh l z (jd (dh l z W0 (St.take k)) c (bR (dh l z W0 (St.take k)) (others l r c) (z r))) (St.drop (k+1)) a:=λa=>by
  conv=>lhs;rw[b]
  rw[zJ];rfl
 rw[e c,qO _ _ _ _ _ p,lh];refine tL λa q=> ?_;obtain⟨s,t⟩:=mem_filter.1 q;have f:a≠c:=by simpa using t
 rw[e a];have u:a∉(St.drop (k+1)).map Prod.snd:= ?_
 ·rw[qO _ _ (St.drop (k+1)) _ a u,jX _ _ f]
 intro g;rcases(P.step k r c hs).2.2 a s f with v | ⟨w,x,y,A⟩
 ·have B:a∈St.map Prod.snd:=by rw[b,aU,map_cons];exact mem_append_right _ (mem_cons_of_mem _ g)
  exact(nodup_append.1 P.cols).2.2 a B a v rfl
 ·have:a∈(St.take k).map Prod.snd:=aY.2 ⟨(x,a),mem_of_getElem? (i:=w) (by rw[List.getElem?_take,bg y];exact A),rfl⟩
  exact o a this a (mem_cons_of_mem _ g) rfl
theorem EW{n D:Nat}{known:Nat->Bool}{l:List PI}{St:List (Nat×Nat)}{De Le:PI}(P:zx n known l St De Le)(k:∀r,(l.getD r []).Nodup)(f:∀r,∀c∈l.getD r [],c<n/\known c=false)
 {W0:Nat->PI}(m:∀c,c<n->known c=false->Byt D (dh l (λ_=>replicate D 0) W0 St c)){p:Nat->Nat}(o:Vb p)
 (q:∀r∈Le,dN p (vO (bR (dh l (λ_=>replicate D 0) W0 St) (l.getD r []) (replicate D 0))) D=0):
 ∀r,r<l.length->sX (λc _=>dN p (vO (dh l (λ_=>replicate D 0) W0 St c)) D) 0 (l.getD r [])=0:=by
 have g:∀(b:PI),Byt D b->dN p (vO b) D=comes D (λd _=>p d) b 0:=λb a=>by
  unfold comes
  have:∀a,dN p (vO b) a=dN (vO b) (λd=>p d) a:=by
   intro a
   induction a with
   | zero=>rfl
   | succ a e=>show dN p (vO b) a ^^^ fm (p a) (vO b a)=dN (vO b) _ a ^^^ fm (vO b a) (p a);rw[e,jp]
  exact this D
 have s:∀d b:Nat,(λd (_:Nat)=>p d) d b<256:=λd b=>o d
 have h:∀b:PI,(∀c∈b,c<n/\known c=false)->dN p (vO (bR (dh l (λ_=>replicate D 0) W0 St) b (replicate D 0))) D=sX (λc _=>dN p (vO (dh l (λ_=>replicate D 0) W0 St c)) D) 0 b:=λb d=>by
  have e:∀c∈b,Byt D (dh l (λ_=>replicate D 0) W0 St c):=λc b=>m c (d c b).1 (d c b).2;rw[g _ (dF (Byt.zero D) e),oJ s 0 (Byt.zero D) e,jF,Nat.zero_xor];exact lT λc b=>(g _ (e c b)).symm
 intro r t;by_cases i:r∈St.map Prod.fst
 ·obtain⟨⟨b,c⟩,u,rfl⟩:=aY.1 i
  obtain⟨v,j⟩:=List.getElem?_of_mem u;have w:=LH P (λ_=>replicate D 0) W0 j;obtain⟨_,x,_⟩:=P.step v b c j;show sX _ 0 (l.getD b [])=0;rw[IC x (k b)];have y:∀d∈others l b c,d<n/\known d=false:=λd z=>f b d (mem_filter.1 z).1;have d:=h (others l b c) y;rw[<-w] at d;show dN p (vO (dh l (λ_=>replicate D 0) W0 St c)) D ^^^ sX _ 0 (others l b c)=0;rw[d,Nat.xor_self]
 ·have b:r∈Le:=(P.left r).2 ⟨t,i⟩
  rw[<-h _ (f r)];exact q r b
theorem fP(p q:Nat->Nat)(n:Nat):dN p q n=dN q p n:=by
 induction n with
 | zero=>rfl
 | succ n a=>show dN p q n ^^^ fm (p n) (q n)=dN q p n ^^^ fm (q n) (p n);rw[a,jp]
def dH(W:Nat->PI)(row z:PI):Nat->PI | 0=>z | k+1=>xr (dH W row z k) (kE (row.getD k 0) (W k))
theorem tj{D:Nat}{w:PI}(c:Nat)(b:w.length=D):Byt D (kE c w):=by
 refine⟨by rw[qE];exact b,λd a=> ?_⟩;unfold kE at a;obtain⟨e,_,rfl⟩:=aY.1 a;exact iC _ _
theorem fA{D:Nat}{W:Nat->PI}{row z:PI}(b:Byt D z):∀k,(∀c,c<k->(W c).length=D)->Byt D (dH W row z k):=by
 intro k
 induction k with
 | zero=>intro _;exact b
 | succ k d=>intro a;exact(d λc e=>a c (by omega)).xr (tj _ (a k (by omega)))
theorem OQ{D:Nat}{p:Nat->Nat}(e:Vb p){a b:PI}(c:Byt D a)(d:Byt D b):dN p (vO (xr a b)) D=dN p (vO a) D ^^^ dN p (vO b) D:=by
 rw[fP,fP p (vO a),fP p (vO b),<-sZ (gV c.2) (gV d.2) e];congr 1;funext f;exact lS (by rw[c.1,d.1]) f
theorem Mi{D:Nat}{p:Nat->Nat}(a:Vb p){c:Nat}(b:c<256){w:PI}(d:Byt D w):dN p (vO (kE c w)) D=fm c (dN p (vO w) D):=by
 rw[fP,fP p (vO w),<-yj b (gV d.2) a];congr 1;funext e;exact jl c w e
theorem wZ(p:Nat->Nat)(D k:Nat):dN p (vO (replicate k 0)) D=0:=by
 have a:vO (replicate k 0)=vz:=by
  funext b;show(replicate k 0).getD b 0=0;rw[af,List.getElem?_replicate];split <;> rfl
 rw[a,zW]
theorem JD{D:Nat}{W:Nat->PI}{p:Nat->Nat}(b:Vb p){row:PI}(d:∀x∈row,x<256):∀k,(∀c,c<k->Byt D (W c))->dN p (vO (dH W row (replicate D 0) k)) D=dN (vO row) (λc=>dN p (vO (W c)) D) k:=by
 intro k
 induction k with
 | zero=>intro _;exact wZ p D D
 | succ k e=>
   intro a;have f:Byt D (dH W row (replicate D 0) k):=fA (Byt.zero D) k λc g=>(a c (by omega)).1;show dN p (vO (xr (dH W row (replicate D 0) k) (kE (row.getD k 0) (W k)))) D=dN (vO row) _ k ^^^ fm (vO row k) (dN p (vO (W k)) D);rw[OQ b f (tj _ (a k (by omega)).1),e λc g=>a c (by omega),Mi b (c:=row.getD k 0) (gV d k) (a k (by omega))];rfl
theorem uL{n:Nat}{q:Nat->Nat}(e:Vb q){row:PI}:∀ {cols:PI},cols.Nodup->(∀c∈cols,c<n)->(∀i,i<n->row.getD i 0=if i∈cols then 1 else 0)->dN q (vO row) n=sX (λc _=>q c) 0 cols:=by
 intro cols g f a
 have d:dN q (vO row) n=dN (λi=>if i∈cols then 1 else 0) q n:=by
  rw[fP];refine D6 λi b=> ?_;show fm (row.getD i 0) (q i)=_;rw[a i b]
 rw[d];clear d a
 induction cols with
 | nil=>
   have:∀a,dN (λi=>if i∈([]:PI) then 1 else 0) q a=0:=λa=>by
    induction a with
    | zero=>rfl
    | succ a d=>show dN _ q a ^^^ fm (if a∈([]:PI) then 1 else 0) (q a)=0;rw[d,bh (by simp),dE];rfl
   exact this n
 | cons c cols d=>
   obtain⟨h,j⟩:=nodup_cons.1 g
   have k:(λi=>if i∈c :: cols then 1 else 0)=λi=>(if i=c then 1 else 0) ^^^ (if i∈cols then 1 else 0):=by
    funext i;by_cases b:i=c
    ·subst b;rw[bg mem_cons_self,bg rfl,bh h];rfl
    ·rw[bh b]
     by_cases a:i∈cols
     ·rw[bg (mem_cons_of_mem _ a),bg a];rfl
     ·rw[bh (λl=>(mem_cons.1 l).elim b a),bh a];rfl
   rw[k,sZ (tF c) (λi=>by show(if i∈cols then 1 else 0)<256;split <;> decide) e,jR q e,bg (f c (by simp)),d j λa l=>f a (by simp[l])];rfl
theorem Ci{n D:Nat}{known:Nat->Bool}{l:List PI}{St:List (Nat×Nat)}{De Le:PI}(P:zx n known l St De Le)(U:De.length=D)(z:∀r,(l.getD r []).Nodup)(j:∀r,∀c∈l.getD r [],c<n/\known c=false)
 {W0 W:Nat->PI}(A:∀i,i<D->W0 (De.getD i 0)=dO D i)(w:∀c,c<n->W c=if known c then replicate D 0 else dh l (λ_=>replicate D 0) W0 St c)(o:∀c,c<n->Byt D (W c))
 {m:List PI}(B:Wf n m){E:List PI}{F:List PI}(C:∀cols∈E,cols.Nodup/\(∀c∈cols,c<n)/\(cols.filter (λc=> !known c)=[]\/∃r,r<l.length/\l.getD r []=cols.filter λc=> !known c))
 (G:Wf n F)(H:∀r∈F,r∈m\/∃cols∈E,∀i,i<n->r.getD i 0=if i∈cols then 1 else 0)(I:(dS F).length=n):
 (dS (Le.map (λr=>bR W (l.getD r []) (replicate D 0))++m.map λb=>dH W b (replicate D 0) n)).length=D:=by
 have p:∀c,c<n->known c=false->W c=dh l (λ_=>replicate D 0) W0 St c:=λc e f=>by rw[w c e,f];rfl
 have q:Wf D (Le.map (λr=>bR W (l.getD r []) (replicate D 0))++m.map λb=>dH W b (replicate D 0) n):=by
  intro r g;rcases bz.1 g with g | g
  ·obtain⟨i,_,rfl⟩:=aY.1 g
   exact dF (Byt.zero D) λc a=>o c (j i c a).1
  ·obtain⟨b,_,rfl⟩:=aY.1 g
   exact fA (Byt.zero D) n λc a=>(o c a).1
 have V:=(kF q).2;have X:=(kF q).1;rcases bq (dS (Le.map (λr=>bR W (l.getD r []) (replicate D 0))++m.map λb=>dH W b (replicate D 0) n)).length D with J | Y
 ·exfalso
  obtain⟨b,s,⟨d,t,K⟩,x⟩:=kernel q J;have y:Vb λc=>dN b (vO (W c)) D:=λc=>yg _ _ _
  have L:=EW P z j (W0:=W0) (D:=D) (λc e f=>by rw[<-p c e f];exact o c e) s (λr g=>by
   have:=x (bR W (l.getD r []) (replicate D 0)) (mem_append_left _ (mem_map_of_mem g))
   rwa [tL λc a=>p c (j r c a).1 (j r c a).2] at this)
  have M:=zD G I y λr g=>by
   rcases H r g with h | ⟨cols,a,N⟩
   ·have e:=x (dH W r (replicate D 0) n) (mem_append_right _ (mem_map_of_mem h))
    rw[JD s (B r h).2 n o] at e;rw[fP];exact e
   ·obtain⟨e,f,u⟩:=C cols a
    rw[uL y e f N,qP _ 0 known cols]
    have O:sX (λc (_:Nat)=>dN b (vO (W c)) D) 0 (cols.filter known)=0:=by
     have:∀k:PI,(∀c∈k,c<n/\known c=true)->sX (λc (_:Nat)=>dN b (vO (W c)) D) 0 k=0:=by
      intro k
      induction k with
      | nil=>intro _;rfl
      | cons c k v=>
        intro h;obtain⟨Q,R⟩:=h c (by simp);show dN b (vO (W c)) D ^^^ sX _ 0 k=0;rw[v λS T=>h S (by simp[T]),w c Q,R];show dN b (vO (replicate D 0)) D ^^^ 0=0;rw[wZ];rfl
     exact this _ λc a=>⟨f c (mem_filter.1 a).1,(mem_filter.1 a).2⟩
    have Q:sX (λc (_:Nat)=>dN b (vO (W c)) D) 0 (cols.filter λc=> !known c)=0:=by
     rcases u with u | ⟨v,R,S⟩
     ·rw[u];rfl
     ·rw[<-S]
      refine Eq.trans (lT λc a=> ?_) (L v R);show dN b (vO (W c)) D=_;rw[p c (j v c a).1 (j v c a).2]
    rw[O,Q];rfl
  have k:De.getD d 0∈De:=(by rw[af,ah (by omega)];exact aQ _);have u:=P.bd _ (.inr k);have v:known (De.getD d 0)=false:=(P.all _ u).2 (.inr k);have O:De.getD d 0∉St.map Prod.snd:=λh=>(nodup_append.1 P.cols).2.2 _ h _ k rfl;have Q:=M (De.getD d 0) u
  have e:dN b (vO (W (De.getD d 0))) D=b d:=by
   rw[p _ u v,qO _ _ _ _ _ O,A d t];rw[uL s (cols:=[d]) (by simp) (by simp;exact t) (λi R=>by rw[mr];by_cases h:i=d <;> simp[h,t])];show b d ^^^ 0=b d;exact Nat.xor_zero _
  have f:b d=0:=(by rw[<-e];exact Q);rw[K] at f;cases f
 ·omega
theorem Gs(X:List PI)(w:Nat->Nat)(j:Nat):∀D,tmp X w D j=dN w (λa=>(X.getD a []).getD j 0) D:=by
 intro D
 induction D with
 | zero=>rfl
 | succ D a=>show tmp X w D j ^^^ fm (w D) ((X.getD D []).getD j 0)=_;rw[a];rfl
theorem oW{D Z:Nat}{X:List PI}(b:Wf Z X)(e:X.length=D)(w:PI):(oQ Z w X D).length=Z/\∀j,(oQ Z w X D).getD j 0=comes D (λa j=>(X.getD a []).getD j 0) w j:=by
 obtain⟨c,f,d⟩:=yz (w:=Z) (r:=w) b D (by omega);refine⟨c,λj=> ?_⟩;have a:=congrFun d j;rw[Gs] at a;exact a
theorem Gt{D:Nat}{v:Nat->Nat->Nat}(a:∀i j,v i j<256){c:Nat}(b:c<256){w:PI}(d:Byt D w)(j:Nat):comes D v (kE c w) j=fm c (comes D v w j):=by
 unfold comes;rw[<-yj b (gV d.2) λi=>a i j];congr 1;funext i;exact jl c w i
theorem CV{D:Nat}{v:Nat->Nat->Nat}(b:∀i j,v i j<256){W:Nat->PI}{row:PI}(f:∀x∈row,x<256)(j:Nat):∀k,(∀c,c<k->Byt D (W c))->comes D v (dH W row (replicate D 0) k) j=dN (vO row) (λc=>comes D v (W c) j) k:=by
 intro k
 induction k with
 | zero=>intro _;exact jF D v D j
 | succ k g=>
   intro a;have d:Byt D (dH W row (replicate D 0) k):=fA (Byt.zero D) k λc h=>(a c (by omega)).1;have e:=tj (row.getD k 0) (a k (by omega)).1;show comes D v (xr (dH W row (replicate D 0) k) (kE (row.getD k 0) (W k))) j=dN (vO row) _ k ^^^ fm (vO row k) (comes D v (W k) j);rw[zK b (by rw[d.1,e.1]) d.2 e.2,g λc h=>a c (by omega),Gt b (c:=row.getD k 0) (gV f k) (a k (by omega))];rfl
theorem Ap{Z:Nat}{M:Nat->PI}{row:PI}(g:∀x∈row,x<256)(j:Nat):∀k,(∀c,c<k->(M c).length=Z)->(dH M row (replicate Z 0) k).getD j 0=dN (vO row) (λc=>(M c).getD j 0) k:=by
 intro k
 induction k with
 | zero=>intro _;show(replicate Z 0).getD j 0=0;rw[af,List.getElem?_replicate];split <;> rfl
 | succ k b=>
   intro a;have d:=(fA (D:=Z) (W:=M) (row:=row) (Byt.zero Z) k λc e=>a c (by omega)).1;have f:=(tj (row.getD k 0) (a k (by omega))).1;show(xr (dH M row (replicate Z 0) k) (kE (row.getD k 0) (M k))).getD j 0=_;rw[lS (by rw[d,f]),b λc e=>a c (by omega),jl];rfl
theorem C7{n D Z:Nat}{l:List PI}{Le:PI}{W M:Nat->PI}{X:List PI}{z:Nat->PI}{g:List PI}(m:Nat->Nat->Nat)
 (h:Wf Z X)(o:X.length=D)(F:X≠[])(w:∀c,c<n->Byt D (W c))(i:∀c,c<n->Byt Z (M c))(x:∀c,c<n->∀j,m c j=comes D (λa j=>(X.getD a []).getD j 0) (W c) j ^^^ (M c).getD j 0)
 (p:∀r∈Le,∀c∈l.getD r [],c<n)(y:∀r∈Le,Byt Z (z r))(G:∀r∈Le,∀j,sX m j (l.getD r [])=(z r).getD j 0)
 (H:Wf n g)(I:∀row∈g,∀j,dN (vO row) (λc=>m c j) n=0):
 je (Le.map (λr=>bR W (l.getD r []) (replicate D 0))++g.map λrow=>dH W row (replicate D 0) n) X=
  Le.map (λr=>bR M (l.getD r []) (z r))++g.map λrow=>dH M row (replicate Z 0) n:=by
 have A:∀a j:Nat,(X.getD a []).getD j 0<256:=λa j=>by
  rcases bq a X.length with q | q
  ·exact getD_lt (h.get q).2 j
  ·have e:X.getD a []=[]:=by rw[af,List.getElem?_eq_none q];rfl
   rw[e];show(0:Nat)<256;decide
 have J:wid X=Z:=lY h F;unfold je;rw[aU,map_map,map_map,J,o];congr 1
 ·refine map_congr_left λr d=> ?_
  show oQ Z (bR W (l.getD r []) (replicate D 0)) X D=_;have K:∀c∈l.getD r [],Byt D (W c):=λc b=>w c (p r d c b);have B:∀c∈l.getD r [],(M c).length=Z:=λc b=>(i c (p r d c b)).1;obtain⟨s,t⟩:=oW h o (bR W (l.getD r []) (replicate D 0));refine iM (by rw[s,eQ (y r d).1 B]) λj=> ?_;rw[t,iQ j (y r d).1 B,oJ A j (Byt.zero D) K,jF,Nat.zero_xor,<-G r d j];have e:sX m j (l.getD r [])=sX (λc j=>comes D (λa j=>(X.getD a []).getD j 0) (W c) j ^^^ (M c).getD j 0) j (l.getD r []):=lT λc b=>x c (p r d c b) j;rw[e];generalize l.getD r []=k
  induction k with
  | nil=>simp[sX]
  | cons c k u=>
    show _ ^^^ _=(_ ^^^ _) ^^^ (_ ^^^ _);rw[u]
    dsimp only
    generalize comes D (λa j=>(X.getD a []).getD j 0) (W c) j=v;generalize (M c).getD j 0=f;generalize sX (λc j=>comes D (λa j=>(X.getD a []).getD j 0) (W c) j ^^^ (M c).getD j 0) j k=C;generalize sX (λc j=>(M c).getD j 0) j k=E;have:(v ^^^ f) ^^^ C ^^^ (f ^^^ E)=v ^^^ (C ^^^ E) ^^^ (f ^^^ f):=(by ac_rfl);rw[this,Nat.xor_self,Nat.xor_zero]
 ·refine map_congr_left λrow d=> ?_
  show oQ Z (dH W row (replicate D 0) n) X D=_;have k:=(H row d).2;obtain⟨s,t⟩:=oW h o (dH W row (replicate D 0) n);refine iM (by rw[s];exact((fA (Byt.zero Z) n λc b=>(i c b).1).1).symm) λj=> ?_;rw[t,CV A k j n w,Ap k j n λc b=>(i c b).1];have C:=I row d j
  have e:dN (vO row) (λc=>m c j) n=dN (vO row) (λc=>comes D (λa j=>(X.getD a []).getD j 0) (W c) j) n ^^^ dN (vO row) (λc=>(M c).getD j 0) n:=by
   rw[fP,fP (vO row) (λc=>comes D _ (W c) j),fP (vO row) (λc=>(M c).getD j 0)]
   have:∀b,b<=n->dN (λc=>m c j) (vO row) b=dN (λc=>comes D (λa j=>(X.getD a []).getD j 0) (W c) j) (vO row) b ^^^ dN (λc=>(M c).getD j 0) (vO row) b:=by
    intro b
    induction b with
    | zero=>intro _;simp[dN]
    | succ b u=>
      intro K;have E:∀(B:PI),comes D (λa j=>(X.getD a []).getD j 0) B j<256:=λB=>yg _ _ _;show dN _ _ b ^^^ fm (m b j) (vO row b)=(dN _ _ b ^^^ fm _ (vO row b)) ^^^ (dN _ _ b ^^^ fm _ (vO row b));rw[u (by omega),x b (by omega) j,mG (E (W b)) (getD_lt (i b (by omega)).2 j) (gV k b)]
      dsimp only
      ac_rfl
   exact this n (aj _)
  rw[C] at e;generalize dN (vO row) (λc=>comes D (λa j=>(X.getD a []).getD j 0) (W c) j) n=v at*;generalize dN (vO row) (λc=>(M c).getD j 0) n=f at*;have a:=congrArg (·^^^ f) e;simp only[Nat.zero_xor,Nat.xor_assoc,Nat.xor_self,Nat.xor_zero] at a;exact a.symm
theorem MOwn.reput{w w1:World}{C g n c:Nat}{M:List PI}(d:MOwn w C (slice (some ⟨g,0,none⟩) n c) M){i:Nat}(O:i<n){u b:Value}{l:PI}(F:w.cell? ⟨g,i,none⟩=some u)(x:w.grownBy w1 u.ownBlock)(y:OwnB w1 C b l)
 (G:b.ownBlock=u.ownBlock\/b.ownBlock=some w.heap.size):MOwn (w1.setCell ⟨g,i,none⟩ b) C (slice (some ⟨g,0,none⟩) n c) (M.set i l):=by
 have z:=d.len;obtain⟨p,d⟩:=d;have P:=d.vlen;have t:=d.hd;rw[z] at t;have q:p[i]? =some u:=by rw[<-t.cellAt i (by omega)];exact F
 have r:(Value.slice (some ⟨g,0,none⟩) n c).ownBlock=none\/(Value.slice (some ⟨g,0,none⟩) n c).ownBlock≠u.ownBlock:=by
  right;rcases d.hdrow q with e | e
  ·rw[e];simp[Value.ownBlock]
  ·exact λh=>e h.symm
 have A:=t.kept x r;obtain⟨H,B⟩:=A.stored i b;have I:∀(a:Nat) b,p[a]? =some b->∀f,b.ownBlock=some f->f<w.heap.size:=λa b j f k=>((d.of j).1.lt f k).2;have J:∀(a:Nat) u,p[a]? =some u->u.ownBlock=none\/u.ownBlock≠some g:=λa u j=>by have:=d.hdrow j;simpa[Value.ownBlock] using this
 have K:b.ownBlock=none\/b.ownBlock≠some g:=by have:=own_ne y A uD;simpa[Value.ownBlock] using this
 have D:∀(a:Nat) f,a≠i->p[a]? =some f->(b.ownBlock=none\/b.ownBlock≠f.ownBlock)/\(f.ownBlock=none\/f.ownBlock≠b.ownBlock):=λa f s j=>by
  rcases G with h | h
  ·rw[h];exact⟨d.apart i a u f (λh=>s h.symm) q j,d.apart a i f u s j q⟩
  ·have e:f.ownBlock≠some w.heap.size:=λk=>by have:=I a f j _ k;omega
   rw[h];exact⟨.inr (λk=>e k.symm),.inr e⟩
 refine⟨p.set i b,by rw[length_set,z];exact H,λa L s=> ?_,λa E k f r N j=> ?_⟩
 ·rcases iw s with⟨rfl,rfl,m⟩ | ⟨e,o⟩
  ·exact⟨b,zS (by omega),y.kept B K⟩
  ·obtain⟨k,m,v⟩:=d.row a L o
   exact⟨k,by rw[Ej e];exact m,(v.kept x (d.apart a i k u e m q)).kept B (J a k m)⟩
 ·rcases iw N with⟨rfl,rfl,m⟩ | ⟨e,o⟩
  ·rcases iw j with⟨rfl,_,_⟩ | ⟨e,o⟩
   ·exact absurd rfl r
   ·exact(D E f e o).1
  ·rcases iw j with⟨rfl,rfl,_⟩ | ⟨m,v⟩
   ·exact(D a k e o).2
   ·exact d.apart a E k f r o v
theorem Jv{α:Type}{X Y:List α}(d:X.length=Y.length){k:Nat}(c:k<Y.length){x:α}(a:X[k]? =some x):(X.take k++Y.drop k).set k x=X.take (k+1)++Y.drop (k+1):=by
 have b:k<X.length:=by omega
 rw[ah b] at a;rw[set_append_right _ _ (by rw[aG];omega),aG,Nat.min_eq_left (by omega),Nat.sub_self,drop_eq_getElem_cons c,set_cons_zero,aN b,append_assoc,singleton_append,Option.some.inj a]
def og(a B:List PI)(r:Nat):List PI:=(dC a B).take r++a.drop r
theorem Cg{a B:List PI}(b:a.length=B.length):og a B a.length=dC a B:=by
 unfold og;rw[drop_length,append_nil,aJ (by rw[eC b];exact aj _)]
theorem FX{a B:List PI}(b:a.length=B.length){r:Nat}(c:r<a.length):(og a B r).getD r []=a.getD r []:=by
 unfold og;rw[af,List.getElem?_append_right (by rw[aG,eC b];omega),aG,eC b,Nat.min_eq_left (by omega),Nat.sub_self,List.getElem?_drop,Nat.add_zero,af]
theorem FY{a B:List PI}(b:a.length=B.length){r:Nat}(c:r<a.length):(og a B r).set r (a.getD r []++B.getD r [])=og a B (r+1):=by
 unfold og;refine Jv (eC b) c ?_;rw[<-jq b r];exact mW (by rw[eC b];exact c)
def iH(X:List PI)(r:Nat):Bool:=(X.drop r).any λa=>decide (0<=iB a)
def jH(n:Nat)(a B:List PI):Nat:=if (dc (dC a B) n).2<n then 9 else if iH (dc (dC a B) n).1 (dc (dC a B) n).2 then 10 else 0
def jI(n:Nat)(a B:List PI):List PI:=if jH n a B=0 then ((dc (dC a B) n).1.take (dc (dC a B) n).2).map (List.drop n) else []
theorem FZ{X:List PI}{r t:Nat}(a:t<(X.drop r).length)(b:0<=iB ((X.drop r).getD t [])):iH X r=true:=by
 unfold iH;rw[any_eq_true];exact⟨_,mP a,bf b⟩
theorem zX{X:List PI}{r:Nat}(b:∀t,t<(X.drop r).length->¬0<=iB ((X.drop r).getD t [])):iH X r=false:=by
 unfold iH;rw[any_eq_false];intro e c;obtain⟨d,a,rfl⟩:=bC c;have:=b d a;rw[af,ah a] at this;simpa using this
theorem oH{X:List PI}{r:Nat}:iH X r=false↔∀i,r<=i->∀j,gt X i j=0:=by
 constructor
 ·intro a i g j
  rcases bq i X.length with b | b
  ·unfold iH at a
   rw[any_eq_false] at a
   have d:X.getD i []∈X.drop r:=by
    have c:(X.drop r)[i-r]? =some (X.getD i []):=(by rw[List.getElem?_drop,show r+(i-r)=i by omega];exact mW b);exact mem_of_getElem? c
   have e:=a _ d;simp only[decide_eq_true_eq] at e;have f:=xm.1 (show iB (X.getD i [])<0 by omega);exact congrFun f j
  ·exact uh b j
 ·intro a
  refine zX λb d=> ?_;rw[length_drop] at d
  have c:(X.drop r).getD b []=X.getD (r+b) []:=by
   rw[af,List.getElem?_drop,<-af]
  rw[c];have:iB (X.getD (r+b) [])<0:=xm.2 (funext λj=>a (r+b) (by omega) j);omega
theorem tV{n k:Nat}{a B:List PI}(b:Wf n a)(c:a.length=B.length)(d:a≠[]):(dc (dC a B) n).2=(dS a).length:=by
 rw[(tP c b (aj n)).1,tQ b d]
theorem Fg{n k:Nat}{a X:List PI}(b:Wf n a)(g:Wf k X)(h:X.length=n)(i:X≠[])(d:a≠[])(e:(dS a).length=n):jH n a (je a X)=0/\jI n a (je a X)=X:=by
 have j:a.length=(je a X).length:=by unfold je;rw[aC]
 have c:=tV (k:=0) b j d;have l:(dc a n).2=n:=by rw[<-tQ b d];exact e
 obtain⟨m,o⟩:=zC b g h i l;rw[e] at c
 have f:jH n a (je a X)=0:=by
  unfold jH;rw[c,bh (by omega),oH.2 m];rfl
 exact⟨f,by unfold jI;rw[f,bg rfl,c];exact o⟩
theorem IP{n k:Nat}{a C:List PI}(b:Wf n a)(g:Wf k C)(d:a.length=C.length)(i:0<n)(e:a≠[])(f:(dS a).length=n)(hs:jH n a C=0):je a (jI n a C)=C/\Wf k (jI n a C)/\(jI n a C).length=n:=by
 have c:=tV (k:=0) b d e;have j:(dc a n).2=n:=by rw[<-tQ b e];exact f
 rw[f] at c
 have l:iH (dc (dC a C) n).1 n=false:=by
  unfold jH at hs;rw[c,bh (by omega)] at hs;cases h:iH (dc (dC a C) n).1 n with
  | false=>rfl
  | true=>rw[h] at hs;simp at hs
 have:=Bz b g d i j (oH.1 l);unfold jI;rw[hs,bg rfl,c];exact this
theorem Fh{n:Nat}{a C:List PI}(d:Wf n a)(b:a.length=C.length)(e:a≠[])(f:(dS a).length=n)(hs:jH n a C≠0):jH n a C=10/\a.length≠n:=by
 have c:=tV (k:=0) d b e;rw[f] at c;unfold jH at hs ⊢;rw[c,bh (by omega)] at hs ⊢;cases h:iH (dc (dC a C) n).1 n with
 | false=>rw[h] at hs;simp at hs
 | true=>
   refine⟨rfl,λg=> ?_⟩;have i:iH (dc (dC a C) n).1 n=false:=oH.2 λm j l=>uh (by rw[jE,eC b,g];exact j) l;rw[i] at h;cases h
theorem NA{n Z:Nat}{a C:List PI}(g:Wf n a)(o:Wf Z C)(h:a.length=C.length)(e:a.length=n)(p:0<n)(k:(dS a).length=n):
 jH n a C=0/\Wf Z (jI n a C)/\(jI n a C).length=n/\∀i,i<n->∀j,(C.getD i []).getD j 0=dN (vO (a.getD i [])) (λb=>((jI n a C).getD b []).getD j 0) n:=by
 have l:a≠[]:=λb=>by rw[b] at e;simp at e;omega
 have m:jH n a C=0:=by
  apply Classical.byContradiction;intro q;exact(Fh g h l k q).2 e
 obtain⟨r,f,c⟩:=IP g o h p l k m;refine⟨m,f,c,λi t j=> ?_⟩;have s:jI n a C≠[]:=λb=>by rw[b] at c;simp at c;omega
 generalize jI n a C=d at*
 have b:(je a d).getD i []=oQ (wid d) (a.getD i []) d d.length:=by
  unfold je;rw[af,List.getElem?_map,af,ah (by omega)];rfl
 rw[<-r,b,lY f s,c];have:=(oW f c (a.getD i [])).2 j;rw[this];rfl
def ma(s:Int):Int:=IntKind.u64.wrap (IntKind.u64.wrap (s*6364136223846793005)+1442695040888963407)
def jY(s:Int):Int:=ma s/4294967296
theorem OJ(s:Int):0<=ma s/\ma s<18446744073709551616:=by
 unfold ma;rw[IntKind.wrap_u64];omega
theorem uE(s:Int):0<=jY s/\jY s<=4294967295:=by
 have:=OJ s;unfold jY;omega
theorem FV(s:Int):jY s%4294967296=jY s:=by
 have:=uE s;omega
theorem OL(s:Int):ma s/4294967296%4294967296=jY s:=FV s
theorem Jr(s:Int)(w:World)(c:0<=s)(d:s<=4294967295):
 Calls prog 240 #[.int .u32 s] w λa b=>a=returned (pointer (some ⟨w.heap.size,0,none⟩))/\w.alloc (cells #[.int .u64 s] 371)=b:=by
 go_enter func240,ntmps240;go_wp2;go_ret;exact⟨rfl,rfl⟩
theorem wV(s:Int)(p:Addr)(w:World)(c:w.cell? p=some (.int .u64 s))(d:w.frozen? p=false):
 Calls prog 241 #[pointer (some p)] w λa b=>a=returned (.int .u32 (jY s))/\w.setCell p (.int .u64 (ma s))=b:=by
 go_enter func241,ntmps241;go_wp2;go_ret;exact⟨congrArg (λa=>Ending.returned (.int .u32 a)) (OL s),rfl⟩
theorem jm(w:World)(p:Addr)(v:Value)(a:w.cell? p=some v):w.setCell p v=w:=by
 obtain⟨b,i,c⟩:=p;have d:c=none:=World.cell?_spot a;subst d;obtain⟨e,j,k,l,m⟩:=w;simp only[World.setCell,World.mk.injEq,and_true];apply Array.ext_getElem?;intro n;rw[Array.getElem?_modify];split
 ·rename_i f
  subst f;simp only[World.cell?] at a;cases hb:e[b]? with
  | none=>simp
  | some g=>
    rw[hb] at a;cases g with
    | cells o q r=>
      simp at a;simp only[Option.map_some,Option.isSome_none];congr 2;apply Array.ext_getElem?;intro s;rw[bh (by simp),Array.getElem?_setIfInBounds];split
      ·rename_i h;subst h;split
       ·exact a.symm
       ·rename_i t;rw[Array.getElem?_eq_none (by omega)] at a;cases a
      ·rfl
    | _=>simp
 ·rfl
def mf(s n:Int):Int:=if n<=0 then 0 else jY s%n
def NY(s n:Int):Int:=if n<=0 then s else ma s
theorem uF{s n:Int}(a:0<n):mf s n=jY s%n:=by unfold mf;rw[bh (by omega)]
theorem Js{s n:Int}(a:n<=0):mf s n=0:=by unfold mf;rw[bg a]
theorem Mf{s n:Int}(a:0<n):NY s n=ma s:=by unfold NY;rw[bh (by omega)]
theorem Mg{s n:Int}(a:n<=0):NY s n=s:=by unfold NY;rw[bg a]
theorem sV(s n:Int):0<=mf s n/\mf s n<=4294967295:=by
 have:=uE s;unfold mf;split
 ·omega
 ·have a:=Int.emod_nonneg (jY s) (show n≠0 by omega)
  have b:=Int.emod_def (jY s) n;have c:=Int.mul_nonneg (show 0<=n by omega) (Int.ediv_nonneg this.1 (show 0<=n by omega));omega
theorem uG(s n:Int)(p:Addr)(w:World)(c:w.cell? p=some (.int .u64 s))(f:w.frozen? p=false)(i: -9223372036854775808<=n/\n<=9223372036854775807):
 Calls prog 309 #[pointer (some p),int i64 n] w λd a=>d=returned (int i64 (mf s n))/\w.setCell p (.int .u64 (NY s n))=a:=by
 have g:=ae (jm w p _ c);by_cases e:n<=0
 ·have a:=ae (Js (s:=s) e)
  have b:=ae (Mg (s:=s) e);go_enter func309,ntmps309;go_wp2_with fail;go_ret;rw[a.o,b.o,g.o];exact⟨rfl,rfl⟩
 ·have a:=ae (uF (s:=s) (n:=n) (by omega))
  have b:=ae (Mf (s:=s) (n:=n) (by omega));have j:=uE s;have k:=Int.emod_nonneg (jY s) (show n≠0 by omega);have l:=Int.emod_lt_of_pos (jY s) (show 0<n by omega);go_enter func309,ntmps309;go_wp2_with fail;refine(wV s p _ c f).mono ?_;rintro d m ⟨rfl,rfl⟩;go_wp2_with fail;go_ret;rw[a.o,b.o];exact⟨rfl,rfl⟩
theorem uH(n:Int)(w:World):
 Calls prog 309 #[pointer none,int i64 n] w λa b=>a=returned (int i64 0)/\w=b:=by
 go_enter func309,ntmps309;go_wp2_with fail;go_ret;exact⟨rfl,rfl⟩
def xM(l:PI)(i j:Nat):PI:=(l.set i (l.getD j 0)).set j (l.getD i 0)
theorem Hy(l:PI)(i j:Nat):(xM l i j).length=l.length:=by simp[xM]
theorem getD_at{l:PI}{i:Nat}(a:i<l.length):l.getD i 0=l[i]:=by rw[af,ah a];rfl
theorem DL{l:PI}{i j:Nat}(a:i<l.length)(b:j<l.length):(xM l i j).Perm l:=by
 unfold xM;rw[getD_at a,getD_at b];exact set_set_perm a b
def bN(nl:Bool)(s n:Int):Nat:=if nl then 0 else (mf s n).toNat
def sN(nl:Bool)(s n:Int):Int:=if nl then s else NY s n
theorem Oj{nl:Bool}{s n:Int}(a:0<n):(bN nl s n:Int)<n:=by
 unfold bN;split
 ·simpa using a
 ·have b:=(sV s n).1
  have c:=Int.emod_lt_of_pos (jY s) a;rw[uF a] at b ⊢;omega
def jh(nl:Bool)(n:Nat)(s:Int):Nat->Int | 0=>s | k+1=>sN nl (jh nl n s k) ((n:Int)-(k:Int))
def iY(nl:Bool)(n:Nat)(s:Int):Nat->PI | 0=>range n | k+1=>xM (iY nl n s k) k (k+bN nl (jh nl n s k) ((n:Int)-(k:Int)))
theorem kZ(nl:Bool)(n:Nat)(s:Int)(k:Nat):(iY nl n s k).length=n:=by
 induction k with
 | zero=>exact aZ
 | succ k a=>rw[iY,Hy,a]
theorem K3{nl:Bool}{n:Nat}{s:Int}{k:Nat}(a:k<n):k+bN nl (jh nl n s k) ((n:Int)-(k:Int))<n:=by
 have:=Oj (nl:=nl) (s:=jh nl n s k) (n:=(n:Int)-(k:Int)) (by omega);omega
theorem vN{nl:Bool}{n:Nat}{s:Int}{k:Nat}(b:k<=n):(iY nl n s k).Perm (range n):=by
 induction k with
 | zero=>exact List.Perm.refl _
 | succ k a=>exact(DL (by rw[kZ];omega) (by rw[kZ];exact K3 (by omega))).trans (a (by omega))
def leB(x y:Nat):Bool:=decide (x<=y)
def Srt(l:PI):Prop:=l.Pairwise (·<= ·)
def chosen(nl:Bool)(n:Nat)(s:Int)(k:Nat):PI:=((iY nl n s k).take k).mergeSort leB
theorem fG(l:PI):(l.mergeSort leB).Perm l:=mergeSort_perm l leB
theorem K4(l:PI):Srt (l.mergeSort leB):=by
 have a:=pairwise_mergeSort (le:=leB) (by intro b c d e f;simp only[leB,decide_eq_true_eq] at*;omega) (by intro b c;simp only[leB,Bool.or_eq_true,decide_eq_true_eq];omega) l;exact a.imp λa=>by simpa[leB] using a
theorem vP{nl:Bool}{n:Nat}{s:Int}{k:Nat}(a:k<=n):(chosen nl n s k).length=k:=by
 rw[chosen,(fG _).length_eq,aG,kZ];omega
theorem DN{nl:Bool}{n:Nat}{s:Int}{k:Nat}(a:k<=n)(j:Nat):((iY nl n s k).take j).Nodup:=((vN a).nodup_iff.2 nodup_range).sublist (take_sublist _ _)
theorem Hz{nl:Bool}{n:Nat}{s:Int}{k:Nat}(a:k<=n):∀x∈chosen nl n s k,x<n:=by
 intro x b;have c:=(fG _).mem_iff.1 b;exact bA.1 ((vN a).mem_iff.1 (bD c))
theorem Be{nl:Bool}{n:Nat}{s:Int}{k:Nat}(a:k<=n):(chosen nl n s k).Pairwise (·< ·):=by
 have b:(chosen nl n s k).Nodup:=(fG _).nodup_iff.2 (DN a k);exact(List.Pairwise.and (K4 _) b).imp λ⟨c,d⟩=>Nat.lt_of_le_of_ne c d
def xy(l:Nat):Nat->Nat->Nat | r,0=>r | r,f+1=>if r*r<l then xy l (r+1) f else r
def fE(l:Nat):Nat:=xy l 0 9
def Oe(l k:Nat):Nat:=if 1<k then 1048576/(k*(k-1)) else 1048576/l
def Dm(l k:Nat):Nat:=
 if k<l/fE l then Oe l k+1048576*fE l/(l*k)
 else if k=l/fE l then Oe l k+1048576*fE l*Lib.bitLen (fE l)/l
 else Oe l k
def ic(l:Nat):Nat->Nat | 0=>0 | k+1=>ic l k+Dm l (k+1)
def lC(l:Nat):PI:=(range l).map λa=>ic l (a+1)
theorem iz(l:Nat):(lC l).length=l:=by simp[lC]
theorem kW{l i:Nat}(a:i<l):(lC l).getD i 0=ic l (i+1):=by
 simp[lC,a]
theorem GI{l k:Nat}(a:k<l):(lC l).take (k+1)=(lC l).take k++[ic l (k+1)]:=by
 have b:k<(lC l).length:=by rw[iz];exact a
 rw[aN b];congr 2;have:=kW a;rw[af,ah b] at this;exact this
def Pe(l:Nat):Bool:=decide (1<=fE l/\fE l<=8/\l<=fE l*fE l/\Lib.bitLen (fE l)<=4)
theorem Dn:((range 65).all λa=>a == 0 || Pe a)=true:=by decide +kernel
theorem MQ{l:Nat}(b:1<=l)(c:l<=64):1<=fE l/\fE l<=8/\Lib.bitLen (fE l)<=4:=by
 have:=all_eq_true.1 Dn l (bA.2 (by omega));rw[Bool.or_eq_true] at this;rcases this with a | a
 ·have:=ba a;omega
 ·have:=ba a;exact⟨this.1,this.2.1,this.2.2.2⟩
def okTab(l:Nat):Bool:=(range l).all λa=>decide (1<=Dm l (a+1)/\ic l (a+1)<8388608/\(1<=a->a+1≠l/fE l->Dm l (a+1)<=Dm l 2))
theorem GJ:((range 65).all okTab)=true:=by decide +kernel
theorem Ke{l i:Nat}(b:l<=64)(a:i<l):1<=Dm l (i+1)/\ic l (i+1)<8388608/\(1<=i->i+1≠l/fE l->Dm l (i+1)<=Dm l 2):=
 ba (all_eq_true.1 (all_eq_true.1 GJ l (bA.2 (by omega))) i (bA.2 a))
theorem sum_lt{l k:Nat}(a:l<=64)(b:k<=l):ic l k<8388608:=by
 cases k with
 | zero=>show 0<8388608;decide
 | succ k=>exact(Ke a b).2.1
theorem AF{l k:Nat}(a:l<=64)(b:k<l):ic l k<ic l (k+1):=by
 have:=(Ke a b).1;show ic l k<ic l k+Dm l (k+1);omega
theorem AJ{l:Nat}(a:l<=64):∀ {j k:Nat},k<=l->j<=k->ic l j<=ic l k:=by
 intro j k
 induction k with
 | zero=>intro _ b;rw[show j=0 by omega];exact aj _
 | succ k c=>
   intro e b;by_cases d:j=k+1
   ·rw[d];exact aj _
   ·have:=c (by omega) (by omega)
    have:=AF a (k:=k) (by omega);omega
def jO(l:Int):PI:=if 1<=l/\l<=64 then lC l.toNat else []
theorem yR{l:Nat}(a:1<=l/\l<=64):jO l=lC l:=by unfold jO;rw[bg (by omega),Int.toNat_natCast]
theorem Kg{l:Int}(a:l<1\/64<l):jO l=[]:=by unfold jO;rw[bh (by omega)]
def Lx(xs:PI)(x:Int):Nat->Nat->Nat
 | _,0=>0
 | i,f+1=>if x<(xs.getD i 0:Int) then i+1 else Lx xs x (i+1) f
def vn(xs:PI)(x:Int):Nat:=if xs=[]\/x<0\/(xs.getD (xs.length-1) 0:Int)<=x then 0 else Lx xs x 0 xs.length
theorem Kh{xs:PI}{x:Int}:∀f i k,i<=k->k<i+f->(∀j,i<=j->j<k->(xs.getD j 0:Int)<=x)->x<(xs.getD k 0:Int)->Lx xs x i f=k+1:=by
 intro f
 induction f with
 | zero=>intro i k c d;omega
 | succ f e=>
   intro i k c d a b;rw[Lx];by_cases g:i=k
   ·subst g;rw[bg b]
   ·rw[bh (by have:=a i (aj _) (by omega);omega)]
    exact e (i+1) k (by omega) (by omega) (λj l h=>a j (by omega) h) b
theorem MR{l k:Nat}(b:l<=64)(c:k<l){x:Int}(e:(ic l k:Int)<=x)(d:x<(ic l (k+1):Int)):vn (lC l) x=k+1:=by
 have f:ic l (k+1)<=ic l l:=AJ b (aj _) c;unfold vn;rw[iz,bh]
 ·refine Kh l 0 k (bu _) (by omega) (λj _ a=> ?_) ?_
  ·rw[kW (by omega)]
   have:=AJ b (j:=j+1) (k:=k) (by omega) a;omega
  ·rw[kW c];exact d
 ·rintro(a | a | a)
  ·have:=congrArg List.length a;rw[iz] at this;simp at this;omega
  ·omega
  ·rw[kW (by omega),show l-1+1=l by omega] at a;omega
theorem MS{l:Nat}(k:1<=l)(g:l<=64){x:Int}(m:0<=x)(h:x<(ic l l:Int)):1<=vn (lC l) x/\vn (lC l) x<=l:=by
 have:∀a,a<=l->x<(ic l a:Int)->∃b,b<a/\(ic l b:Int)<=x/\x<(ic l (b+1):Int):=by
  intro a
  induction a with
  | zero=>intro _ c;simp[ic] at c;omega
  | succ a i=>
    intro n c;by_cases j:(ic l a:Int)<=x
    ·exact⟨a,by omega,j,c⟩
    ·obtain⟨b,f,d,e⟩:=i (by omega) (by omega)
     exact⟨b,by omega,d,e⟩
 obtain⟨b,f,d,e⟩:=this l (aj _) h;rw[MR g f d e];omega
end Go.Proofs.YtgccllbnfngpcaaGreatDoor
namespace Go.Proofs
open Go.Shelf
def Tryz.lays125_ren:Go.Shelf.Ren:=⟨fun | 125=>121 | 128=>193 | 129=>194 | n=>n,fun | 46=>181 | 3=>3 | 51=>31 | 53=>248 | 4=>4 | 5=>5 | 9=>9 | n=>n,fun | n=>n⟩
theorem Tryz.lays125:Go.Proofs.Lays.n125 prog Tryz.lays125_ren:= {
 mixed:=by kernel_rfl
 f125:=func121.trans (congrArg some (by kernel_rfl))
 f128:=func193.trans (congrArg some (by kernel_rfl))
 f129:=func194.trans (congrArg some (by kernel_rfl))
 t3:=underlying3
 a3:=Tryz.isAgg3
 z3:=Tryz.sizeOf3
 v3:=Tryz.zeroValue3
 t4:=underlying4
 a4:=Tryz.isAgg4
 z4:=Tryz.sizeOf4
 v4:=Tryz.zeroValue4
 t5:=underlying5
 a5:=Tryz.isAgg5
 z5:=Tryz.sizeOf5
 v5:=Tryz.zeroValue5
 t9:=underlying9
 a9:=Tryz.isAgg9
 z9:=Tryz.sizeOf9
 v9:=Tryz.zeroValue9
 t46:=underlying181
 a46:=Tryz.isAgg181
 z46:=Tryz.sizeOf181
 v46:=Tryz.zeroValue181
 t51:=underlying31
 a51:=Tryz.isAgg31
 z51:=Tryz.sizeOf31
 v51:=Tryz.zeroValue31
 t53:=underlying248
 a53:=Tryz.isAgg248
 z53:=Tryz.sizeOf248
 v53:=Tryz.zeroValue248 }
theorem Tryz.bits_Len(x:Int)(w:World)(a:0<=x)(b:x<=18446744073709551615):
 Calls prog 121 #[.int .u64 x] w λc d=>c=.returned (.int .i64 (Lib.bitLen x.toNat))/\d=w:=Any.bits_Len Tryz.lays125 x w a b
def Tryz.lays189_ren:Go.Shelf.Ren:=⟨fun | 189=>63 | 125=>121 | 257=>120 | 128=>193 | 129=>194 | 294=>184 | 295=>185 | 296=>186 | 297=>187 | 298=>188 | 299=>189 | 216=>190 | 300=>191 | 301=>192 | 328=>248 | 329=>249 | 330=>250 | 331=>251 | 332=>252 | 215=>253 | 343=>313 | n=>n,fun | 28=>22 | 3=>3 | 46=>181 | 0=>0 | 51=>31 | 53=>248 | 4=>4 | 183=>241 | 182=>240 | 131=>214 | 5=>5 | 9=>9 | 218=>310 | 222=>314 | 228=>374 | 229=>375 | n=>n,fun | n=>n⟩
theorem Tryz.lays189:Go.Proofs.Lays.n189 prog Tryz.lays189_ren:= {
 mixed:=by kernel_rfl
 f125:=func121.trans (congrArg some (by kernel_rfl))
 f128:=func193.trans (congrArg some (by kernel_rfl))
 f129:=func194.trans (congrArg some (by kernel_rfl))
 f189:=func63.trans (congrArg some (by kernel_rfl))
 f215:=func253.trans (congrArg some (by kernel_rfl))
 f216:=func190.trans (congrArg some (by kernel_rfl))
 f257:=func120.trans (congrArg some (by kernel_rfl))
 f294:=func184.trans (congrArg some (by kernel_rfl))
 f295:=func185.trans (congrArg some (by kernel_rfl))
 f296:=func186.trans (congrArg some (by kernel_rfl))
 f297:=func187.trans (congrArg some (by kernel_rfl))
 f298:=func188.trans (congrArg some (by kernel_rfl))
 f299:=func189.trans (congrArg some (by kernel_rfl))
 f300:=func191.trans (congrArg some (by kernel_rfl))
 f301:=func192.trans (congrArg some (by kernel_rfl))
 f328:=func248.trans (congrArg some (by kernel_rfl))
 f329:=func249.trans (congrArg some (by kernel_rfl))
 f330:=func250.trans (congrArg some (by kernel_rfl))
 f331:=func251.trans (congrArg some (by kernel_rfl))
 f332:=func252.trans (congrArg some (by kernel_rfl))
 f343:=func313.trans (congrArg some (by kernel_rfl))
 t0:=underlying0
 a0:=Tryz.isAgg0
 z0:=Tryz.sizeOf0
 v0:=Tryz.zeroValue0
 t3:=underlying3
 a3:=Tryz.isAgg3
 z3:=Tryz.sizeOf3
 v3:=Tryz.zeroValue3
 t4:=underlying4
 a4:=Tryz.isAgg4
 z4:=Tryz.sizeOf4
 v4:=Tryz.zeroValue4
 t5:=underlying5
 a5:=Tryz.isAgg5
 z5:=Tryz.sizeOf5
 v5:=Tryz.zeroValue5
 t9:=underlying9
 a9:=Tryz.isAgg9
 z9:=Tryz.sizeOf9
 v9:=Tryz.zeroValue9
 t28:=underlying22
 a28:=Tryz.isAgg22
 z28:=Tryz.sizeOf22
 v28:=Tryz.zeroValue22
 t46:=underlying181
 a46:=Tryz.isAgg181
 z46:=Tryz.sizeOf181
 v46:=Tryz.zeroValue181
 t51:=underlying31
 a51:=Tryz.isAgg31
 z51:=Tryz.sizeOf31
 v51:=Tryz.zeroValue31
 t53:=underlying248
 a53:=Tryz.isAgg248
 z53:=Tryz.sizeOf248
 v53:=Tryz.zeroValue248
 t131:=underlying214
 a131:=Tryz.isAgg214
 z131:=Tryz.sizeOf214
 v131:=Tryz.zeroValue214
 t182:=underlying240
 a182:=Tryz.isAgg240
 z182:=Tryz.sizeOf240
 v182:=Tryz.zeroValue240
 t183:=underlying241
 a183:=Tryz.isAgg241
 z183:=Tryz.sizeOf241
 v183:=Tryz.zeroValue241
 t218:=underlying310
 a218:=Tryz.isAgg310
 z218:=Tryz.sizeOf310
 v218:=Tryz.zeroValue310
 t222:=underlying314
 a222:=Tryz.isAgg314
 z222:=Tryz.sizeOf314
 v222:=Tryz.zeroValue314
 t228:=underlying374
 a228:=Tryz.isAgg374
 z228:=Tryz.sizeOf374
 v228:=Tryz.zeroValue374
 t229:=underlying375
 a229:=Tryz.isAgg375
 z229:=Tryz.sizeOf375
 v229:=Tryz.zeroValue375 }
open Go.Sort Go.RowKit in
theorem Tryz.slices_Sort_int(a c d:Nat)(b:List Int)(w:World)(e:Holds (Value.int .i64) w a c b.toArray)(f:a<w.heap.size)(g:b.length<4611686018427387904):
 Calls prog 63 #[.slice (some ⟨a,c,none⟩) b.length d] w λh i=>
  h=.returned (.tuple #[])/\∃n os,i=grow (putRow (Value.int .i64) (Sort.ahead w n) a c (b.mergeSort λh i=>decide (h<=i)).toArray) os:=Any.slices_Sort_int Tryz.lays189 a c d b w e f g
end Go.Proofs
namespace Go.Proofs.YtgccllbnfngpcaaGreatDoor
open Go.RowKit _root_.Go.Proofs.Tryz List
open Value (int slice pointer bool)
open IntKind (i64)
open Ending (returned)
open Obj (cells)
theorem jC{a b:Nat}(c:a=b):Ending.returned (int i64 (a:Int))=returned (int i64 (b:Int)):=by rw[c]
theorem iU:(prog.info? 3).map (λa=>(a.zero,a.size,a.bytes))=some (some (int i64 0),1,8):=by kernel_rfl
def bH(l:PI):List Value:=l.map λa:Nat=>Value.int .i64 a
theorem BD(l:PI):∀u∈bH l,u.oneCell'=true:=by
 intro u a;obtain⟨b,_,rfl⟩:=aY.1 a;rfl
theorem BF(l:PI):(bH l).length=l.length:=aC _
theorem bT{l:PI}{i:Nat}(a:i<l.length):(bH l)[i]? =some (int i64 (l.getD i 0:Nat)):=by
 simp[bH,List.getElem?_map,ah a]
theorem IV(r:Nat)(c:r<=64)(w:World):Calls prog 121 #[.int .u64 r] w λa b=>a=returned (int i64 (Lib.bitLen r:Nat))/\w=b:=by
 refine(Tryz.bits_Len (r:Int) w (by omega) (by omega)).mono ?_;rintro a b ⟨rfl,rfl⟩;exact⟨by rw[Int.toNat_natCast],rfl⟩
theorem IW(l:Nat)(i:1<=l)(j:l<=64)(w:World):
 Calls prog 363 #[int i64 l] w λa b=>a=returned (int i64 (fE l:Nat))/\w=b:=by
 go_enter func363,ntmps363;go_wp2_with fail
 go_loop [3] (λb=>∃a:Nat,a<=8/\b=int i64 a/\PH (xy l a (9-a)=fE l)) (λb=>8-(intOf b).toNat)
 case atStart=>exact⟨0,by omega,rfl,ae rfl⟩
 case round=>
  obtain⟨a,b,rfl,c⟩:=hrel;have k:a*a<=8*8:=bn b b;have m:(a:Int)*(a:Int)=((a*a:Nat):Int):=(by rw[Int.natCast_mul]);have d:PH (xy l a (9-a)=if a*a<l then xy l (a+1) (9-(a+1)) else a):=ae (by rw[show 9-a=(9-(a+1))+1 by omega,xy]);have e:a=8->a*a=64:=(by rintro rfl;rfl);generalize a*a=g at*;by_cases f:g<l
  ·have n:a<8:=by omega
   clear e;go_wp2_with fail
   go_round
   case rel=>exact⟨a+1,by omega,by go_num,ae (by rw[<-c.o,d.o,bg f])⟩
   case measure=>simp[intOf];omega
  ·clear e
   go_wp2_with fail;go_ret;exact⟨jC (by rw[<-c.o,d.o,bh f]),rfl⟩
theorem BG(l k:Nat)(s:1<=l)(t:l<=64)(A:1<=k)(D:k<=l)(w:World):
 Calls prog 310 #[int i64 l,int i64 k] w λe a=>e=returned (int i64 (Dm l k:Nat))/\w=a:=by
 have B:=MQ s t;have d:=λw=>IW l s t w;have a:PH (Dm l k=if k<l/fE l then Oe l k+1048576*fE l/(l*k) else if k=l/fE l then Oe l k+1048576*fE l*Lib.bitLen (fE l)/l else Oe l k):=ae rfl;have g:=λw=>IV (fE l) (by omega) w;generalize Dm l k=E at*;generalize b:Lib.bitLen (fE l)=p at*;clear b;generalize fE l=c at*;have b:PH (Oe l k=if 1<k then 1048576/(k*(k-1)) else 1048576/l):=ae rfl;generalize Oe l k=F at*;have G:k*(k-1)<=64*63:=bn (by omega) (by omega);have H:l*k<=64*64:=bn t (by omega);have I:1*1<=l*k:=bn s A;have J:1048576*c*p<=1048576*8*4:=bn (by omega) B.2.2;have u:1<k->2*1<=k*(k-1):=λh=>bn h (by omega);have K:(k:Int)*((k:Int)-1)=((k*(k-1):Nat):Int):=by rw[Int.natCast_mul,Int.ofNat_sub (by omega)];rfl
 have L:(l:Int)*(k:Int)=((l*k:Nat):Int):=by rw[Int.natCast_mul]
 have M:1048576*(c:Int)*(p:Int)=((1048576*c*p:Nat):Int):=by rw[Int.natCast_mul,Int.natCast_mul];rfl
 have N:(1048576:Int)/(l:Int)=((1048576/l:Nat):Int):=by simp
 have O:1048576/l<=1048576:=Nat.div_le_self _ _;have P:(l:Int)/(c:Int)=((l/c:Nat):Int):=by simp
 have Q:l/c<=l:=Nat.div_le_self _ _;generalize l/c=f at*;generalize j:1048576/l=R at*;have i:=ae j;clear j;generalize k*(k-1)=q at*;generalize l*k=r at*;have S:(1048576:Int)/(q:Int)=((1048576/q:Nat):Int):=by simp
 have T:1048576/q<=1048576:=Nat.div_le_self _ _;generalize m:1048576/q=U at*;have j:=ae m;clear m;have V:(1048576*(c:Int))/(r:Int)=((1048576*c/r:Nat):Int):=by simp
 have W:1048576*c/r<=1048576*c:=Nat.div_le_self _ _;generalize 1048576*c/r=X at*;generalize 1048576*c*p=n at*;have Y:(n:Int)/(l:Int)=((n/l:Nat):Int):=by simp
 have Z:n/l<=n:=Nat.div_le_self _ _;generalize n/l=d4 at*;have m:=ae d;have y:=ae g;clear d g
 have z:(k<f/\((k:Int) == (f:Int))=false)\/(k=f/\¬(k:Int)<(f:Int)/\((k:Int) == (f:Int))=true)\/(f<k/\¬(k:Int)<(f:Int)/\((k:Int) == (f:Int))=false):=by
  rcases Nat.lt_trichotomy k f with h | h | h
  ·exact .inl ⟨h,by rw[beq_eq_false_iff_ne];omega⟩
  ·exact .inr (.inl ⟨h,by omega,by rw[beq_iff_eq];omega⟩)
  ·exact .inr (.inr ⟨h,by omega,by rw[beq_eq_false_iff_ne];omega⟩)
 by_cases v:1<k
 ·rw[bg v] at b
  have aa:=u v;clear u;rcases z with⟨d,o⟩ | ⟨d,x,o⟩ | ⟨d,x,o⟩
  ·rw[bg d] at a
   go_enter func310,ntmps310;go_wp2_with fail;refine(m.o _).mono ?_;rintro e g ⟨rfl,rfl⟩;go_wp2_with fail;go_ret;exact⟨jC (by first | (rw[a.o,b.o];done) | (rw[a.o,b.o,<-j.o];done) | (rw[a.o,b.o,<-i.o];done)),rfl⟩
  ·rw[bh (by omega),bg d] at a
   have C:=ae d;clear d;go_enter func310,ntmps310;go_wp2_with fail;refine(m.o _).mono ?_;rintro e g ⟨rfl,rfl⟩;go_wp2_with fail;refine(y.o _).mono ?_;rintro e g ⟨rfl,rfl⟩;go_wp2_with fail;go_ret;exact⟨jC (by first | (rw[a.o,b.o];done) | (rw[a.o,b.o,<-j.o];done) | (rw[a.o,b.o,<-i.o];done)),rfl⟩
  ·rw[bh (by omega),bh (by omega)] at a
   go_enter func310,ntmps310;go_wp2_with fail;refine(m.o _).mono ?_;rintro e g ⟨rfl,rfl⟩;go_wp2_with fail;go_ret;exact⟨jC (by first | (rw[a.o,b.o];done) | (rw[a.o,b.o,<-j.o];done) | (rw[a.o,b.o,<-i.o];done)),rfl⟩
 ·rw[bh v] at b
  clear u;rcases z with⟨d,o⟩ | ⟨d,x,o⟩ | ⟨d,x,o⟩
  ·rw[bg d] at a
   go_enter func310,ntmps310;go_wp2_with fail;refine(m.o _).mono ?_;rintro e g ⟨rfl,rfl⟩;go_wp2_with fail;go_ret;exact⟨jC (by first | (rw[a.o,b.o];done) | (rw[a.o,b.o,<-j.o];done) | (rw[a.o,b.o,<-i.o];done)),rfl⟩
  ·rw[bh (by omega),bg d] at a
   have C:=ae d;clear d;go_enter func310,ntmps310;go_wp2_with fail;refine(m.o _).mono ?_;rintro e g ⟨rfl,rfl⟩;go_wp2_with fail;refine(y.o _).mono ?_;rintro e g ⟨rfl,rfl⟩;go_wp2_with fail;go_ret;exact⟨jC (by first | (rw[a.o,b.o];done) | (rw[a.o,b.o,<-j.o];done) | (rw[a.o,b.o,<-i.o];done)),rfl⟩
  ·rw[bh (by omega),bh (by omega)] at a
   go_enter func310,ntmps310;go_wp2_with fail;refine(m.o _).mono ?_;rintro e g ⟨rfl,rfl⟩;go_wp2_with fail;go_ret;exact⟨jC (by first | (rw[a.o,b.o];done) | (rw[a.o,b.o,<-j.o];done) | (rw[a.o,b.o,<-i.o];done)),rfl⟩
def OwnI(w:World)(C:Nat)(v:Value)(l:PI):Prop:=w.ownsRow C 3 1 v l.length (bH l)
theorem OwnI.nil(w:World)(C:Nat):OwnI w C (slice none 0 0) []:=World.ownsRow_nil _ _ _ _
theorem OwnI.below{w w':World}{C:Nat}{v:Value}{l:PI}(a:OwnI w C v l)(b:Below w.heap.size w w'):OwnI w' C v l:=fI a b
theorem OwnI.base{w:World}{C a:Nat}{v:Value}{l:PI}(b:OwnI w C v l)(c:a<=C):OwnI w a v l:=kI b c
theorem OwnI.rd{w:World}{C:Nat}{v:Value}{l:PI}(b:OwnI w C v l):∃a c,v=slice a l.length c/\Rd w w.heap.size a l.length (bH l):=mV b
theorem OwnI.append{w':World}{C:Nat}{a:Value}{l:PI}{x:Nat}(b:w'.ownsRow C 3 1 a (l.length+1) (bH l++[int i64 (x:Nat)])):OwnI w' C a (l++[x]):=by
 unfold OwnI;rw[show bH (l++[x])=bH l++[int i64 (x:Nat)] by simp[bH],aH];exact b
theorem Hg(l:Int)(x: -9223372036854775808<=l/\l<=9223372036854775807)(w:World):
 Calls prog 243 #[int i64 l] w λf g=>∃v,f=returned v/\OwnI g w.heap.size v (jO l)/\Below w.heap.size w g:=by
 by_cases p:1<=l/\l<=64
 ·obtain⟨b,rfl⟩:=Int.eq_ofNat_of_zero_le (a:=l) (by omega)
  have m:1<=b:=(by omega);have i:b<=64:=(by omega);rw[yR ⟨m,i⟩];clear x p;have y:PH (∀k,1<=k->k<=b->∀w,Calls prog 310 #[int i64 b,int i64 k] w λf g=>f=returned (int i64 (Dm b k:Nat))/\w=g):=ae λk a c w=>BG b k m i a c w;obtain⟨z,e,n,o,q⟩:=info_parts iU;go_enter func243,ntmps243
  go_wp2_with (at_make;refine wpList_make_own _ rfl _ _ 22 rfl w.heap.size 3 z (int i64 0) 1 underlying22 e n o _ _ _ b rfl rfl rfl ?m1 ?m2 ?m3 ?_)
  case m1=>rw[q];omega
  case m2=>unfold maxLen;omega
  case m3=>exact aj _
  intro r s j;have t:Below w.heap.size w r:=(az _ _).grown j (aj _) (by simp);have c:PH (OwnI r w.heap.size (slice (some ⟨w.heap.size,0,none⟩) 0 b) ((lC b).take 0)):=s;have d:=ae t;clear s j t e n o q;go_wp2_with fail;generalize o:w.heap.size=e at*;have n:=ae o;clear o;generalize (Value.slice (some ⟨e,0,none⟩) 0 (b:Nat))=K at*;go_loopw [3,4,5] (λv q o wr=>∃k:Nat,k<=b/\o=int i64 ((k:Int)+1)/\q=int i64 (ic b k:Nat)/\PH (OwnI wr e v ((lC b).take k))/\PH (Below e w wr)) (λ_ _ o _=>b+1-(intOf o).toNat)
  case atStart=>exact⟨0,by omega,rfl,rfl,c,d⟩
  case round=>
   clear c d;obtain⟨k,L,rfl,rfl,c,d⟩:=hrel;by_cases A:k<b
   ·have o:∀w,Calls prog 310 #[int i64 b,int i64 ((k:Int)+1)] w λf g=>f=returned (int i64 (Dm b (k+1):Nat))/\w=g:=y.o (k+1) (by omega) (by omega)
    have M:=sum_lt i (k:=k) (by omega);have N:=sum_lt i (k:=k+1) (by omega);have O:(ic b k:Int)+(Dm b (k+1):Int)=(ic b (k+1):Nat):=(by rw[<-Int.natCast_add];rfl);have g:=GI A;have q:((lC b).take k).length=k:=(by rw[aG,iz];omega);have B:=ae o;have C:=ae g;have s:=ae q;clear o g q;generalize ic b k=P at*;generalize g:ic b (k+1)=D at*;have E:=ae g;clear g;generalize Dm b (k+1)=Q at*;go_wp2_with fail;refine(B.o _).mono ?_;rintro f R ⟨rfl,rfl⟩;have g:=c.o;unfold OwnI at g;rw[s.o] at g;have F:e<=wr.heap.size:=by have:=d.o.size;have:=n.o;omega
    go_wp2_with (at_builtin;refine Ma _ rfl _ _ 22 rfl e 3 (int i64 0) 8 underlying22 iU rfl _ k _ rfl (g.alloc _) _ (int i64 (D:Nat)) rfl ?p2 rfl ?p3 ?p4 ?p5 ?_)
    case p2=>go_simp
    case p3=>omega
    case p4=>unfold maxLen;omega
    case p5=>simp;omega
    intro G q t u _;have H:PH (OwnI q e G ((lC b).take (k+1))):=ae (by rw[C.o];exact OwnI.append (by rw[s.o];exact t));have I:PH (Below e w q):=ae ((d.o.alloc F _).grown u (by simp;omega) (λJ j=>(g.lt J j).1));clear g t u c d;go_wp2_with fail;go_roundw
    case rel=>exact⟨k+1,by omega,by go_num,by rw[E.o],H,I⟩
    case measure=>simp[intOf];omega
   ·obtain rfl:k=b:=by omega
    have f:(lC k).take k=lC k:=aJ (by rw[iz];exact aj _);rw[f] at c;go_wp2_with fail;go_ret;exact⟨_,rfl,by rw[n.o];exact c.o,by rw[n.o];exact d.o⟩
 ·have b:l<1\/64<l:=by omega
  rw[Kg b];clear p;by_cases m:l<1
  ·go_enter func243,ntmps243
   go_wp2_with fail;go_ret;exact⟨_,rfl,OwnI.nil _ _,az _ _⟩
  ·have i:64<l:=by omega
   go_enter func243,ntmps243;go_wp2_with fail;go_ret;exact⟨_,rfl,OwnI.nil _ _,az _ _⟩
def Dp(w:World)(p:PK)(s:Int):Prop:=p=none\/∃a b,p=some ⟨a,b,none⟩/\At w ⟨a,b,none⟩ (.int .u64 s)
def lu(w:World)(p:PK)(s:Int):World:=match p with | none=>w | some a=>w.setCell a (.int .u64 s)
theorem Gl(w:World)(p:PK)(s t:Int)(a:p=none\/∃b o,p=some ⟨b,o,none⟩):lu (lu w p s) p t=lu w p t:=by
 rcases a with rfl | ⟨b,o,rfl⟩
 ·rfl
 ·exact Go.Proofs.setCell_setCell w b o _ _
theorem kP(w:World)(p:PK)(s:Int):(lu w p s).heap.size=w.heap.size:=by
 unfold lu;split <;> simp[World.setCell]
theorem Dp.lt{w:World}{b o:Nat}{s:Int}(c:Dp w (some ⟨b,o,none⟩) s):b<w.heap.size:=by
 rcases c with c | ⟨e,f,a,d⟩
 ·cases c
 ·injection a with a;injection a with a g;subst a;exact d.lt
theorem Dp.put{w:World}{p:PK}{s:Int}(a:Dp w p s)(t:Int):Dp (lu w p t) p t:=by
 rcases a with rfl | ⟨b,o,rfl,h2⟩
 ·exact .inl rfl
 ·exact .inr ⟨b,o,rfl,h2.put _⟩
theorem Dp.form{w:World}{p:PK}{s:Int}(a:Dp w p s):p=none\/∃b o,p=some ⟨b,o,none⟩:=by
 rcases a with a | ⟨b,o,a,_⟩
 ·exact .inl a
 ·exact .inr ⟨b,o,a⟩
theorem Dp.below{w w':World}{p:PK}{s:Int}{B:Nat}(a:Dp w p s)(c:Below B w w')(f:w.heap.size<=B):Dp w' p s:=by
 rcases a with a | ⟨d,e,rfl,b⟩
 ·exact .inl a
 ·exact .inr ⟨d,e,rfl,b.below c (by have:=b.lt;omega)⟩
theorem Dp.far{w:World}{p:PK}{s:Int}(a:Dp w p s){g:Nat}(c:∀b o,p=some ⟨b,o,none⟩->b<g)(i:Nat)(v:Value):Dp (w.setCell ⟨g,i,none⟩ v) p s:=by
 rcases a with a | ⟨b,o,rfl,d⟩
 ·exact .inl a
 ·exact .inr ⟨b,o,rfl,d.far (q:=⟨g,i,none⟩) (by have:=c b o rfl;simp;omega) v⟩
theorem Cx{B:Nat}{X Y:World}(a:Below B X Y)(f:B<=X.heap.size)(p:PK)(t:Int):Below B (lu X p t) (lu Y p t):=by
 unfold lu;split
 ·exact a
 ·rename_i d
  refine⟨a.os,a.tape,a.output,by simpa[World.setCell] using a.size,λb e=> ?_⟩;have:=a.block b e;by_cases c:d.block=b
  ·subst c
   simp only[World.setCell,Array.getElem?_modify];rw[this]
  ·simp only[World.setCell,Array.getElem?_modify,bh c]
   exact this
theorem Blk.setD{w:World}{g:Nat}{t:TypeId}{a:Array Value}(c:Blk w g t a){p:PK}(d:∀b o,p=some ⟨b,o,none⟩->b<g)(e:p=none\/∃b o,p=some ⟨b,o,none⟩)(x:Int):Blk (lu w p x) g t a:=by
 rcases e with rfl | ⟨b,o,rfl⟩
 ·exact c
 ·exact c.far (p:=⟨b,o,none⟩) (by have:=d b o rfl;simp;omega) _
theorem Ak(s n:Int)(p:PK)(w:World)(f:Dp w p s)(g: -9223372036854775808<=n/\n<=9223372036854775807):
 Calls prog 309 #[.pointer p,int i64 n] w λa c=>a=returned (int i64 (bN p.isNone s n:Nat))/\c=lu w p (sN p.isNone s n):=by
 rcases f with rfl | ⟨b,o,rfl,h2⟩
 ·exact(uH n w).mono λa c ⟨d,e⟩=>⟨d,e.symm⟩
 ·refine(uG s n _ w h2.1 h2.2 g).mono λa c ⟨d,e⟩=>⟨?_,e.symm⟩
  rw[d];have:(mf s n)=((mf s n).toNat:Int):=(by have:=(sV s n).1;omega);show Ending.returned (int i64 (mf s n))=Ending.returned (int i64 ((mf s n).toNat:Int));rw[<-this]
def mD(l:PI):Array Value:=(bH l).toArray
theorem Gn(l:PI):(mD l).size=l.length:=by simp[mD,bH]
theorem qq{l:PI}{i:Nat}(a:i<l.length):(mD l)[i]? =some (int i64 (l.getD i 0:Nat)):=by
 simp only[mD,List.getElem?_toArray];exact bT a
theorem uU(l:PI)(i x:Nat):(mD l).setIfInBounds i (int i64 (x:Nat))=mD (l.set i x):=by
 apply Array.ext';rw[Array.toList_setIfInBounds];simp[mD,bH]
def Ex(n k:Nat):PI:=range k++replicate (n-k) 0
theorem Ey{n k:Nat}(a:k<=n):(Ex n k).length=n:=by simp[Ex];omega
theorem JW(n:Nat):Ex n n=range n:=by simp[Ex]
theorem MC{n k:Nat}(a:k<n):(Ex n k).set k k=Ex n (k+1):=by
 unfold Ex;rw[set_append_right _ _ (by simp),aZ,Nat.sub_self,show n-k=(n-(k+1))+1 by omega,replicate_succ,set_cons_zero,range_succ,append_assoc];rfl
theorem JX(n:Nat):madeCells #[Value.int .i64 0] n=mD (Ex n 0):=by
 apply Array.ext (by rw[size_madeCells,Gn,Ey (bu _)]);intro a b c;simp[madeCells,mD,bH,Ex,Nat.mod_one]
theorem Gp(a:Addr)(n c:Nat)(xs:List Value)(w:World)(b:Rd w w.heap.size (some a) n xs)(d:∀u∈xs,u.oneCell'=true)(p:n*8<=140737488355328):
 Calls prog 99 #[slice (some a) n c] w λf e=>∃v,f=returned v/\e.ownsRow w.heap.size 3 1 v n xs/\Below w.heap.size w e/\v≠ slice none 0 0:=by
 have q:=λe=>Lib.run_eql_slice_nil (P:=prog) e 22 3 (some a) n c 0 0 underlying22;have g:=ae b;have i:=ae d;clear b d;go_enter func99,ntmps99
 go_wp2_with (at_builtin;refine zP _ rfl _ _ 22 rfl w.heap.size 3 (int i64 0) 8 underlying22 iU rfl (slice (some ⟨w.heap.size,0,none⟩) 0 0) 0 [] rfl ?o1 w.heap.size a n c xs rfl ?o2 i.o ?o3 ?o4 ?o5 ?_)
 case o1=>exact World.ownsRow_made w #[] 0 (aj _) (by unfold maxLen;omega) (by simp)
 case o2=>exact g.o.keep (λf e=>World.cell?_alloc_lt _ _ _ e)
 case o3=>omega
 case o4=>unfold maxLen;omega
 case o5=>simp
 intro v e j k f;have l:Below w.heap.size w e:=((az _ _).alloc (aj _) _).grown k (by simp) (λo m=>by simp[Value.ownBlock] at m;omega);have m:e.ownsRow w.heap.size 3 1 v n xs:=by simpa using j
 have o:PH (v≠ slice none 0 0):=ae (by simpa using f);clear f;go_wp2_with fail;go_ret;exact⟨_,rfl,m,l,o.o⟩
section
open Go.RowKit Go.Sort
theorem Il{n:Nat}(g:n<=1000000)(w:World):(Instr.makeSlice 22 (int i64 (n:Int)) (int i64 (n:Int))).run prog w=.ok (slice (some ⟨w.heap.size,0,none⟩) n n) (w.alloc (cells (mD (Ex n 0)) 3)):=by
 obtain⟨b,c,d,e,f⟩:=info_parts iU;have a:=run_make (P:=prog) w 22 3 b (int i64 0) underlying22 c d .i64 .i64 (n:Int) (n:Int) (by omega) (by omega) (by rw[f];omega) (by omega);rw[e,Nat.mul_one,Int.toNat_natCast] at a;rw[<-JX];exact a
theorem Bm(p:PK)(n k:Int)(w:World)(c:¬(0<=n/\n<=64/\0<=k/\k<=n)):
 Calls prog 244 #[.pointer p,int i64 n,int i64 k] w λa b=>a=returned (slice none 0 0)/\w=b:=by
 go_enter func244,ntmps244;go_wp2_with fail
 all_goals first | omega | (go_ret;exact⟨rfl,rfl⟩) | skip
theorem Lp(p:PK)(s:Int)(n k:Nat)(w:World)(hn:n<=64)(hk:k<=n)(J:Dp w p s):
 Calls prog 244 #[.pointer p,int i64 n,int i64 k] w λy a=>∃v,y=returned v/\OwnI a w.heap.size v (chosen p.isNone n s k)/\Below w.heap.size (lu w p (jh p.isNone n s k)) a:=by
 have a:=Il (n:=n) (by omega);have g1:¬(n:Int)>64:=by omega
 have g2:¬(k:Int)>(n:Int):=by omega
 have j:=ae J;clear J;go_enter func244,ntmps244
 go_wp2_with (simp only[a])
 have b:=Blk.new w 3 (mD (Ex n 0));have c:=(az w.heap.size w).alloc (aj _) (cells (mD (Ex n 0)) 3);have i:=ae b;have e:=ae c;clear b c a;generalize w.alloc (cells (mD (Ex n 0)) 3)=w1 at*;generalize a:w.heap.size=d at*;have m:=ae a;clear a;go_loopw [8,31] (λ_ l wr=>∃b:Nat,b<=n/\l=int i64 b/\PH (Blk wr d 3 (mD (Ex n b)))/\PH (Below d w wr)) (λ_ l _=>n-(intOf l).toNat)
 case atStart=>exact⟨0,by omega,rfl,i,e⟩
 case round=>
  clear i e;obtain⟨b,hj,rfl,i,e⟩:=hrel;by_cases q:b<n
  ·have a:=i.o.set b (int i64 (b:Nat))
   rw[uU,MC q] at a;have o:=(i.o.cell b).trans (qq (by rw[Ey (by omega)];exact q));have r:=i.o.frozen b;have c:=ae a;have f:=ae (e.o.setCell (p:=⟨d,b,none⟩) (aj _) (int i64 (b:Nat)));clear a i e;have K:(b:Int)<(n:Int):=(by omega);go_wp2_with fail;go_roundw
   case rel=>exact⟨b+1,by omega,by go_num,c,f⟩
   case measure=>simp[intOf];omega
  ·obtain rfl:b=n:=by omega
   have L:PH (Blk wr d 3 (mD (iY p.isNone b s 0))):=ae (by have h:=i.o;rw[JW] at h;exact h);have a:Dp wr p s:=j.o.below e.o (by rw[m.o];exact aj _)
   have M:PH (Below d (lu w p s) wr):=ae (by
    rcases j.o with h | ⟨r,z,h,h2⟩
    ·subst h;exact e.o
    ·subst h
     show Below d (w.setCell ⟨r,z,none⟩ (.int .u64 s)) wr;rw[jm w _ _ h2.1];exact e.o)
   have N:=ae a;have O:=ae j.o.form;have D:=ae (show ∀r z,p=some ⟨r,z,none⟩->r<d from λr z h=>by rw[<-m.o];subst h;exact j.o.lt);generalize c:p.isNone=nl at*;have E:=ae c;clear i e a j c g1 q;go_wp2_with fail;go_loopw [9,10,40] (λ_ _ l wr=>∃a:Nat,a<=k/\l=int i64 a/\PH (Blk wr d 3 (mD (iY nl b s a)))/\PH (Dp wr p (jh nl b s a))/\PH (Below d (lu w p (jh nl b s a)) wr)) (λ_ _ l _=>k-(intOf l).toNat)
   case atStart=>exact⟨0,by omega,rfl,L,N,M⟩
   case round=>
    clear L N M;obtain⟨a,hq,rfl,i,j,e⟩:=hrel;by_cases q:a<k
    ·have C:a<b:=by omega
     have F:=K3 (nl:=nl) (s:=s) C;have c:=Ak (jh nl b s a) ((b:Int)-(a:Int)) p wr j.o (by omega);rw[E.o] at c;have P:PH (iY nl b s (a+1)=xM (iY nl b s a) a (a+bN nl (jh nl b s a) ((b:Int)-(a:Int)))):=ae rfl;have T:PH (jh nl b s (a+1)=sN nl (jh nl b s a) ((b:Int)-(a:Int))):=ae rfl;have A:=kZ nl b s a;have f:=Oj (nl:=nl) (s:=jh nl b s a) (n:=(b:Int)-(a:Int)) (by omega);generalize bN nl (jh nl b s a) ((b:Int)-(a:Int))=G at*;generalize u:sN nl (jh nl b s a) ((b:Int)-(a:Int))=t at*;generalize jh nl b s a=Z at*;generalize iY nl b s a=o at*;have I:=ae c;have Q:=ae A;have R:=ae f;have aa:=ae u;clear c A f u;have K:(a:Int)<(k:Int):=(by omega);go_wp2_with fail;refine I.o.mono ?_;rintro y w2 ⟨rfl,rfl⟩;have c:=i.o.setD D.o O.o t;have U:=ae (j.o.put t);have B:=Cx e.o (by rw[kP,m.o];exact aj _) p t;rw[Gl _ _ _ _ O.o] at B;have V:=ae B;obtain⟨f,x⟩:∃f,f=a+G:=⟨_,rfl⟩;rw[<-x] at F;have W:(a:Int)+(G:Int)=(f:Int):=(by omega);have X:(G:Int)<64:=(by have:=R.o;omega);rw[<-x] at P;have Y:=(c.cell a).trans (qq (by rw[Q.o];exact C));have u:=(c.cell f).trans (qq (by rw[Q.o];exact F));have f1:=c.frozen a;have f2:=c.frozen f;have H:=(c.set a (int i64 (o.getD f 0:Nat))).set f (int i64 (o.getD a 0:Nat));rw[uU,uU] at H;have S:PH (Blk (((lu wr p t).setCell ⟨d,a,none⟩ (int i64 (o.getD f 0:Nat))).setCell ⟨d,f,none⟩ (int i64 (o.getD a 0:Nat))) d 3 (mD (iY nl b s (a+1)))):=ae (by rw[P.o];exact H);have t3:=(c.set a (int i64 (o.getD f 0:Nat))).frozen f;have ab:=ae x;clear c B H i e j x I R;generalize o.getD a 0=c at*;generalize o.getD f 0=x at*;generalize lu wr p t=w3 at*;have H:=ae ((V.o.setCell (p:=⟨d,a,none⟩) (aj _) (int i64 (x:Nat))).setCell (p:=⟨d,f,none⟩) (aj _) (int i64 (c:Nat)));have ac:(a:Int)<(b:Int):=(by omega);have ad:(f:Int)<(b:Int):=(by omega);go_wp2_with fail;have B:=ae q;have I:=ae ((U.o.far D.o a (int i64 (x:Nat))).far D.o f (int i64 (c:Nat)));rw[T.o.symm] at H I;clear W X C F q K hq;by_cases R:a=f
     ·subst R
      obtain rfl:c=x:=(by rw[Y] at u;injection u with u;injection u with _ u;omega);go_region;go_wp2_with fail;refine⟨⟨a+1,by have:=B.o;omega,by go_num,ae S.o.drew,ae I.o,ae (Below.drew H.o)⟩,?_⟩;have:=B.o;simp[intOf];omega
     ·go_region
      go_wp2_with fail;refine⟨⟨a+1,by have:=B.o;omega,by go_num,ae S.o.drew,ae I.o,ae (Below.drew H.o)⟩,?_⟩;have:=B.o;simp[intOf];omega
    ·obtain rfl:a=k:=by omega
     have A:=kZ nl b s a
     have o:Rd wr wr.heap.size (some ⟨d,0,none⟩) a (bH ((iY nl b s a).take a)):=by
      refine⟨by simp[bH];omega,λf=>⟨d,0,rfl,i.o.lt,λl ag F=> ?_⟩⟩
      have hi:l<a:=by
       have:=(List.getElem?_eq_some_iff.1 F).1;simp[bH] at this;omega
      rw[Nat.zero_add,i.o.cell l,qq (by omega)];rw[bT (by rw[aG];omega)] at F;rw[<-F];simp only[af,List.getElem?_take,bg hi]
     have K:=ae (Gp ⟨d,0,none⟩ a b _ wr o (BD _) (by omega));have P:PH (((iY nl b s a).take a).length=a):=ae (by rw[aG];omega);have ac:PH (chosen nl b s a=((iY nl b s a).take a).mergeSort leB):=ae rfl;generalize (iY nl b s a).take a=f at*;clear o A i j;have R:a<=b:=hk;go_wp2_with fail;refine K.o.mono ?_;rintro y G ⟨v5,rfl,Q,S,T⟩
     obtain⟨g,o,u,rfl,H,B,U,V,W,X⟩:∃g o u,v5=slice (some ⟨g,0,none⟩) a o/\wr.heap.size<=g/\G.heap[g]? =some (.cells u 3 (0,0))/\a<=o/\o<=maxLen/\u.size=o*1/\u.toList.take (a*1)=bH f:=by
      rcases Q.2 with⟨h,_⟩ | h
      ·exact absurd h T
      ·exact h
     have t:(f.map λc:Nat=>(c:Int)).length=a:=(by rw[aC];exact P.o);have Y:bH f=(f.map λc:Nat=>(c:Int)).map (Value.int .i64):=(by simp[bH]);have Z:=holds_of_blockI (ss:=f.map λc:Nat=>(c:Int)) B (by rw[t,<-Y,<-Nat.mul_one a];exact X);have C:=Tryz.slices_Sort_int g 0 o (f.map λc:Nat=>(c:Int)) G Z (Array.getElem?_eq_some_iff.1 B).1 (by rw[t];omega);rw[t] at C
     have aa:(f.map λc:Nat=>(c:Int)).mergeSort (λc x=>decide (c<=x))=(f.mergeSort leB).map λc:Nat=>(c:Int):=by
      refine(map_mergeSort ?_).symm;intro ai _ r _;simp[leB]
     have x:=ae λn os=>ownsRow_sortedI (n:=n) (os:=os) (ts:=(f.mergeSort leB).map λc:Nat=>(c:Int)) (ss:=f.map λc:Nat=>(c:Int)) (by rw[aC,(fG f).length_eq,aC]) H B (by rw[t];exact U) V W;rw[t] at x;rw[aa] at C;have CS:=ae C;have I:=ae (e.o.trans (S.mono (by have h:=e.o.size;rw[kP,m.o] at h;exact h)));have ad:=ae (show d<=g from aP (by have h:=e.o.size;rw[kP,m.o] at h;exact h) H);have ab:=ae (show d<=wr.heap.size from by have h:=e.o.size;rw[kP,m.o] at h;exact h);clear Z C aa Y Q S T B U V W X t H e K;go_wp2_with fail;refine CS.o.mono ?_;rintro y K ⟨rfl,t,os,rfl⟩;have B:=ae (x.o t os);have C:=ae (I.o.grown (grownBy_sortedI (w:=G) (g:=g) (n:=t) (os:=os) ((f.mergeSort leB).map λc:Nat=>(c:Int)).toArray) (by have:=ab.o;have h:=I.o.size;rw[kP,m.o] at h;exact h) (λQ H=>by cases H;exact ad.o));generalize grow _ os=H at*;clear x CS I;go_wp2_with fail;go_ret;refine⟨_,rfl,?_,by rw[m.o,E.o];exact C.o⟩;rw[E.o,ac.o];have h:=B.o;show World.ownsRow _ _ _ _ _ _ (bH _);rw[(fG f).length_eq,P.o,m.o,show bH (f.mergeSort leB)=((f.mergeSort leB).map λc:Nat=>(c:Int)).map (Value.int .i64) by simp[bH]];exact kI h ab.o
end
section
open Go.RowKit Go.Sort
theorem DW(l:PI)(k x:Nat):(bH l).set k (int i64 (x:Nat))=bH (l.set k x):=by simp[bH]
theorem OwnI.cellA{w:World}{C g n c:Nat}{l:PI}(a:OwnI w C (slice (some ⟨g,0,none⟩) n c) l)(b:l.length=n){k:Nat}(d:k<n):w.cell? ⟨g,k,none⟩=some (int i64 (l.getD k 0:Nat))/\w.frozen? ⟨g,k,none⟩=false:=by
 unfold OwnI at a;rw[b] at a;exact⟨(a.cellAt k (by omega)).trans (bT (by omega)),a.frozenAt k⟩
theorem OwnI.storedA{w:World}{C g n c:Nat}{l:PI}(a:OwnI w C (slice (some ⟨g,0,none⟩) n c) l)(b:l.length=n)(k x:Nat):
 OwnI (w.setCell ⟨g,k,none⟩ (int i64 (x:Nat))) C (slice (some ⟨g,0,none⟩) n c) (l.set k x):=by
 unfold OwnI at a ⊢;rw[b] at a;rw[length_set,b,<-DW];exact(a.stored k _).1
theorem OwnI.formA{w:World}{C n c:Nat}{a:PK}{l:PI}(b:OwnI w C (slice a n c) l)(e:l.length=n)(f:0<n):∃g,a=some ⟨g,0,none⟩/\C<=g/\g<w.heap.size:=by
 unfold OwnI at b;rw[e] at b;obtain⟨g,j,d,h,i⟩:=b.form f;injection d with d;exact⟨g,d,h,i⟩
theorem OwnI.lenA{w:World}{C:Nat}{v:Value}{l:PI}(b:OwnI w C v l):∃a c,v=slice a l.length c:=by
 obtain⟨a,c,rfl,_⟩:=OwnI.rd b;exact⟨a,c,rfl⟩
theorem OwnI.ltA{w:World}{C:Nat}{v:Value}{l:PI}(a:OwnI w C v l):∀g,v.ownBlock=some g->C<=g/\g<w.heap.size:=World.ownsRow.lt a
end
section
open Go.RowKit Go.Sort
def OT(n k:Int):Bool:=decide (0<=n/\n<=64/\0<=k/\k<=n)
def zZ(s n k:Int):PI:=if OT n k then chosen false n.toNat s k.toNat else []
def OU(s n k:Int):Int:=if OT n k then jh false n.toNat s k.toNat else s
theorem JE(s n k:Int):(zZ s n k).length<=64:=by
 unfold zZ OT;split
 ·rename_i a
  simp only[decide_eq_true_eq] at a;rw[vP (by omega)];omega
 ·simp
theorem F8{w:World}{b o:Nat}{s:Int}(a:At w ⟨b,o,none⟩ (.int .u64 s)):lu w (some ⟨b,o,none⟩) s=w:=jm w _ _ a.1
theorem Mk(b o:Nat)(s n k:Int)(w:World)(e:At w ⟨b,o,none⟩ (.int .u64 s)):
 Calls prog 244 #[pointer (some ⟨b,o,none⟩),int i64 n,int i64 k] w λa d=>∃v,a=returned v/\OwnI d w.heap.size v (zZ s n k)/\Below w.heap.size (lu w (some ⟨b,o,none⟩) (OU s n k)) d:=by
 by_cases c:0<=n/\n<=64/\0<=k/\k<=n
 ·obtain⟨f,rfl⟩:=Int.eq_ofNat_of_zero_le c.1
  obtain⟨g,rfl⟩:=Int.eq_ofNat_of_zero_le c.2.2.1;have a:OT (f:Int) (g:Int)=true:=bf c;unfold zZ OU;rw[bg a,bg a];exact Lp (some ⟨b,o,none⟩) s f g w (by omega) (by omega) (.inr ⟨b,o,rfl,e⟩)
 ·have a:¬OT n k=true:=by simp only[OT,decide_eq_true_eq];exact c
  unfold zZ OU;rw[bh a,bh a,F8 e];exact(Bm _ n k w c).mono λa d ⟨g,f⟩=>⟨_,g,f▸OwnI.nil _ _,f▸az _ _⟩
structure Aft (W:World) (b o:Nat) (t:Int) (w':World):Prop where
 far:∀k,k≠b->k<W.heap.size->w'.heap[k]? =W.heap[k]?
 at_:At w' ⟨b,o,none⟩ (.int .u64 t)
 size:W.heap.size<=w'.heap.size
theorem Aft.below{W w w':World}{b o G:Nat}{s t:Int}(a:At W ⟨b,o,none⟩ (.int .u64 s))(c:Below W.heap.size (lu W (some ⟨b,o,none⟩) t) w')(d:Below G w W)(e:G<=b):Below G w w':=
 (d.setCell (p:=⟨b,o,none⟩) e (.int .u64 t)).trans (c.mono (by have:=a.lt;simp at this;omega))
end
