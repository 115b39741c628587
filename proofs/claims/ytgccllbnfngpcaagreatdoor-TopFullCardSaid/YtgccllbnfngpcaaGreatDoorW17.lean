import Derived.Test.YtgccllbnfngpcaaGreatDoorW16
set_option linter.unusedVariables false
set_option maxRecDepth 100000
set_option maxHeartbeats 400000000
namespace Go.Proofs.YtgccllbnfngpcaaGreatDoor
open Go.RowKit _root_.Go.Proofs.Tryz List
open Value (int slice pointer bool)
open IntKind (i64)
open Ending (returned)
open Obj (cells)
section
def okRF(K H Z:Nat)(es:List cN)(x:Option cJ×PI):Prop:=
 x.2.length=64/\By x.2/\((x.1=none/\¬(jf x.2/\x.2.getD 3 0=1))\/∃b:cJ,x.2=cellL 1 (iR b.o b.b b.i K H Z b.t b.d)/\b.d.length=Z/\By b.d/\b.i<=65535/\b.o<=16777215/\b.b<8/\b.t<4294967296/\(∀d∈es,d.obj=b.o->Ha d b)/\x.1=if es.any (λd=>d.obj == b.o)=true then some b else none)
def sK(m:cQ)(X:List (Option cJ×PI)):Prop:=(∀b∈X,okRF m.K m.H m.Z m.objs b)/\X.length<=24/\ou (dX X)
def vC(P:PaF)(ps:List ObF):wW->Option cJ×PI
 | .inl c=>(none,c)
 | .inr b=>(if Bo ps b=true then some b else none,kJ P.K P.H P.Z b)
theorem AU(P:PaF)(ps:List ObF)(X:List wW):fU (X.map (vC P ps))=X.map (yf P):=by
 unfold fU;rw[map_map];refine map_congr_left λb _=> ?_;cases b <;> rfl
theorem yV(P:PaF)(ps:List ObF):∀X:List wW,dX (X.map (vC P ps))=(X.filterMap NZ).filter (Bo ps)
 | []=>rfl
 | .inl c :: X=>by
   have b:=yV P ps X;unfold dX at b ⊢;rw[map_cons,filterMap_cons_none (show(vC P ps (.inl c)).1=none from rfl),filterMap_cons_none (show NZ (.inl c)=none from rfl)];exact b
 | .inr r :: X=>by
   have b:=yV P ps X;unfold dX at b ⊢;rw[map_cons,filterMap_cons_some (show NZ (.inr r)=some r from rfl)];by_cases d:Bo ps r=true
   ·rw[filterMap_cons_some (show(vC P ps (.inr r)).1=some r from bg d),filter_cons_of_pos d,b]
   ·rw[filterMap_cons_none (show(vC P ps (.inr r)).1=none from bh d),filter_cons_of_neg d,b]
theorem EJ(L:List cJ):(L.map (Sum.inr:cJ->wW)).filterMap NZ=L:=by
 rw[filterMap_map];exact filterMap_some
theorem tE(L:List PI):(L.map (Sum.inl:PI->wW)).filterMap NZ=[]:=by
 rw[filterMap_map];exact filterMap_eq_nil_iff.2 λb _=>rfl
theorem Nk{X:List wW}{r:cJ}(d:r∈X.filterMap NZ): .inr r∈X:=by
 obtain⟨e,f,b⟩:=mem_filterMap.1 d;cases e with
 | inl g=>cases b
 | inr g=>injection b with b;subst b;exact f
section
variable {P:PaF} {s o:Nat} {ps:List ObF} {es:List cN} {X:Nat->List wW}
theorem yX{q:ObF}(d:ObF.OK P q)(e:P.OK)(j:q.o<=100000)(i:Nat):∀r∈oM P i q,zU P (.inr r)/\r.o=q.o/\Ha q.ent r:=by
 intro r k;obtain⟨b,f,g,l,rfl⟩:=Bc k;have m:=ba e.hk;have h:=(mL e.hk (fJ (q:=P.K*P.Z) b d.hb).2 (fJ b d.hb).1 (d.hT.2 b g).2.1).2.1;have p:=(d.hT.2 b g).1;have t:=d.h8;have u:=e.h6;refine⟨⟨j,by show b<8;omega,by show f<=65535;omega,?_,jJ e.hk h f,En e.hk h f⟩,rfl,rfl,by show b<q.T.length;rw[d.hT.1];exact g,rfl,by show q.o<=16777215;omega,by show q.T.getD b 0<=16;omega,by show b<8;omega⟩;show lj q.o q.T b<4294967296;unfold lj ia;omega
theorem o7{q:ObF}{i:Nat}{r:cJ}(b:r∈oM P i q):r.o=q.o:=by
 obtain⟨d,e,f,g,rfl⟩:=Bc b;rfl
theorem vE{i:Nat}{r:cJ}(b:r∈jT P ps i):∃q∈ps,r∈oM P i q:=by
 obtain⟨L,d,e⟩:=mem_flatten.1 b;obtain⟨q,f,rfl⟩:=aY.1 d;exact⟨q,f,e⟩
theorem He(e:ps.Pairwise λa d=>a.o<d.o)(i:Nat):ou (jT P ps i):=by
 refine Jg ?_;unfold jT;rw[pairwise_flatten];refine⟨λL f=> ?_,?_⟩
 ·obtain⟨b,_,rfl⟩:=aY.1 f
  exact NB b.o P.K P.H P.Z P.ex b.T b.l b.ords b.nb i
 ·rw[pairwise_map]
  refine e.imp ?_;intro a d h j b k g;have l:=o7 b;have m:=o7 g;exact .inl (by omega)
theorem AV(d:Nat)(i:Nat):∀ps:List ObF,(jT P ps i).filter (λf=> !(f.o == d))=jT P (ps.filter λb=> !(b.o == d)) i
 | []=>rfl
 | b :: ps=>by
   have h:=AV d i ps;unfold jT at h ⊢;rw[map_cons,flatten_cons,filter_append,h];by_cases e:b.o=d
   ·rw[filter_cons_of_neg (by simp[e]),sw (l:=oM P i b) λf g=>by rw[o7 g,e];simp]
    rfl
   ·rw[filter_cons_of_pos (by simp[e]),filter_all (l:=oM P i b) λf g=>by rw[o7 g];simp[e],map_cons,flatten_cons]
theorem Nl(b:Nat)(r:cJ):Bo (ps.filter λd=> !(d.o == b)) r=(Bo ps r && !(r.o == b)):=by
 unfold Bo
 induction ps with
 | nil=>rfl
 | cons d ps g=>
   by_cases h:d.o=b
   ·rw[filter_cons_of_neg (by simp[h]),g,any_cons]
    by_cases e:r.o=b
    ·simp[e]
    ·have:(d.o == r.o)=false:=by rw[beq_eq_false_iff_ne];omega
     simp[this]
   ·rw[filter_cons_of_pos (by simp[h]),any_cons,g,any_cons]
    by_cases e:r.o=b
    ·have i:(d.o == r.o)=false:=by rw[beq_eq_false_iff_ne];omega
     have f:(r.o == b)=true:=(by rw[e,beq_self_eq_true]);rw[i,f];simp
    ·have f:(r.o == b)=false:=beq_eq_false_iff_ne.2 e
     rw[f];simp
theorem xD{b d:Nat}{L:List cJ}(e:∀r∈L,r.o≠d):gq d b L=[]:=by
 unfold gq;rw[sw λr f=>by simp[e r f]];rfl
theorem xE{q:ObF}{b i:Nat}:∀ {ps:List ObF},(ps.Pairwise λa b=>a.o<b.o)->q∈ps->gq q.o b (jT P ps i)=gq q.o b (oM P i q)
 | a :: ps,ri,hq=>by
   obtain⟨e,f⟩:=pairwise_cons.1 ri;have g:jT P (a :: ps) i=oM P i a++jT P ps i:=(by unfold jT;rw[map_cons,flatten_cons]);rw[g,vB];rcases mem_cons.1 hq with rfl | hq
   ·rw[xD (L:=jT P ps i) λh d=>by
     obtain⟨j,k,l⟩:=vE d;have:=e j k;rw[o7 l];omega,append_nil]
   ·rw[xD (L:=oM P i a) λh d=>by
     have:=e q hq;rw[o7 d];omega,nil_append]
    exact xE f hq
theorem Pn(b:es.Perm (ps.map ObF.ent))(r:cJ):es.any (λd=>d.obj == r.o)=Bo ps r:=by
 unfold Bo;rw[b.any_eq,any_map];rfl
theorem AX{x:wW}(b:zU P x)(d:P.OK):(yf P x).length=64/\By (yf P x):=by
 have f:=ba d.hk;cases x with
 | inl c=>exact⟨b.1,b.2.1⟩
 | inr g=>
   obtain⟨h,i,j,k,l,e⟩:=b;exact⟨gA (by rw[iT];omega),EM (by decide) (Nz (by omega) (by omega) (by omega) e)⟩
theorem InvF.cnt(b:InvF P s o ps es X){i:Nat}(d:i<P.N):dX ((X i).map (vC P ps))=jT P ps i:=(yV P ps (X i)).trans (b.hX i d).cu
theorem InvF.okR(b:InvF P s o ps es X){i:Nat}(q:i<P.N):sK (eO P s o es) ((X i).map (vC P ps)):=by
 have f:=b.hX i q;have R:=b.hs;have S:=b.ho;refine⟨λT z=> ?_,by rw[aC];exact aP f.ln b.hP.hr,by rw[b.cnt q];exact He b.ri i⟩;obtain⟨r,h,rfl⟩:=aY.1 z;have j:=f.ok r h;have g:=AX j b.hP;cases r with
 | inl c=>
   refine⟨g.1,g.2,.inl ⟨rfl,λd=> ?_⟩⟩;have e:=j.2.2;have k:c.getD 3 0=1:=d.2;omega
 | inr d=>
   obtain⟨U,A,C,D,E,G⟩:=j;have V:=f.rc d h;refine⟨g.1,g.2,.inr ⟨d,rfl,E,G,C,by omega,A,D,λW I k=> ?_,?_⟩⟩
   ·obtain⟨l,m,rfl⟩:=b.emem I
    have k:l.o=d.o:=k;have J:Bo ps d=true:=any_eq_true.2 ⟨l,m,by rw[k,beq_self_eq_true]⟩
    have M:d∈jT P ps i:=by
     rw[<-f.cu];exact mem_filter.2 ⟨mem_filterMap.2 ⟨_,h,rfl⟩,J⟩
    obtain⟨t,N,u⟩:=vE M
    have O:t=l:=by
     have Y:=o7 u;obtain⟨a,v,rfl⟩:=bC m;obtain⟨p,x,rfl⟩:=bC N;have y:=pairwise_iff_getElem.1 b.ri;rcases Nat.lt_trichotomy a p with e | e | e
     ·have:=y a p v x e;omega
     ·subst e;rfl
     ·have:=y p a x v e;omega
    subst O;have Q:=b.hp t m;exact(yX Q.1 b.hP (by omega) i d u).2.2
   ·show(if Bo ps d=true then some d else none)=_
    rw[<-Pn b.pm d];rfl
theorem InvF.good(b:InvF P s o ps es X){i:Nat}(g:i<P.N):El (eO P s o es) ((X i).map (yf P)):=by
 have d:=b.hX i g;refine⟨λe f=> ?_,?_,λe f=>aY.2 ⟨.inl e,d.pg e f,rfl⟩⟩
 ·obtain⟨h,j,rfl⟩:=aY.1 f
  exact AX (d.ok h j) b.hP
 ·rw[aC]
  have:=d.ln;have:=b.hP.hr;omega
theorem InvF.sym{q:ObF}(f:InvF P s o ps es X)(l:q∈ps){b:Nat}(h:b<q.nb):(∀x∈fH (λd=>(X d).map (vC P ps)) q.o b (range P.N),x.1<=65535/\x.2=gN P.K P.H P.Z (lj q.o q.T b:Nat) (nR P.K P.H P.Z q.o q.T q.l b) x.1)/\(fH (λd=>(X d).map (vC P ps)) q.o b (range P.N)).length<=1000/\dK P.K P.H P.Z (lj q.o q.T b:Nat) ((fH (λd=>(X d).map (vC P ps)) q.o b (range P.N)).map Prod.fst)=true:=by
 have k:=(f.hp q l).1;have v:=f.hP.hN;have z:=f.hP.h6;have A:=f.hP.hr
 have m:∀d,d<P.N->gq q.o b (dX ((X d).map (vC P ps)))=(Bn (P.K+P.ex) (q.ords b) d).map λe=>(e,gN P.K P.H P.Z (lj q.o q.T b:Nat) (nR P.K P.H P.Z q.o q.T q.l b) e):=λd g=>by
  rw[f.cnt g,xE f.ri l];exact KY h
 have i:∀x∈fH (λd=>(X d).map (vC P ps)) q.o b (range P.N),x.1<=65535/\x.2=gN P.K P.H P.Z (lj q.o q.T b:Nat) (nR P.K P.H P.Z q.o q.T q.l b) x.1:=λx i=>by
  obtain⟨C,y,p⟩:=mem_flatten.1 i;obtain⟨d,g,rfl⟩:=aY.1 y;rw[m d (bA.1 g)] at p;obtain⟨e,j,rfl⟩:=aY.1 p;have r:=bA.1 (mem_filter.1 j).1;exact⟨by show e<=65535;omega,rfl⟩
 refine⟨i,?_,?_⟩
 ·have r:=AR (X:=λd=>(X d).map (vC P ps)) (o:=q.o) (b:=b) (L:=range P.N) (c:=24) λd g=>by
   have u:=(f.hX d (bA.1 g)).ln;have t:(dX ((X d).map (vC P ps))).length<=((X d).map (vC P ps)).length:=length_filterMap_le _ _;rw[aC] at t;omega
  rw[aZ] at r;have:P.N*24<=5*24:=Nat.mul_le_mul_right _ v.2;omega
 ·refine Hw f.hP.hk (k.hT.2 b h).2.1 (λe j=> ?_) λe j=> ?_
  ·have D:(q.ords b).length=P.N:=by rw[(k.ho b h).length_eq,aZ]
   have t:e%(q.ords b).length<(q.ords b).length:=Nat.mod_lt _ (by omega)
   have u:(q.ords b).getD (e%(q.ords b).length) 0∈range P.N:=by
    rw[af,ah t];exact(k.ho b h).mem_iff.1 (aQ t)
   refine aY.2 ⟨(e,gN P.K P.H P.Z (lj q.o q.T b:Nat) (nR P.K P.H P.Z q.o q.T q.l b) e),?_,rfl⟩;refine mem_flatten.2 ⟨_,aY.2 ⟨_,u,rfl⟩,?_⟩;rw[m _ (bA.1 u)];refine aY.2 ⟨e,mem_filter.2 ⟨bA.2 (by omega),?_⟩,rfl⟩;exact beq_self_eq_true _
  ·obtain⟨x,t,rfl⟩:=aY.1 j
   exact(i x t).1
def qJ(P:PaF)(s o:Nat)(ps:List ObF)(es:List cN)(i:Nat):List wW:=(bJ (eO P s o es)).map .inl++(jT P ps i).map .inr
def xG(P:PaF)(s o:Nat)(ps:List ObF)(es:List cN)(X:Nat->List wW)(n:Nat->Nat)(i:Nat):List wW:=if (X i).length+n i<=P.r then X i else qJ P s o ps es i
def Po(P:PaF)(s o:Nat)(ps:List ObF)(es:List cN)(X:Nat->List wW)(n:Nat->Nat):Prop:=∀b,b<P.N->(X b).length+n b<=P.r\/(qJ P s o ps es b).length+n b<=P.r
theorem RowsF.keep{i:Nat}{Y:List wW}(v:RowsF P s o ps es i Y)(j:P.OK)(m:OkEs P o es)(p:∀q∈ps,ObF.OK P q/\q.o<o)(x:o<=1000)(r:(qJ P s o ps es i).length<=P.r):RowsF P s o ps es i (qJ P s o ps es i):=by
 have h:∀d∈jT P ps i,zU P (.inr d)/\d.o<o/\Bo ps d=true:=λd b=>by
  obtain⟨q,k,t⟩:=vE b;have u:=p q k;have l:=yX u.1 j (by omega) i d t;exact⟨l.1,by omega,any_eq_true.2 ⟨q,k,by rw[l.2.1,beq_self_eq_true]⟩⟩
 refine⟨λy e=> ?_,λc g=>mem_append_left _ (aY.2 ⟨c,g,rfl⟩),λd b=> ?_,?_,r⟩
 ·rcases bz.1 e with e | e
  ·obtain⟨c,g,rfl⟩:=aY.1 e
   exact sW m j g
  ·obtain⟨d,b,rfl⟩:=aY.1 e
   exact(h d b).1
 ·rcases bz.1 b with b | b
  ·obtain⟨c,g,f⟩:=aY.1 b
   cases f
  ·obtain⟨z,g,f⟩:=aY.1 b
   injection f with f;subst f;exact(h _ g).2.1
 ·unfold qJ
  rw[filterMap_append,tE,EJ,nil_append];exact filter_all λd b=>(h d b).2.2
theorem InvF.roomed(b:InvF P s o ps es X){n:Nat->Nat}(f:Po P s o ps es X n):InvF P s o ps es (xG P s o ps es X n)/\∀i,i<P.N->(xG P s o ps es X n i).length+n i<=P.r:=by
 have g:=b.ho;refine⟨⟨b.hP,b.hs,b.ho,b.hp,b.ri,b.pm,b.re,λi d=> ?_⟩,λi d=> ?_⟩
 ·unfold xG
  split
  ·exact b.hX i d
  ·rename_i e
   have h:=(f i d).resolve_left e;exact(b.hX i d).keep b.hP b.okEs b.hp (by omega) (by omega)
 ·unfold xG
  split
  ·rename_i e;exact e
  ·rename_i e
   exact(f i d).resolve_left e
theorem InvF.del{q:ObF}{g:List cN}(d:InvF P s o ps es X)(hs:s+1<=60)(z:q∈ps)(k:g.Perm ((ps.filter λb=> !(b.o == q.o)).map ObF.ent))(l:nZ g)(e:∀i,i<P.N->(X i).length+(bJ (eO P (s+1) o g)).length<=P.r):
 InvF P (s+1) o (ps.filter λb=> !(b.o == q.o)) g (λi=>X i++(bJ (eO P (s+1) o g)).map .inl):=by
 have m:∀b∈ps.filter (λb=> !(b.o == q.o)),ObF.OK P b/\b.o<o:=λb f=>d.hp b (mem_filter.1 f).1;have r:=d.ri.sublist (filter_sublist (p:=λb=> !(b.o == q.o)));have v:(ps.filter λb=> !(b.o == q.o)).length<=5:=aP (length_filter_le _ _) d.len5;have x:=li d.hP m r k l v;refine⟨d.hP,⟨by omega,hs⟩,d.ho,m,r,k,l,λi t=> ?_⟩;have j:=d.hX i t;refine⟨λb f=> ?_,λc h=>mem_append_right _ (aY.2 ⟨c,h,rfl⟩),λu e=> ?_,?_,?_⟩
 ·rcases bz.1 f with f | f
  ·exact j.ok b f
  ·obtain⟨c,h,rfl⟩:=aY.1 f
   exact sW x d.hP h
 ·rcases bz.1 e with e | e
  ·exact j.rc u e
  ·obtain⟨c,h,y⟩:=aY.1 e
   cases y
 ·rw[filterMap_append,tE,append_nil,<-AV,<-j.cu,filter_filter]
  refine filter_congr λu _=> ?_;rw[Nl,Bool.and_comm]
 ·rw[aH,aC]
  exact e i t
theorem InvF.put{q:ObF}{g:List cN}(f:InvF P s o ps es X)(hs:s+1<=60)(I:o+1<=60)(y:ObF.OK P q)(Q:q.o=o)(J:∀x∈ps,x.nm≠q.nm)(z:g.Perm ((ps++[q]).map ObF.ent))(A:nZ g)
 (d:∀i,i<P.N->(X i).length+((oM P i q).length+(bJ (eO P (s+1) (o+1) g)).length)<=P.r):
 InvF P (s+1) (o+1) (ps++[q]) g (λi=>X i++((oM P i q).map .inr++(bJ (eO P (s+1) (o+1) g)).map .inl)):=by
 have r:∀x∈ps++[q],ObF.OK P x/\x.o<o+1:=λx b=>by
  rcases bz.1 b with b | b
  ·have:=f.hp x b
   exact⟨this.1,by omega⟩
  ·obtain rfl:=mem_singleton.1 b
   exact⟨y,by omega⟩
 have C:(ps++[q]).Pairwise λa k=>a.o<k.o:=by
  rw[pairwise_append];refine⟨f.ri,by simp,λa t k h=> ?_⟩;obtain rfl:=mem_singleton.1 h;have:=(f.hp a t).2;omega
 have M:(ps++[q]).length<=5:=by
  have N:((ps++[q]).map ObF.nm).Nodup:=by
   rw[aU,nodup_append];refine⟨f.pnm,by simp,λa t k h=> ?_⟩;obtain⟨x,b,rfl⟩:=aY.1 t;have h:k=q.nm:=(by simpa using h);rw[h];exact J x b
  have D:=List.Nodup.length_le_of_subset N (l₂:=P.nms) λx b=>by
   obtain⟨E,u,rfl⟩:=aY.1 b;exact(r E u).1.hnm
  rw[aC] at D;have:=f.hP.h5;omega
 have O:=li f.hP r C z A M;refine⟨f.hP,⟨by omega,hs⟩,I,r,C,z,A,λi G=> ?_⟩;have m:=f.hX i G;have v:=yX y f.hP (by omega) i;refine⟨λx b=> ?_,λc p=>mem_append_right _ (mem_append_right _ (aY.2 ⟨c,p,rfl⟩)),λe d=> ?_,?_,?_⟩
 ·rcases bz.1 b with b | b
  ·exact m.ok x b
  ·rcases bz.1 b with b | b
   ·obtain⟨e,d,rfl⟩:=aY.1 b
    exact(v e d).1
   ·obtain⟨c,p,rfl⟩:=aY.1 b
    exact sW O f.hP p
 ·rcases bz.1 d with d | d
  ·exact Nat.lt_succ_of_lt (m.rc e d)
  ·rcases bz.1 d with d | d
   ·obtain⟨E,u,j⟩:=aY.1 d
    injection j with j;subst j;rw[(v _ u).2.1];omega
   ·obtain⟨c,p,j⟩:=aY.1 d
    cases j
 ·have j:∀e:cJ,Bo (ps++[q]) e=(Bo ps e || q.o == e.o):=λe=>by unfold Bo;rw[any_append];simp
  rw[filterMap_append,filterMap_append,tE,EJ,append_nil,filter_append]
  rw[filter_congr (l:=(X i).filterMap NZ) (q:=Bo ps) λe d=>by
   have D:=m.rc e (Nk d);rw[j,show(q.o == e.o)=false by rw[beq_eq_false_iff_ne];omega,Bool.or_false]]
  rw[m.cu,filter_all (l:=oM P i q) λe d=>by rw[j,(v e d).2.1,beq_self_eq_true,Bool.or_true]];unfold jT;rw[aU,flatten_append];simp
 ·rw[aH,aH,aC,aC]
  exact d i G
end
end
section
variable {B:Nat}
theorem Jw(v:Value)(w:World):Calls prog 184 #[v,int i64 0,int i64 0] w λb d=>b=returned (.tuple #[])/\d=w:=by
 go_enter func184,ntmps184;go_wp2_with fail;go_loopw [6] (λb wr=>b=int i64 1/\PH (wr=w)) (λ_ _=>0)
 case atStart=>exact⟨rfl,ae rfl⟩
 case round=>
  obtain⟨rfl,b⟩:=hrel;obtain rfl:=b.o;go_wp2_with fail
  (try simp only[Exit.inBlock,Exit.then])
  refine bodyPost_end (results_none rfl _ _ _) rfl ?_;exact⟨rfl,rfl⟩
theorem Jy(v:Value)(l:Int)(w:World):Calls prog 120 #[v,int i64 0,int i64 0,int i64 l] w λb d=>b=returned (.tuple #[])/\d=w:=by
 have d:=ae (Jw v w);go_enter func120,ntmps120;go_wp2_with fail;refine wp_loop_rounds 1 ?_;rw[rounds_succ];go_wp2_with fail;refine d.o.mono ?_;rintro b e ⟨rfl,rfl⟩;go_wp2_with fail
 (try simp only[Exit.inBlock,Exit.then])
 refine bodyPost_ret (results_none rfl _ _ _) rfl ?_;exact⟨rfl,rfl⟩
theorem F5(a:PK)(c:Nat)(w:World):Calls prog 63 #[slice a 0 c] w λb d=>b=returned (.tuple #[])/\d=w:=by
 have d:=ae (Tryz.bits_Len 0 w (by omega) (by omega));have e:=ae λf=>Jy (slice a 0 c) f w;generalize Lib.bitLen (0:Int).toNat=f at*;go_enter func63,ntmps63;go_wp2_with fail;refine d.o.mono ?_;rintro b g ⟨rfl,rfl⟩;go_wp2_with fail;refine(e.o _).mono ?_;rintro b i ⟨rfl,rfl⟩;go_wp2_with fail
 (try simp only[Exit.inBlock,Exit.then])
 refine bodyPost_end (results_none rfl _ _ _) rfl ?_;exact⟨rfl,rfl⟩
theorem ym(a:PK)(c:Nat)(w:World):Calls prog 203 #[slice a 0 c] w λb d=>b=returned (slice a 0 c)/\d=w:=by
 go_enter func203,ntmps203;go_wp2_with fail;go_ret;exact⟨rfl,rfl⟩
theorem F6(k:Value)(w:World):Calls prog 137 #[k,slice none 0 0] w λb d=>b=returned (int i64 0)/\Below w.heap.size w d:=by
 have e:=ae (ll [] (λ_=>True) none 0 0 w ⟨none,0,0,rfl,aj _,by unfold maxLen;omega,λ_=>rfl,rfl,λh=>absurd h (by omega)⟩ rfl (by omega));go_enter func137,ntmps137;go_wp2_with fail;refine e.o.mono ?_;rintro b f ⟨q,rfl,d,g⟩;obtain⟨i,j,rfl⟩:=d.lenA;rw[length_nil] at d ⊢;have l:=ae g;have m:=ae (F5 i j f);have p:=ae (ym i j f);clear d g e;go_wp2_with fail;refine m.o.mono ?_;rintro b g ⟨rfl,rfl⟩;go_wp2_with fail;refine p.o.mono ?_;rintro b r ⟨rfl,rfl⟩;go_wp2_with fail;rename World=>d;go_loopw [15] (λe wr=>e=int i64 0/\PH (wr=d)) (λ_ _=>0)
 case atStart=>exact⟨rfl,ae rfl⟩
 case round=>
  obtain⟨rfl,e⟩:=hrel;obtain rfl:=e.o;go_wp2_with fail;go_ret;exact⟨rfl,l.o⟩
theorem Jz(b:Value)(a:PK)(c:Nat)(w:World):Calls prog 72 #[b,slice a 0 c] w λd e=>d=returned (int i64 0)/\Below w.heap.size w e:=by
 have e:=ae (F6 b w);go_enter func72,ntmps72;go_wp2_with fail;go_loopw [5,11] (λf g wr=>f=slice none 0 0/\g=int i64 0/\PH (wr=w)) (λ_ _ _=>0)
 case atStart=>exact⟨rfl,rfl,ae rfl⟩
 case round=>
  obtain⟨rfl,rfl,g⟩:=hrel;obtain rfl:=g.o;go_wp2_with fail;refine e.o.mono ?_;rintro d j ⟨rfl,f⟩;have i:=ae f;clear f e;go_wp2_with fail;go_ret;exact⟨rfl,i.o⟩
theorem b_all(P:List (Nat×PI))(a:PK)(n c:Nat)(g:Nat)(f:Fl)(m:cQ)(R:Nat->List PI)(w:World)(d:Stq B w g f m R)(k:(rS 2 (P.map cZ)).ok w (Fd w) [slice a n c])(e:P.length=n)(l:n<=100000)
 (p:∀x∈P,(x.1<f.n/\f.Z x.1=false)/\x.2.length=64)(q:∀i,i<f.n->(R i).length+(eu P i).length<=f.room i/\f.room i<=512):
 Calls prog 72 #[.func (.func 38) #[pointer (some ⟨g,0,none⟩)] #[],slice a n c] w λh b=>h=returned (int i64 0)/\Stq B b g f m (gX P R)/\ChgD B w b:=by
 by_cases r:0<n
 ·exact KN P a n c g f m R w d k e r l p q
 ·obtain rfl:n=0:=by omega
  obtain rfl:P=[]:=length_eq_zero_iff.1 e;refine(Jz _ a c w).mono ?_;rintro h b ⟨rfl,j⟩;refine⟨rfl,?_,ChgD.below j⟩;have t:gX [] R=R:=(by funext i;unfold gX eu;simp);rw[t];exact d.below j
end
section
variable {B:Nat}
theorem KH{o K H Z ex nb:Nat}{T l:PI}{f:Fl}{ords:Nat->PI}(d:fB K H Z=true)(g:By l)(k:zt K H Z o nb T)(h:∀i,i<nb->(ords i).Perm (bI f))(m:0<(bI f).length):∀x∈dU K H Z ex o T l ords nb,(x.1<f.n/\f.Z x.1=false)/\x.2.length=64:=by
 intro x p;have y:=ba d;obtain⟨z,r,t⟩:=mem_flatten.1 p;obtain⟨i,b,rfl⟩:=aY.1 r;have b:=bA.1 b;obtain⟨e,_,rfl⟩:=aY.1 t;refine⟨?_,?_⟩
 ·have u:0<(ords i).length:=by rw[(h i b).length_eq];exact m
  have j:e%(ords i).length<(ords i).length:=Nat.mod_lt _ u
  have v:(ords i).getD (e%(ords i).length) 0∈bI f:=by
   rw[af,ah j];exact(h i b).mem_iff.1 (aQ j)
  exact gZ v
 ·have j:MidOK K H Z (lj o T i:Nat) (nR K H Z o T l i):=(mL d (fJ (q:=K*Z) i g).2 (fJ i g).1 (k.2 i b).2.1).2.1
  exact gA (by rw[iT,jJ d j e];omega)
end
end Go.Proofs.YtgccllbnfngpcaaGreatDoor
namespace Go.Proofs
open Go.Shelf
def Tryz.laysEnt_ren:Go.Shelf.Ren:=⟨fun | 20=>282 | n=>n,fun | 24=>65 | 22=>66 | 3=>3 | 25=>223 | 4=>4 | 0=>0 | n=>n,fun | n=>n⟩
theorem Tryz.laysEnt:Go.Proofs.SlLaysF0.n20 prog Tryz.laysEnt_ren:= {
 mixed:=by kernel_rfl
 f20:=⟨Tryz.f282.name,by decide,func282.trans (congrArg some (by kernel_rfl))⟩
 t0:=underlying0
 a0:=Tryz.isAgg0
 z0:=Tryz.sizeOf0
 v0:=Tryz.zeroValue0
 t3:=underlying3
 a3:=Tryz.isAgg3
 z3:=Tryz.sizeOf3
 v3:=Tryz.zeroValue3
 t4:=underlying4
 a4:=Tryz.isAgg4
 z4:=Tryz.sizeOf4
 v4:=Tryz.zeroValue4
 t22:=underlying66
 a22:=Tryz.isAgg66
 z22:=Tryz.sizeOf66
 v22:=Tryz.zeroValue66
 t25:=underlying223
 a25:=Tryz.isAgg223
 z25:=Tryz.sizeOf223
 v25:=Tryz.zeroValue223 }
end Go.Proofs
namespace Go.Proofs.YtgccllbnfngpcaaGreatDoor
open Go.RowKit _root_.Go.Proofs.Tryz List
open Value (int slice pointer bool)
open IntKind (i64)
open Ending (returned)
open Obj (cells)
section
open Go.RowKit Go.Sort
structure lK where
 e:cN
 a:PK
 c:Nat
instance:Inhabited lK:=⟨⟨bO,none,0⟩⟩
def dM(y:lK):List Value:=[.string y.e.name,int i64 y.e.obj,int i64 y.e.len,slice y.a y.e.tries.length y.c]
def IQ(x y:ByteArray):Int:=if Op.bytesLess x.toList y.toList then-1 else if Op.bytesLess y.toList x.toList then 1 else 0
def zE(y z:lK):Int:=IQ y.e.name z.e.name
theorem D7(y z:lK):ltOf zE y z=ltStr y.e.name.toList z.e.name.toList:=by
 unfold ltOf zE IQ ltStr;rw[bytesLess_eq,bytesLess_eq];by_cases b:y.e.name.toList<z.e.name.toList
 ·simp[b]
 ·by_cases d:z.e.name.toList<y.e.name.toList
  ·simp[b,d]
  ·simp[b,d]
theorem Ou:SWO (ltOf zE) where
 irrefl x:=by rw[D7];exact swo_ltStr.irrefl _
 trans x y z h1 h2:=by rw[D7] at*;exact swo_ltStr.trans _ _ _ h1 h2
 ntrans x y z h1 h2:=by rw[D7] at*;exact swo_ltStr.ntrans _ _ _ h1 h2
theorem Ea(x:ByteArray)(w:World):Calls prog 229 #[.string x] w λb d=>b=returned (bool false)/\d=w:=by
 go_enter func229,ntmps229;go_wp2_with fail;go_ret;exact⟨by simp,rfl⟩
theorem LK(x y:ByteArray)(w:World):Calls prog 165 #[.string x,.string y] w λb d=>b=returned (int i64 (IQ x y))/\d=w:=by
 have g:=ae λw=>Ea x w;have i:=ae λw=>Ea y w;unfold IQ;cases e:Op.bytesLess x.toList y.toList with
 | true=>
   rw[bg rfl];go_enter func165,ntmps165;go_wp2_with fail;refine(g.o w).mono ?_;rintro b f ⟨rfl,rfl⟩;go_wp2_with fail;refine(i.o f).mono ?_;rintro b l ⟨rfl,rfl⟩;go_wp2_with fail;go_ret;exact⟨rfl,rfl⟩
 | false=>
   rw[bh (by decide)]
   have j:(Op.bytesLess x.toList y.toList || x.toList == y.toList)= !Op.bytesLess y.toList x.toList:=by
    rw[bytesLess_eq,bytesLess_eq] at*;have e:=of_decide_eq_false e;by_cases d:y.toList<x.toList
    ·have k:¬x.toList=y.toList:=λb=>by rw[b] at d;exact List.lt_irrefl _ d
     simp[e,d,k]
    ·have k:x.toList=y.toList:=List.le_antisymm (List.not_lt.1 d) (List.not_lt.1 e)
     simp[k]
   rw[e,Bool.false_or] at j;cases d:Op.bytesLess y.toList x.toList with
   | true=>
     rw[bg rfl];rw[d,Bool.not_true] at j;go_enter func165,ntmps165;go_wp2_with fail;refine(g.o w).mono ?_;rintro b f ⟨rfl,rfl⟩;go_wp2_with fail;refine(i.o f).mono ?_;rintro b l ⟨rfl,rfl⟩;go_wp2_with fail;go_ret;exact⟨rfl,rfl⟩
   | false=>
     rw[bh (by decide)];rw[d,Bool.not_false] at j;go_enter func165,ntmps165;go_wp2_with fail;refine(g.o w).mono ?_;rintro b f ⟨rfl,rfl⟩;go_wp2_with fail;refine(i.o f).mono ?_;rintro b l ⟨rfl,rfl⟩;go_wp2_with fail;go_ret;exact⟨rfl,rfl⟩
theorem IR(y z:lK)(r:Int)(u:IQ y.e.name z.e.name=r)(w:World):Calls prog 164 #[.agg (dM y).toArray,.agg (dM z).toArray] w λv b=>v=returned (int i64 r)/\∃q d,b=grow (w.drewN q) d:=by
 obtain⟨⟨b,e,f,g⟩,i,j⟩:=y;obtain⟨⟨d,k,l,m⟩,p,t⟩:=z;unfold dM;simp only at*;have x:=ae λw=>LK b d w;rw[u] at x;clear u;go_enter func164,ntmps164;go_upto_region 1 with fail;have A:(w.alloc (cells #[.string b,int i64 e,int i64 f,slice i g.length j] 65)).heap.size=w.heap.size+1:=by simp
 have D:=ae ((Blk.new w 65 #[.string b,int i64 e,int i64 f,slice i g.length j]).alloc (cells #[.string d,int i64 k,int i64 l,slice p m.length t] 65));have E:PH (Blk ((w.alloc (cells #[.string b,int i64 e,int i64 f,slice i g.length j] 65)).alloc (cells #[.string d,int i64 k,int i64 l,slice p m.length t] 65)) (w.heap.size+1) 65 #[.string d,int i64 k,int i64 l,slice p m.length t]):=ae (by rw[<-A];exact Blk.new _ _ _);clear A;generalize A:(w.alloc (cells #[.string b,int i64 e,int i64 f,slice i g.length j] 65)).alloc (cells #[.string d,int i64 k,int i64 l,slice p m.length t] 65)=C at*;have G:=ae A;clear A;have A:C.cell? ⟨w.heap.size,0,none⟩=some (.string b):=D.o.cell 0;have I:C.cell? ⟨w.heap.size+1,0,none⟩=some (.string d):=E.o.cell 0;go_wp2_with fail;refine(x.o _).mono ?_;rintro v J ⟨rfl,rfl⟩;go_wp2_with fail;go_ret;exact⟨rfl,0,_,by rw[<-G.o,alloc_eq_grow,alloc_eq_grow,grow_grow];rfl⟩
theorem Ov:∀w,(isAgg (Tryz.laysEnt_ren.t 24)).run prog w=.ok true w:=λw=>Tryz.isAgg65 w
theorem LM:∀w,(Go.sizeOf (Tryz.laysEnt_ren.t 24)).run prog w=.ok 4 w:=λw=>Tryz.sizeOf65 w
theorem NS(d:List lK){t:Nat}(e:t<d.length*4):(flatK dM 4 d.toArray)[t]! =(dM (d.getD (t/4) default))[t%4]! :=by
 rw[get_flatK _ _ _ _ (by simpa using e)];congr 2;have b:t/4<d.length:=by omega
 rw[getElem!_pos d.toArray (t/4) (by simpa using b),af,ah b];simp
theorem LO(d:List lK)(g n c:Nat)(w:World)(v:HoldsK dM 4 w g 0 d.toArray)(f:g<w.heap.size)(z:d.length=n)(I:n<=1000):
 Calls prog 282 #[slice (some ⟨g,0,none⟩) n c,int i64 0,int i64 n,.func (.func 164) #[] #[]] w λj k=>j=returned (.tuple #[])/\∃b:List lK,b.Perm d/\(∀i,i+1<n->ltStr (b.getD (i+1) default).e.name.toList (b.getD i default).e.name.toList=false)/\HoldsK dM 4 k g 0 b.toArray/\(∀t,Ty t w g->Ty t k g)/\Chg (·=g) w k:=by
 have e:d.toArray.size=n:=by simpa using z
 have l:=AnyQ.insertionSortCmpFunc Tryz.laysEnt 4 Ov LM dM (λ_=>rfl) (λp r m=>by simp[dM] at m;rcases m with rfl | rfl | rfl | rfl <;> rfl) zE 164 #[] g 0 c 0 n d.toArray w (enters_of func164 (by kernel_rfl) rfl) (λu m x y p r=>by rw[Array.append_empty];exact IR p r _ rfl _) v f (bu _) (by rw[e];exact aj _) (by rw[e];omega);rw[e] at l;change Calls prog 282 _ _ _ at l;refine l.mono ?_;rintro j k ⟨rfl,q,m,rfl⟩;obtain⟨x,A⟩:=insertionSort_holds Ou d.toArray 0 n (bu _) (by rw[e];exact aj _);generalize insertionSort (ltOf zE) d.toArray 0 n=b at*;have p:b.size=d.toArray.size:=x.1
 have C:b.toList.Perm d:=by
  have h:=x.2.2;rw[<-e] at h;have r:b.extract 0 d.toArray.size=b:=(by rw[<-p];simp);have u:d.toArray.extract 0 d.toArray.size=d.toArray:=(by simp);rw[r,u] at h;simpa using h
 refine⟨rfl,b.toList,C,λi D=> ?_,?_,?_,?_⟩
 ·have h:=A i (i+1) (bu _) (by omega) (by omega)
  rw[D7] at h;have y:i+1<b.size:=(by rw[p,e];exact D);have r:b.toList.getD (i+1) default=b[i+1]! :=(by rw[af,Array.getElem?_toList,Array.getElem?_eq_getElem y,getElem!_pos b (i+1) y];rfl);have u:b.toList.getD i default=b[i]! :=(by rw[af,Array.getElem?_toList,Array.getElem?_eq_getElem (by omega),getElem!_pos b i (by omega)];rfl);rw[r,u];simpa using h
 ·have y:=holdsK_sortWorldK dM 4 w g 0 q d.toArray b m f v p
  simpa using y
 ·rintro t ⟨G,E,h⟩
  unfold sortWorldK putRowK;refine⟨?q,E,?h⟩
  case h=>
   rw[heap_grow_old _ _ (by have:g<w.heap.size:=f;simp;omega)];simp only[putRow,mapBlock,Sort.ahead,Array.getElem?_modify,if_true,h,Option.map_some,onCells];rfl
 ·refine⟨rfl,rfl,rfl,size_sortWorldK_c dM 4 w g 0 q b m,λE y G=> ?_⟩
  unfold sortWorldK putRowK;rw[heap_grow_old _ _ (by have:g<w.heap.size:=f;simp;omega)];have:g≠E:=λj=>G j.symm;simp[putRow,mapBlock,Sort.ahead,Array.getElem?_modify,this]
theorem LP(Q:World->World->Prop)(x f:Value)(n:Nat)(l:Int)(w:World)(j:n<=12)(h:Calls prog 282 #[x,int i64 0,int i64 n,f] w λb d=>b=returned (.tuple #[])/\Q w d):Calls prog 228 #[x,int i64 0,int i64 n,int i64 l,f] w λb d=>b=returned (.tuple #[])/\Q w d:=by
 have d:=ae h;have k:(n:Int)<=12:=by omega
 clear h;go_enter func228,ntmps228;go_wp2_with fail;go_loopw [1,2] (λe g wr=>e=int i64 0/\g=int i64 n/\PH (wr=w)) (λ_ _ _=>0)
 case atStart=>exact⟨rfl,rfl,ae rfl⟩
 case round=>
  obtain⟨rfl,rfl,g⟩:=hrel;obtain rfl:=g.o;go_wp2_with fail;refine d.o.mono ?_;rintro b m ⟨rfl,e⟩;have i:=ae e;clear e d;go_wp2_with fail
  (try simp only[Exit.inBlock,Exit.then])
  refine bodyPost_ret (results_none rfl _ _ _) rfl ?_;exact⟨rfl,i.o⟩
theorem Fj(Q:World->World->Prop)(a:PK)(n c:Nat)(f:Value)(w:World)(e:1<=n/\n<=12)(h:Calls prog 282 #[slice a n c,int i64 0,int i64 n,f] w λb d=>b=returned (.tuple #[])/\Q w d):Calls prog 163 #[slice a n c,f] w λb d=>b=returned (.tuple #[])/\Q w d:=by
 have g:=ae λw=>Tryz.bits_Len n w (by omega) (by omega);have i:=ae λd=>LP Q (slice a n c) f n d w e.2 h;have k:(n:Int)%18446744073709551616=(n:Int):=by omega
 clear h;go_enter func163,ntmps163;go_wp2_with fail;refine(g.o w).mono ?_;rintro b l ⟨rfl,rfl⟩;go_wp2_with fail;refine(i.o _).mono ?_;rintro b m ⟨rfl,d⟩;have j:=ae d;clear d;go_wp2_with fail
 (try simp only[Exit.inBlock,Exit.then])
 refine bodyPost_end (results_none rfl _ _ _) rfl ?_;exact⟨rfl,j.o⟩
theorem Eb{w:World}{C:Nat}{F:Nat->Prop}{v:Value}{L:List cN}(j:OwnS w C 65 4 F v (L.map bQ))(T:0<L.length):∃(d:List lK) (g c:Nat),d.map lK.e=L/\v=slice (some ⟨g,0,none⟩) L.length c/\(L.length<=c/\c<=maxLen)/\C<=g/\g<w.heap.size/\HoldsK dM 4 w g 0 d.toArray/\∀y∈d,(rI y.e.tries).ok w (λe=>F e/\e≠g) [slice y.a y.e.tries.length y.c]:=by
 have x:=j.lt;obtain⟨i,m,z⟩:=j;rw[aC] at m;have p:i.length=L.length*4:=m.1;rcases m.2 with⟨_,A⟩ | ⟨g,D,t,rfl,E,u,G,I,U,J⟩
 ·exact absurd A (by omega)
 ·have k:∀b,b<L.length->∃a c,(i.drop (b*4)).take 4=[.string (L.getD b bO).name,int i64 (L.getD b bO).obj,int i64 (L.getD b bO).len,slice a (L.getD b bO).tries.length c]/\(rI (L.getD b bO).tries).ok w (λe=>F e/\e≠g) [slice a (L.getD b bO).tries.length c]:=λb h=>by
   obtain⟨a,c,M,N⟩:=nI (z b (bQ (L.getD b bO)) (by rw[List.getElem?_map,af,ah h];rfl));exact⟨a,c,M,(rI _).more N λe f _=>⟨f.1,λq=>f.2 (by rw[q];rfl)⟩⟩
  have O:∃f:Nat->PK×Nat,∀b,b<L.length->(i.drop (b*4)).take 4=[.string (L.getD b bO).name,int i64 (L.getD b bO).obj,int i64 (L.getD b bO).len,slice (f b).1 (L.getD b bO).tries.length (f b).2]/\(rI (L.getD b bO).tries).ok w (λe=>F e/\e≠g) [slice (f b).1 (L.getD b bO).tries.length (f b).2]:=by
   have r:∀b,∃l:PK×Nat,b<L.length->(i.drop (b*4)).take 4=[.string (L.getD b bO).name,int i64 (L.getD b bO).obj,int i64 (L.getD b bO).len,slice l.1 (L.getD b bO).tries.length l.2]/\(rI (L.getD b bO).tries).ok w (λe=>F e/\e≠g) [slice l.1 (L.getD b bO).tries.length l.2]:=λb=>by
    by_cases h:b<L.length
    ·obtain⟨a,c,q⟩:=k b h
     exact⟨(a,c),λ_=>q⟩
    ·exact⟨(none,0),λj=>absurd j h⟩
   exact⟨λb=>Classical.choose (r b),λb=>Classical.choose_spec (r b)⟩
  obtain⟨f,q⟩:=O;have Q:((range L.length).map λb=>(⟨L.getD b bO,(f b).1,(f b).2⟩:lK)).length=L.length:=(by rw[aC,aZ]);refine⟨(range L.length).map λb=>⟨L.getD b bO,(f b).1,(f b).2⟩,g,D,?_,rfl,⟨G,I⟩,E,(x g rfl).2,λe l=> ?_,λy R=> ?_⟩
  ·rw[map_map]
   apply ext_getElem
   ·simp
   ·intro b r S
    simp[S]
  ·have l:e<L.length*4:=by simpa using l
   have h:e/4<L.length:=(by omega);rw[Nat.zero_add];refine⟨?_,Blk.frozen (show Blk w g _ t from u) e⟩;rw[NS _ (by rw[Q];exact l),Blk.cell (show Blk w g _ t from u)]
   have S:((range L.length).map λb=>(⟨L.getD b bO,(f b).1,(f b).2⟩:lK)).getD (e/4) default=⟨L.getD (e/4) bO,(f (e/4)).1,(f (e/4)).2⟩:=by
    rw[af,List.getElem?_map,List.getElem?_range h];rfl
   rw[S];have k:((i.drop (e/4*4)).take 4)[e%4]? =(dM ⟨L.getD (e/4) bO,(f (e/4)).1,(f (e/4)).2⟩)[e%4]? :=(by rw[(q _ h).1];rfl);rw[List.getElem?_take,bg (by omega),List.getElem?_drop,show e/4*4+e%4=e by omega,<-J,List.getElem?_take,bg (by omega),Array.getElem?_toList] at k;rw[k];have p:e%4<(dM ⟨L.getD (e/4) bO,(f (e/4)).1,(f (e/4)).2⟩).length:=(by show e%4<4;omega);rw[getElem!_pos _ (e%4) p,ah p];rfl
  ·obtain⟨b,h,rfl⟩:=aY.1 R
   exact(q b (bA.1 h)).2
theorem BC{w:World}{F:Nat->Prop}{g n c:Nat}{d:List lK}(j:HoldsK dM 4 w g 0 d.toArray)(z:g<w.heap.size)(u:F g)(f:d.length=n)(h:n<=c/\c<=maxLen)(k:∀y∈d,(rI y.e.tries).ok w F [slice y.a y.e.tries.length y.c]):(rS 4 ((d.map lK.e).map bQ)).ok w F [slice (some ⟨g,0,none⟩) n c]:=by
 subst f
 have l:((d.map dM).flatten).length=d.length*4:=by
  clear j k h
  induction d with
  | nil=>rfl
  | cons y d m=>rw[map_cons,flatten_cons,aH,m,length_cons,Nat.succ_mul];show 4+_=_;omega
 have p:∀b,b<d.length->(((d.map dM).flatten).drop (b*4)).take 4=dM (d.getD b default):=by
  clear j k h l
  induction d with
  | nil=>intro b e;exact absurd e (Nat.not_lt_zero b)
  | cons y d m=>
    intro b e;rw[map_cons,flatten_cons];cases b with
    | zero=>rw[Nat.zero_mul,drop_zero];exact take_left' rfl
    | succ b=>
      have i:=m b (by simpa using e);rw[Nat.succ_mul,drop_append,drop_eq_nil_of_le (show(dM y).length<=b*4+4 by show 4<=b*4+4;omega),nil_append,show b*4+4-(dM y).length=b*4 from Nat.add_sub_cancel ..];exact i
 refine⟨_,_,_,rfl,h.1,h.2,λm=>(by cases m),by simp,(d.map dM).flatten,l,λq=>⟨g,0,rfl,u,λb A q=> ?_⟩,λb C r=> ?_⟩
 ·rw[Nat.zero_add]
  have e:b<d.length*4:=(by rw[<-l];exact(List.getElem?_eq_some_iff.1 q).1);have i:=(j b (by simpa using e)).1;rw[Nat.zero_add,NS d e] at i;rw[i,<-q];have v:b/4<d.length:=(by omega);have x:=p (b/4) v
  have t:(((d.map dM).flatten).drop (b/4*4))[b%4]? =(dM (d.getD (b/4) default))[b%4]? :=by
   rw[<-x,List.getElem?_take,bg (by omega)]
  rw[List.getElem?_drop,show b/4*4+b%4=b by omega] at t;rw[t];have f:b%4<(dM (d.getD (b/4) default)).length:=(by show b%4<4;omega);rw[getElem!_pos _ (b%4) f,ah f]
  (try rfl)
 ·rw[List.getElem?_map,List.getElem?_map,Option.map_eq_some_iff] at r
  obtain⟨m,t,rfl⟩:=r;rw[Option.map_eq_some_iff] at t;obtain⟨y,i,rfl⟩:=t;have e:b<d.length:=(List.getElem?_eq_some_iff.1 i).1;have v:d.getD b default=y:=(by rw[af,i];rfl);rw[p b e,v];exact yY (k y (mem_of_getElem? i))
end
section
variable {B:Nat}
theorem OM(s o u y K H Z ex n:Nat)(es:List cN)(e:cN)(W Y ab:PK)(c1 g c2 ct:Nat)(F:Nat->Prop)(w:World)(aD:s+1=u)(ad:o+1=y)(a7:s<=100000)(a8:o<=100000)(hn:n<=64)(hd:(rI (range n)).ok w F [slice W n c1])(ho:(rS 4 (es.map bQ)).ok w F [slice Y g c2])(ap:es.length=g)(bk:g<=11)(aE:∀x∈es,x.tries.length<=1000)(G:(rI e.tries).ok w (Fm w) [slice ab e.tries.length ct]):
 Calls prog 105 #[.agg (bV (df s o K H Z ex n es) (slice W n c1) (slice Y g c2)),.agg (d9 e (slice ab e.tries.length ct))] w λaq M=>∃v a c b,aq=returned (.agg (bV (df u y K H Z ex n b) v (slice a (g+1) c)))/\b.Perm (es++[e])/\(∀i,i+1<g+1->Sort.ltStr (b.getD (i+1) bO).name.toList (b.getD i bO).name.toList=false)/\OwnI M w.heap.size v (range n)/\(rS 4 (b.map bQ)).ok M (Fm M) [slice a (g+1) c]/\Below w.heap.size w M:=by
 have HT:PH ((rI e.tries).ok w (λb=>b<w.heap.size/\Fm w b) [slice ab e.tries.length ct]):=ae ((rI _).more G λb f U=>⟨U,f⟩);have j:g<=12:=by omega
 have O:=ae λw (h:(rI (range n)).ok w F [slice W n c1]) (ho:(rS 4 (es.map bQ)).ok w F [slice Y g c2])=>KG (df s o K H Z ex n es) W Y n c1 g c2 F w h aZ (by omega) ho ap j aE;have q:=ae ho;have ar:=ae ap;have r:=ae hd;have bl:IntKind.i64.wrap ((s:Int)+1)=(u:Int):=by rw[IntKind.wrap_i64];omega
 have bm:IntKind.i64.wrap ((o:Int)+1)=(y:Int):=by rw[IntKind.wrap_i64];omega
 clear hd G hn ho aD ad a7 a8 ap aE j;obtain⟨Q,S,T,N⟩:=e;unfold bV df at O;unfold bV df;unfold d9;simp only at*;obtain⟨z,j⟩:∃z,z=((w.alloc (cells #[int i64 s,int i64 o,int i64 K,int i64 H,int i64 Z,int i64 ex,slice W n c1,slice Y g c2] 68)).alloc (cells #[.string Q,int i64 S,int i64 T,slice ab N.length ct] 65)).alloc (cells #[int i64 0,int i64 0,int i64 0,int i64 0,int i64 0,int i64 0,slice none 0 0,slice none 0 0] 68):=⟨_,rfl⟩;have k:(w.alloc (cells #[int i64 s,int i64 o,int i64 K,int i64 H,int i64 Z,int i64 ex,slice W n c1,slice Y g c2] 68)).heap.size=w.heap.size+1:=by simp
 have t:((w.alloc (cells #[int i64 s,int i64 o,int i64 K,int i64 H,int i64 Z,int i64 ex,slice W n c1,slice Y g c2] 68)).alloc (cells #[.string Q,int i64 S,int i64 T,slice ab N.length ct] 65)).heap.size=w.heap.size+1+1:=by simp
 have aa:PH (Blk z w.heap.size 68 #[int i64 s,int i64 o,int i64 K,int i64 H,int i64 Z,int i64 ex,slice W n c1,slice Y g c2]):=ae (by rw[j];exact((Blk.new w _ _).alloc _).alloc _);have m:PH (Blk z (w.heap.size+1) 65 #[.string Q,int i64 S,int i64 T,slice ab N.length ct]):=ae (by rw[j,<-k];exact(Blk.new _ _ _).alloc _);have l:PH (Blk z (w.heap.size+1+1) 68 #[int i64 0,int i64 0,int i64 0,int i64 0,int i64 0,int i64 0,slice none 0 0,slice none 0 0]):=ae (by rw[j,<-t];exact Blk.new _ _ _);have am:PH (Below w.heap.size w z):=ae (by rw[j];exact(((az _ _).alloc (aj _) _).alloc (by simp) _).alloc (by simp;omega) _);have A:=ae j;clear j k t;go_enter func105,ntmps105;go_upto_region 1 with fail;rw[<-A.o];have a9:=l.o.lt;clear A;obtain⟨k,j⟩:∃k,k=w.heap.size:=⟨_,rfl⟩;rw[<-j] at aa m l am HT a9 ⊢;have HG:=ae j;have ag:=ae ((rI _).new r.o (j▸am.o));have ai:=ae ((rS 4 _).new q.o (j▸am.o));clear j r q;obtain⟨x0,x1,x2,x3,x4,x5,x6,V⟩:=bY aa.o;go_wp2_with fail;refine(O.o z ag.o ai.o).mono ?_;rintro aq D ⟨v3,vo,rfl,ad,q,j⟩;obtain⟨r,t,rfl⟩:=ad.lenA;rw[aZ] at ad ⊢;obtain⟨I,J,rfl,-⟩:=q.val;rw[aC,ar.o] at q ⊢;have an:PH (OwnI D z.heap.size (slice r n t) (range n)):=ae ad;have ac:PH (OwnS D z.heap.size 65 4 (λb=>Ty 3 D b/\z.heap.size<=b) (slice I g J) (es.map bQ)):=ae q;have A:=ae (m.o.below j m.o.lt);have E:=ae (l.o.below j l.o.lt);have av:PH (Below k w D):=ae (am.o.trans (j.mono (by omega)));have aD:=j.size;clear ad q j aa m l ag ai O x0 x1 x2 x3 x4 x5 x6 V;have aa:=ae (Blk.new D 68 #[int i64 u,int i64 y,int i64 K,int i64 H,int i64 Z,int i64 ex,slice r n t,slice I g J]);have j:PH (Below D.heap.size D (D.alloc (cells #[int i64 u,int i64 y,int i64 K,int i64 H,int i64 Z,int i64 ex,slice r n t,slice I g J] 68))):=ae ((az D.heap.size D).alloc (aj _) _);have aB:=ae (A.o.below j.o A.o.lt);obtain⟨e0,e1,e2,e3⟩:=eB aB.o;have bo:k+1<D.heap.size:=A.o.lt;go_upto_region 4 with fail;have au:PH (k+1+1<D.heap.size):=ae E.o.lt;have ak:=ae (E.o.below j.o E.o.lt);have al:=ae (an.o.below j.o);have ao:PH (Below k w (D.alloc (cells #[int i64 u,int i64 y,int i64 K,int i64 H,int i64 Z,int i64 ex,slice r n t,slice I g J] 68))):=ae (av.o.trans (j.o.mono (by omega)))
 have O:PH (OwnS (D.alloc (cells #[int i64 u,int i64 y,int i64 K,int i64 H,int i64 Z,int i64 ex,slice r n t,slice I g J] 68)) z.heap.size 65 4 (λb=>(Ty 3 (D.alloc (cells #[int i64 u,int i64 y,int i64 K,int i64 H,int i64 Z,int i64 ex,slice r n t,slice I g J] 68)) b/\z.heap.size<=b)\/(b<k/\Fm w b)) (slice I g J) (es.map bQ)):=ae (by
  have bb:=ac.o.lt;obtain⟨cs,g1,g2⟩:=ac.o;exact⟨cs,mX g1 λb f=>j.o.block b (bb b f).2,λi R l=>R.keep (g2 i R l) λb f U=>⟨j.o.block b U,.inl ⟨f.1.1.keep (j.o.block b U),f.1.2⟩,f.2⟩⟩)
 clear A E an av j ac;generalize D.alloc (cells #[int i64 u,int i64 y,int i64 K,int i64 H,int i64 Z,int i64 ex,slice r n t,slice I g J] 68)=w4 at*;generalize D.heap.size=q at*;have V:w4.cell? ⟨q,7,none⟩=some (slice I g J):=aa.o.cell 7;obtain⟨FF,j⟩:∃FF:Nat->Prop,FF=λb=>(Ty 3 w4 b/\z.heap.size<=b)\/(b<k/\Fm w b):=⟨_,rfl⟩;rw[<-j] at O;have aF:=ae j;clear j;have HR:PH ((bQ ⟨Q,S,T,N⟩).ok w4 (λb=>FF b/\some b≠(Value.slice I g J).ownBlock) [.string Q,int i64 S,int i64 T,slice ab N.length ct]):=ae (yY (e:=⟨Q,S,T,N⟩) ((rI N).keep HT.o λb f _=>⟨ao.o.block b f.1,by rw[aF.o];exact .inr f,λe=>by have h1:=(O.o.lt b e.symm).1;have h2:=f.1;omega⟩));have bc:z.heap.size<=w4.heap.size:=by have:=aa.o.lt;omega
 have aK:(es.map bQ).length<=1000000:=by rw[aC,ar.o];omega
 go_wp2_with (at_builtin;refine gM (w:=w4) (C:=z.heap.size) (F:=FF) (v:=slice I g J) (L:=es.map bQ) rfl _ _ rfl underlying66 vJ rfl (by decide) (by decide) O.o bc aK (R:=bQ ⟨Q,S,T,N⟩) HR.o rfl rfl rfl ?_)
 intro v6 A ac aL bd aM be;rw[show es.map bQ++[bQ ⟨Q,S,T,N⟩]=(es++[(⟨Q,S,T,N⟩:cN)]).map bQ by rw[aU];rfl] at ac;have ai:(es++[(⟨Q,S,T,N⟩:cN)]).length=g+1:=by rw[aH,ar.o];rfl
 obtain⟨d6,j,l,av,rfl,aw,aO,aR,aS,aT⟩:=Eb ac (by rw[ai];omega);rw[ai] at ac aw ⊢;have ag:∀b,Ty 68 w4 b\/Ty 3 w4 b->A.heap[b]? =w4.heap[b]? :=λb f=>aM b (f.elim Ty.lt Ty.lt) λe=>f.elim (λh=>(O.o.ownTy b e.symm).ne h (by decide)) λh=>(O.o.ownTy b e.symm).ne h (by decide);have E:PH (Blk A q _ _):=ae ((ag q (.inl (Blk.ty aa.o))).trans aa.o);have aV:PH (Blk A (k+1+1) _ _):=ae ((ag (k+1+1) (.inl (Blk.ty ak.o))).trans ak.o);have ax:=ae (al.o.keepO λb f=>ag b (.inr (al.o.ty b f)));have aX:=ae (ao.o.trans (aL.mono (by omega)));have ay:=ae (ac.ownTy j rfl);have bi:=ae av;have a0:=ae aS;have aA:PH (z.heap.size<=j/\j<A.heap.size):=ae ⟨aO,aR⟩;have a4:=ae aw
 have a6:PH (∀m∈d6,(rI m.e.tries).ok A (λb=>(Ty 3 A b/\k<=b)\/(b<k/\Fm w b)) [slice m.a m.e.tries.length m.c]):=ae λm hy=>(rI _).more (aT m hy) λb f _=>by
  have h1:=f.1;rw[aF.o] at h1;rcases h1 with h1 | h1
  ·exact .inl ⟨h1.1.keep (ag b (.inr h1.1)),by omega⟩
  ·exact .inr h1
 have an:PH (d6.length=g+1):=ae (by have h:=congrArg List.length av;rw[aC,ai] at h;exact h);clear ac aL aM be ag HR aa ak al O ao V e0 e1 e2 e3 aB av aw aO aR aS aT aK ai bd;have f7:=E.o.frozen 7;have V:A.cell? ⟨q,7,none⟩=some (slice I g J):=E.o.cell 7;have aa:q≠j:=(Blk.ty E.o).ne3 ay.o (by decide);have al:Blk (A.setCell ⟨q,7,none⟩ (slice (some ⟨j,0,none⟩) (g+1) l)) q 68 #[int i64 u,int i64 y,int i64 K,int i64 H,int i64 Z,int i64 ex,slice r n t,slice (some ⟨j,0,none⟩) (g+1) l]:=by simpa using E.o.set 7 (slice (some ⟨j,0,none⟩) (g+1) l)
 have ai:=ae al;have O:∀b,b≠q->(A.setCell ⟨q,7,none⟩ (slice (some ⟨j,0,none⟩) (g+1) l)).heap[b]? =A.heap[b]? :=λb f=>bE _ _ _ b f;have ak:=ae (aV.o.far (p:=⟨q,7,none⟩) (show k+1+1≠q by have:=au.o;omega) (slice (some ⟨j,0,none⟩) (g+1) l));have ao:PH (OwnI (A.setCell ⟨q,7,none⟩ (slice (some ⟨j,0,none⟩) (g+1) l)) z.heap.size (slice r n t) (range n)):=ae (ax.o.keepO λb f=>O b λe=>Ty.ne2 e (ax.o.ty b f) (Blk.ty E.o) (by decide));have ac:PH (Ty 65 (A.setCell ⟨q,7,none⟩ (slice (some ⟨j,0,none⟩) (g+1) l)) j):=ae (ay.o.keep (O j aa.symm))
 have aK:PH (Sort.HoldsK dM 4 (A.setCell ⟨q,7,none⟩ (slice (some ⟨j,0,none⟩) (g+1) l)) j 0 d6.toArray):=ae λag G=>by
  have h:=a0.o ag G;have e:=O j aa.symm;exact⟨by unfold World.cell? at h ⊢;simp only at h ⊢;rw[e];exact h.1,by unfold World.frozen? at h ⊢;simp only at h ⊢;rw[e];exact h.2⟩
 have aL:PH (∀m∈d6,(rI m.e.tries).ok (A.setCell ⟨q,7,none⟩ (slice (some ⟨j,0,none⟩) (g+1) l)) (λb=>(Ty 3 (A.setCell ⟨q,7,none⟩ (slice (some ⟨j,0,none⟩) (g+1) l)) b/\k<=b)\/(b<k/\Fm w b)) [slice m.a m.e.tries.length m.c]):=ae λm hy=>(rI _).keep (a6.o m hy) λb f U=>by
  rcases f with f | f
  ·have e:=O b (f.1.ne3 (Blk.ty E.o) (by decide))
   exact⟨e,.inl ⟨f.1.keep e,f.2⟩⟩
  ·exact⟨O b (by have:=au.o;omega),.inr f⟩
 have av:PH (Below k w (A.setCell ⟨q,7,none⟩ (slice (some ⟨j,0,none⟩) (g+1) l))):=ae (aX.o.setCell (p:=⟨q,7,none⟩) (by show k<=q;have:=au.o;omega) _);have aw:PH (j<(A.setCell ⟨q,7,none⟩ (slice (some ⟨j,0,none⟩) (g+1) l)).heap.size):=ae (by simpa using aA.o.2);clear al O E aV ax aX ay a0 a6 aa;go_upto_region 5 with fail;generalize A.setCell ⟨q,7,none⟩ (slice (some ⟨j,0,none⟩) (g+1) l)=w7 at*;clear V f7;have al:((g+1:Nat):Int)=(g:Int)+1:=by omega
 obtain⟨E,aa⟩:∃E,E=g+1:=⟨_,rfl⟩;rw[<-aa] at ai a4 an ⊢;have CS:=ae (Fj (λw M=>∃O:List lK,O.Perm d6/\(∀i,i+1<E->Sort.ltStr (O.getD (i+1) default).e.name.toList (O.getD i default).e.name.toList=false)/\Sort.HoldsK dM 4 M j 0 O.toArray/\(∀ag,Ty ag w j->Ty ag M j)/\Chg (·=j) w M) (some ⟨j,0,none⟩) E l (.func (.func 164) #[] #[]) w7 (by omega) (LO d6 j E l w7 aK.o aw.o an.o (by omega)));have a0:=ae aa;clear aa al;obtain⟨x0,x1,x2,x3,x4,x5,x6,V⟩:=bY ai.o;go_wp2_with fail;refine CS.o.mono ?_;rintro aq M ⟨rfl,O,ax,aM,aO,aR,aa⟩;clear x0 x1 x2 x3 x4 x5 x6 V;have aS:=ae (ai.o.chg aa ((Blk.ty ai.o).ne3 ac.o (by decide)));have al:=ae (ak.o.chg aa ((Blk.ty ak.o).ne3 ac.o (by decide)));have ay:PH (OwnI M z.heap.size (slice r n t) (range n)):=ae (ao.o.keepO λb f=>aa.block b (ao.o.lt b f).2 ((ao.o.ty b f).ne3 ac.o (by decide)));have aT:PH (Below k w M):=ae (av.o.trans (aa.below (by have:=av.o.size;have:=ak.o.lt;omega) λaB e=>by have:=aA.o.1;omega))
 have aV:PH (∀m∈O,(rI m.e.tries).ok M (λb=>(Ty 3 M b/\k<=b)\/(b<k/\Fm w b)) [slice m.a m.e.tries.length m.c]):=ae λm hy=>(rI _).keep (aL.o m (ax.mem_iff.1 hy)) λb f U=>by
  rcases f with f | f
  ·have e:=aa.block b U (f.1.ne3 ac.o (by decide))
   exact⟨e,.inl ⟨f.1.keep e,f.2⟩⟩
  ·exact⟨aa.block b U (by have:=aA.o.1;omega),.inr f⟩
 have aX:=ae aO;have aB:=ae ax;have a6:=ae aM;have bd:PH (j<M.heap.size):=ae (aW aw.o aa.size);have be:PH (Ty 65 M j):=ae (aR _ ac.o);have bj:PH (j≠k+1+1):=ae (ac.o.ne3 (Blk.ty ak.o) (by decide));clear ax aM aO aR aa CS ai ak ao av aL aK aw ac;obtain⟨x0,x1,x2,x3,x4,x5,x6,V⟩:=bY aS.o
 go_wp2_with (change wpList _ _ _ (Oper.mk none (Op.store 68 _ _) _ _ _ _ :: _) _ _;refine wpList_store_row rfl 68 _ _ rfl (k+1+1) #[int i64 u,int i64 y,int i64 K,int i64 H,int i64 Z,int i64 ex,slice r n t,slice (some ⟨j,0,none⟩) E l] rfl rfl 68 _ al.o (by kernel_rfl) rfl (by kernel_rfl) ?_)
 have HR:=ae (al.o.row #[int i64 u,int i64 y,int i64 K,int i64 H,int i64 Z,int i64 ex,slice r n t,slice (some ⟨j,0,none⟩) E l]);have ac:=ae (bW aT.o (show k<=k+1+1 by omega) #[int i64 u,int i64 y,int i64 K,int i64 H,int i64 Z,int i64 ex,slice r n t,slice (some ⟨j,0,none⟩) E l]);have aa:∀b,b≠k+1+1->(M.setRow (k+1+1) #[int i64 u,int i64 y,int i64 K,int i64 H,int i64 Z,int i64 ex,slice r n t,slice (some ⟨j,0,none⟩) E l]).heap[b]? =M.heap[b]? :=λb f=>setRow_other _ _ _ _ (by first | exact f | exact f.symm);have ak:PH (OwnI (M.setRow (k+1+1) #[int i64 u,int i64 y,int i64 K,int i64 H,int i64 Z,int i64 ex,slice r n t,slice (some ⟨j,0,none⟩) E l]) z.heap.size (slice r n t) (range n)):=ae (ay.o.keepO λb f=>aa b λe=>Ty.ne2 e (ay.o.ty b f) (Blk.ty al.o) (by decide))
 have ao:PH ((rS 4 ((O.map lK.e).map bQ)).ok (M.setRow (k+1+1) #[int i64 u,int i64 y,int i64 K,int i64 H,int i64 Z,int i64 ex,slice r n t,slice (some ⟨j,0,none⟩) E l]) (Fm (M.setRow (k+1+1) #[int i64 u,int i64 y,int i64 K,int i64 H,int i64 Z,int i64 ex,slice r n t,slice (some ⟨j,0,none⟩) E l])) [slice (some ⟨j,0,none⟩) E l]):=ae (by
  have e:=aa j bj.o;have ai:O.length=E:=(by rw[aB.o.length_eq];exact an.o);refine BC (d:=O) (λag G=> ?_) (by rw[size_setRow];exact bd.o) ?_ ai a4.o λm hy=>(rI _).keep (aV.o m hy) λb f U=> ?_
  ·have h:=aX.o ag G
   exact⟨by unfold World.cell? at h ⊢;simp only at h ⊢;rw[e];exact h.1,by unfold World.frozen? at h ⊢;simp only at h ⊢;rw[e];exact h.2⟩
  ·have G:=be.o.keep e
   exact⟨Mt.not G (by decide) (by decide) (by decide),λm=>G.ne m (by decide)⟩
  ·rcases f with f | f
   ·have e:=aa b (f.1.ne3 (Blk.ty al.o) (by decide))
    have G:=f.1.keep e;exact⟨e,Mt.not G (by decide) (by decide) (by decide),λm=>G.ne m (by decide)⟩
   ·have e:=aa b (by omega)
    exact⟨e,f.2.keep (ac.o.block b f.1)⟩)
 clear aa aS al ay aT aV aX x0 x1 x2 x3 x4 x5 x6 V;generalize M.setRow (k+1+1) #[int i64 u,int i64 y,int i64 K,int i64 H,int i64 Z,int i64 ex,slice r n t,slice (some ⟨j,0,none⟩) E l]=w8 at*;go_wp2_with fail
 (try simp only[Exit.inBlock,Exit.then])
 refine bodyPost_ret (results_cell_row rfl _ _ (k+1+1) 68 #[int i64 u,int i64 y,int i64 K,int i64 H,int i64 Z,int i64 ex,slice r n t,slice (some ⟨j,0,none⟩) E l] (0,0) _ rfl HR.o underlying68 rfl (by kernel_rfl)) rfl ?_;rw[<-HG.o,<-a0.o];refine⟨_,_,_,O.map lK.e,rfl,?_,λi m=> ?_,ak.o.base (by omega),ao.o,ac.o⟩
 ·have h:=aB.o.map lK.e
  rwa [bi.o] at h
 ·have h:=a6.o i m
  have ai:O.length=E:=(by rw[aB.o.length_eq];exact an.o);rw[af,af,List.getElem?_map,List.getElem?_map,ah (by omega),ah (by omega)];rw[af,af,ah (by omega),ah (by omega)] at h;exact h
end
section
theorem FL{x y z:cJ}(b:Io x y)(k:Io y z):Io x z:=by unfold Io at*;omega
theorem I9{L:List cJ}(d:ou L){i j:Nat}(g:i<j)(e:j<L.length):Io (L.getD i lq) (L.getD j lq):=by
 obtain⟨b,rfl⟩:∃b,j=i+1+b:=⟨j-(i+1),by omega⟩
 induction b with
 | zero=>exact d i e
 | succ b f=>exact FL (f (by omega) (by omega)) (d (i+1+b) e)
section
variable {K H Z:Nat} {L:List cJ} {F:Nat->Prop} {a:PK} {n c:Nat} {w:World}
theorem f_ins(p q:Nat)(Q:p<=q/\q<=n)(t:(rS 8 (L.map (tu K H Z))).ok w F [slice a n c])(u:L.length=n)(R:n<=1000)(hs:ou L):
 Calls prog 311 #[slice a n c,int i64 p,int i64 q,.func (.func 181) #[] #[]] w λe k=>e=returned (.tuple #[])/\Below w.heap.size w k:=by
 have z:=ae t;have l:=ae u;have A:=ae hs;have v:=ae (az w.heap.size w);have S:IntKind.i64.wrap ((p:Int)+1)=(p:Int)+1:=by rw[IntKind.wrap_i64];omega
 clear t u hs;go_enter func311,ntmps311;go_wp2_with fail;go_loopw [8] (λi wr=>∃b:Nat,b<=q+1/\p+1<=b/\i=int i64 b/\PH (Below w.heap.size w wr)) (λi _=>q-(intOf i).toNat)
 case atStart=>exact⟨p+1,by omega,by omega,by go_num,v⟩
 case round=>
  clear v;obtain⟨b,T,U,rfl,f⟩:=hrel;by_cases V:b<q
  ·have C:(b:Int)<(q:Int):=by omega
   have W:(b:Int)<(n:Int):=(by omega);have Y:(p:Int)<(b:Int):=(by omega);have D:p<b:=(by omega);have aa:decide (p<b)=true:=bf D;have ab:(1:Int)<=(b:Int):=(by omega);obtain⟨d,j⟩:∃d,d=b-1:=⟨_,rfl⟩;have ac:IntKind.i64.wrap ((b:Int)-1)=(d:Int):=(by rw[IntKind.wrap_i64];omega);have ad:(d:Int)<(n:Int):=(by omega);have x:=ae ((rS 8 _).new z.o f.o);obtain⟨ag,o,a3,c3,rfl,-,m,-⟩:=jg (i:=b) x.o l.o (by omega);obtain⟨b',o',a4,c4,e,-,r,-⟩:=jg (i:=d) x.o l.o (by omega);injection e with e;injection e with E G _;subst E G;have g:=A.o d (by rw[l.o];omega);rw[show d+1=b by omega] at g;have y:=ae λI J w=>qp K H Z (L.getD b lq) (L.getD d lq) I J w g;have m:=ae m;have r:=ae r;clear g j;generalize L.getD b lq=ai at*;generalize L.getD d lq=ak at*;unfold ek at y;go_wp2_with fail;rename World=>I;go_loopw [9] (λg wr=>g=int i64 b/\PH (wr=I)) (λ_ _=>0)
   case atStart=>exact⟨rfl,ae rfl⟩
   case round=>
    obtain⟨rfl,J⟩:=hrel;obtain rfl:=J.o;go_upto_region 4 with fail;refine bL (by kernel_rfl) (by kernel_rfl) ?_
    iterate 17 (
     with_reducible refine wpQuiet_step (λM g=> ?_)
     go_simp
     first
     | refine g _ ?_
     | refine⟨_,λ_ _=>rfl,g _ ?_⟩
     | (apply Exists.intro
        refine⟨λk j=> ?_,g _ ?_⟩
        ·obtain⟨al,am,an,ao,ap,aq,ar,au⟩:=(m.o.below j).c
         obtain⟨av,aw,ax,ay,aA,aB,aD,aE⟩:=(r.o.below j).c
         first
         | (go_simp
            first | exact rfl | exact⟨rfl,rfl⟩)
         | (go_at_call 181
            refine(y.o _ _ k).mono ?_;rintro d N ⟨rfl,O⟩;exact⟨rfl,j.trans (O.mono j.size)⟩))
     clear g M)
    with_reducible refine wpQuiet_nil ?_
    intro N g;have M:=ae (f.o.trans (g.mono f.o.size));clear g;go_wp2_with fail;go_roundw
    case rel=>exact⟨b+1,by omega,by omega,by go_num,M⟩
    case measure=>simp[intOf];omega
  ·have C:¬(b:Int)<(q:Int):=by omega
   go_wp2_with fail
   (try simp only[Exit.inBlock,Exit.then])
   refine bodyPost_end (results_none rfl _ _ _) rfl ?_;exact⟨rfl,f.o⟩
theorem f_sym:∀(S p m q:Nat) (w:World),q<=p+S->p<m->m<q->q<=n->(rS 8 (L.map (tu K H Z))).ok w F [slice a n c]->L.length=n->n<=1000->ou L->
 Calls prog 312 #[slice a n c,int i64 p,int i64 m,int i64 q,.func (.func 181) #[] #[]] w λv t=>v=returned (.tuple #[])/\Below w.heap.size w t:=by
 intro S
 induction S with
 | zero=>intro p m q w T W f;omega
 | succ S ih=>
   intro p m q w hN bc bd aS d e hn b;have Y:=ae d;have I:=ae e;have HS:=ae b;have J:=ae (az w.heap.size w);have aO:=ae λ(p m q:Nat) (t:World) (T:q<=p+S) (W:p<m) (f:m<q) (g:q<=n) (j:Below w.heap.size w t)=>ih p m q t T W f g ((rS 8 _).new d j) e hn b;have aa:PH (∀(i u:Nat) (y z:Value) (w:World),u<i->i<n->Calls prog 181 #[.agg (ek K H Z (L.getD i lq) y),.agg (ek K H Z (L.getD u lq) z)] w λv t=>v=returned (int i64 1)/\Below w.heap.size w t):=ae λi u y z w T W=>qp K H Z (L.getD i lq) (L.getD u lq) y z w (I9 b T (by omega));clear d e b ih;have U:IntKind.i64.wrap ((m:Int)-(p:Int))=((m-p:Nat):Int):=(by rw[IntKind.wrap_i64];omega);have ab:IntKind.i64.wrap ((q:Int)-(m:Int))=((q-m:Nat):Int):=(by rw[IntKind.wrap_i64];omega);have be:m<=1000:=(by omega);have bi:q<=1000:=(by omega);by_cases T:m-p=1
   ·have R:IntKind.i64.wrap ((m:Int)-(p:Int))=1:=by rw[U];omega
    have V:IntKind.i64.wrap ((m:Int)-1)=(p:Int):=(by rw[IntKind.wrap_i64];omega);clear U ab;go_enter func312,ntmps312;go_wp2_with fail;go_loopw [10,11] (λi u wr=>∃b:Nat,m<=b/\b<=q/\i=int i64 m/\u=int i64 b/\PH (Below w.heap.size w wr)) (λ_ u _=>(intOf u).toNat-m)
    case atStart=>exact⟨q,by omega,by omega,rfl,rfl,J⟩
    case round=>
     clear J;obtain⟨b,aR,aT,rfl,rfl,e⟩:=hrel;by_cases ac:m<b
     ·have ad:(m:Int)<(b:Int):=by omega
      obtain⟨h,M⟩:∃h:Nat,((m:Int)+(b:Int))/2=(h:Int):=⟨(m+b)/2,by omega⟩;have ag:m<=h/\h<b:=(by omega);go_upto_region 5 with fail
      (try rw[M])
      have A:=ae ((rS 8 _).new Y.o e.o);obtain⟨ai,o,a3,c3,v,-,k,-⟩:=jg (i:=h) A.o I.o (by omega);obtain⟨b',o',a4,c4,l,-,r,-⟩:=jg (i:=p) A.o I.o (by omega);subst v;injection l with l;injection l with N O _;subst N O;have C:=ae λy z w=>aa.o h p y z w (by omega) (by omega);have k:=ae k;have r:=ae r;have ak:(h:Int)<(n:Int):=(by omega);have al:(p:Int)<(n:Int):=(by omega);generalize L.getD h lq=am at*;generalize L.getD p lq=an at*;unfold ek at C;refine bL (by kernel_rfl) (by kernel_rfl) ?_
      iterate 11 (
       with_reducible refine wpQuiet_step (λQ f=> ?_)
       go_simp
       first
       | refine f _ ?_
       | refine⟨_,λ_ _=>rfl,f _ ?_⟩
       | (apply Exists.intro
          refine⟨λt g=> ?_,f _ ?_⟩
          ·obtain⟨ao,ap,aq,ar,au,av,aw,ax⟩:=(k.o.below g).c
           obtain⟨ay,aA,aB,aD,aE,aF,aK,aL⟩:=(r.o.below g).c
           first
           | (go_simp
              first | exact rfl | exact⟨rfl,rfl⟩)
           | (go_at_call 181
              refine(C.o _ _ t).mono ?_;rintro aM E ⟨rfl,x⟩;exact⟨rfl,g.trans (x.mono g.size)⟩))
       clear f Q)
      with_reducible refine wpQuiet_nil ?_
      intro E D;have G:=ae (e.o.trans (D.mono e.o.size));clear D;go_wp2_with fail;go_roundw
      case rel=>exact⟨h,by omega,by omega,rfl,rfl,G⟩
      case measure=>simp[intOf];omega
     ·obtain rfl:b=m:=by omega
      go_wp2_with fail;rename World=>d;go_loopw [13] (λi wr=>i=int i64 p/\PH (wr=d)) (λ_ _=>0)
      case atStart=>exact⟨rfl,ae rfl⟩
      case round=>
       obtain⟨rfl,j⟩:=hrel;obtain rfl:=j.o;go_wp2_with fail
       (try simp only[Exit.inBlock,Exit.then])
       refine bodyPost_ret (results_none rfl _ _ _) rfl ?_;exact⟨rfl,e.o⟩
   ·by_cases W:q-m=1
    ·have R:¬IntKind.i64.wrap ((m:Int)-(p:Int))=1:=by rw[U];omega
     have V:IntKind.i64.wrap ((q:Int)-(m:Int))=1:=(by rw[ab];omega);have aT:¬(m:Int)-(p:Int)=1:=(by omega);have aV:(q:Int)-(m:Int)=1:=(by omega);clear U ab;go_enter func312,ntmps312;go_wp2_with fail;go_loopw [14,15] (λi u wr=>∃b:Nat,p<=b/\b<=m/\i=int i64 b/\u=int i64 m/\PH (Below w.heap.size w wr)) (λi _ _=>m-(intOf i).toNat)
     case atStart=>exact⟨p,by omega,by omega,rfl,rfl,J⟩
     case round=>
      clear J;obtain⟨b,aX,aR,rfl,rfl,e⟩:=hrel;by_cases ac:b<m
      ·have ad:(b:Int)<(m:Int):=by omega
       obtain⟨h,M⟩:∃h:Nat,((b:Int)+(m:Int))/2=(h:Int):=⟨(b+m)/2,by omega⟩;have ag:b<=h/\h<m:=(by omega);go_upto_region 17 with fail
       (try rw[M])
       have A:=ae ((rS 8 _).new Y.o e.o);obtain⟨ai,o,a3,c3,v,-,k,-⟩:=jg (i:=m) A.o I.o (by omega);obtain⟨b',o',a4,c4,l,-,r,-⟩:=jg (i:=h) A.o I.o (by omega);subst v;injection l with l;injection l with N O _;subst N O;have C:=ae λy z w=>aa.o m h y z w (by omega) (by omega);have k:=ae k;have r:=ae r;have ak:(m:Int)<(n:Int):=(by omega);have al:(h:Int)<(n:Int):=(by omega);generalize L.getD m lq=am at*;generalize L.getD h lq=an at*;unfold ek at C;refine bL (by kernel_rfl) (by kernel_rfl) ?_
       iterate 12 (
        with_reducible refine wpQuiet_step (λQ f=> ?_)
        go_simp
        first
        | refine f _ ?_
        | refine⟨_,λ_ _=>rfl,f _ ?_⟩
        | (apply Exists.intro
           refine⟨λt g=> ?_,f _ ?_⟩
           ·obtain⟨ao,ap,aq,ar,au,av,aw,ax⟩:=(k.o.below g).c
            obtain⟨ay,aA,aB,aD,aE,aF,aK,aL⟩:=(r.o.below g).c
            first
            | (go_simp
               first | exact rfl | exact⟨rfl,rfl⟩)
            | (go_at_call 181
               refine(C.o _ _ t).mono ?_;rintro aM E ⟨rfl,x⟩;exact⟨rfl,g.trans (x.mono g.size)⟩))
        clear f Q)
       with_reducible refine wpQuiet_nil ?_
       intro E D;have G:=ae (e.o.trans (D.mono e.o.size));clear D;go_wp2_with fail;go_roundw
       case rel=>exact⟨h+1,by omega,by omega,by omega⟩
       case measure=>simp[intOf];omega
      ·obtain rfl:b=m:=by omega
       go_wp2_with fail;rename World=>d;go_loopw [17] (λi wr=>i=int i64 b/\PH (wr=d)) (λ_ _=>0)
       case atStart=>exact⟨rfl,ae rfl⟩
       case round=>
        obtain⟨rfl,j⟩:=hrel;obtain rfl:=j.o;go_wp2_with fail
        (try simp only[Exit.inBlock,Exit.then])
        refine bodyPost_ret (results_none rfl _ _ _) rfl ?_;exact⟨rfl,e.o⟩
    ·have aT:¬(m:Int)-(p:Int)=1:=by omega
     have aV:¬(q:Int)-(m:Int)=1:=(by omega);clear U ab;obtain⟨d,bj⟩:∃d:Nat,((p:Int)+(q:Int))/2=(d:Int):=⟨(p+q)/2,by omega⟩;have bk:p<d/\d<q:=(by omega);have bl:d<=1000:=(by omega);have bm:p<=1000:=(by omega);have bo:2*d<=p+q/\p+q<=2*d+1:=(by omega);by_cases bp:d<m
     ·have aX:(d:Int)<(m:Int):=by omega
      obtain⟨R,br⟩:∃R:Nat,R+q=d+m:=⟨d+m-q,by omega⟩;have a0:(d:Int)+(m:Int)-(q:Int)=(R:Int):=(by omega);have bs:R<=d:=(by omega);go_enter func312,ntmps312;go_wp2_with fail;go_loopw [20,21] (λi u wr=>∃b:Nat,R<=b/\b<=d/\i=int i64 b/\u=int i64 d/\PH (Below w.heap.size w wr)) (λi _ _=>d-(intOf i).toNat)
      case atStart=>exact⟨R,by omega,by omega,by first | rfl | (rw[a0]) | go_num,rfl,J⟩
      case round=>
       clear J;obtain⟨b,a1,a2,rfl,rfl,e⟩:=hrel;by_cases ac:b<d
       ·have ad:(b:Int)<(d:Int):=by omega
        obtain⟨h,M⟩:∃h:Nat,((b:Int)+(d:Int))/2=(h:Int):=⟨(b+d)/2,by omega⟩;have ag:b<=h/\h<d:=(by omega);obtain⟨j,a5⟩:∃j:Nat,j+1+h=d+m:=⟨d+m-1-h,by omega⟩;have a6:IntKind.i64.wrap ((d:Int)+(m:Int)-1-(h:Int))=(j:Int):=(by rw[IntKind.wrap_i64];omega);have a7:h<j/\j<q:=(by omega);go_upto_region 35 with fail
        (try rw[M])
        have A:=ae ((rS 8 _).new Y.o e.o);obtain⟨ai,o,a3,c3,v,-,k,-⟩:=jg (i:=j) A.o I.o (by omega);obtain⟨b',o',a4,c4,l,-,r,-⟩:=jg (i:=h) A.o I.o (by omega);subst v;injection l with l;injection l with N O _;subst N O;have C:=ae λy z w=>aa.o j h y z w (by omega) (by omega);have k:=ae k;have r:=ae r;have ak:(j:Int)<(n:Int):=(by omega);have al:(h:Int)<(n:Int):=(by omega);generalize L.getD j lq=am at*;generalize L.getD h lq=an at*;unfold ek at C;refine bL (by kernel_rfl) (by kernel_rfl) ?_
        iterate 14 (
         with_reducible refine wpQuiet_step (λQ f=> ?_)
         go_simp
         first
         | refine f _ ?_
         | refine⟨_,λ_ _=>rfl,f _ ?_⟩
         | (apply Exists.intro
            refine⟨λt g=> ?_,f _ ?_⟩
            ·obtain⟨ao,ap,aq,ar,au,av,aw,ax⟩:=(k.o.below g).c
             obtain⟨ay,aA,aB,aD,aE,aF,aK,aL⟩:=(r.o.below g).c
             first
             | (go_simp
                first | exact rfl | exact⟨rfl,rfl⟩)
             | (go_at_call 181
                refine(C.o _ _ t).mono ?_;rintro aM E ⟨rfl,x⟩;exact⟨rfl,g.trans (x.mono g.size)⟩))
         clear f Q)
        with_reducible refine wpQuiet_nil ?_
        intro E D;have G:=ae (e.o.trans (D.mono e.o.size));clear D;go_wp2_with fail;go_roundw
        case rel=>exact⟨h+1,by omega,by omega,by omega⟩
        case measure=>simp[intOf];omega
       ·obtain rfl:b=d:=by omega
        have a8:(b:Int)+(m:Int)-(b:Int)=(m:Int):=(by omega);have V:=ae (aO.o b m q wr (by omega) (by omega) (by omega) aS e.o);have a9:(m:Int)<(q:Int):=(by omega);have bb:(p:Int)<(b:Int):=(by omega);go_wp2_with fail;refine V.o.mono ?_;rintro v E ⟨rfl,x⟩;have G:=ae (e.o.trans (x.mono e.o.size));clear x V;go_wp2_with fail
        (try simp only[Exit.inBlock,Exit.then])
        refine bodyPost_end (results_none rfl _ _ _) rfl ?_;exact⟨rfl,G.o⟩
     ·have aX:¬(d:Int)<(m:Int):=by omega
      go_enter func312,ntmps312;go_wp2_with fail;go_loopw [20,21] (λi u wr=>∃b:Nat,p<=b/\b<=m/\i=int i64 b/\u=int i64 m/\PH (Below w.heap.size w wr)) (λi _ _=>m-(intOf i).toNat)
      case atStart=>exact⟨p,by omega,by omega,rfl,rfl,J⟩
      case round=>
       clear J;obtain⟨b,a1,a2,rfl,rfl,e⟩:=hrel;by_cases ac:b<m
       ·have ad:(b:Int)<(m:Int):=by omega
        obtain⟨h,M⟩:∃h:Nat,((b:Int)+(m:Int))/2=(h:Int):=⟨(b+m)/2,by omega⟩;have ag:b<=h/\h<m:=(by omega);obtain⟨j,a5⟩:∃j:Nat,j+1+h=d+m:=⟨d+m-1-h,by omega⟩;have a6:IntKind.i64.wrap ((d:Int)+(m:Int)-1-(h:Int))=(j:Int):=(by rw[IntKind.wrap_i64];omega);have a7:h<j/\j<q:=(by omega);go_upto_region 35 with fail
        (try rw[M])
        have A:=ae ((rS 8 _).new Y.o e.o);obtain⟨ai,o,a3,c3,v,-,k,-⟩:=jg (i:=j) A.o I.o (by omega);obtain⟨b',o',a4,c4,l,-,r,-⟩:=jg (i:=h) A.o I.o (by omega);subst v;injection l with l;injection l with N O _;subst N O;have C:=ae λy z w=>aa.o j h y z w (by omega) (by omega);have k:=ae k;have r:=ae r;have ak:(j:Int)<(n:Int):=(by omega);have al:(h:Int)<(n:Int):=(by omega);generalize L.getD j lq=am at*;generalize L.getD h lq=an at*;unfold ek at C;refine bL (by kernel_rfl) (by kernel_rfl) ?_
        iterate 14 (
         with_reducible refine wpQuiet_step (λQ f=> ?_)
         go_simp
         first
         | refine f _ ?_
         | refine⟨_,λ_ _=>rfl,f _ ?_⟩
         | (apply Exists.intro
            refine⟨λt g=> ?_,f _ ?_⟩
            ·obtain⟨ao,ap,aq,ar,au,av,aw,ax⟩:=(k.o.below g).c
             obtain⟨ay,aA,aB,aD,aE,aF,aK,aL⟩:=(r.o.below g).c
             first
             | (go_simp
                first | exact rfl | exact⟨rfl,rfl⟩)
             | (go_at_call 181
                refine(C.o _ _ t).mono ?_;rintro aM E ⟨rfl,x⟩;exact⟨rfl,g.trans (x.mono g.size)⟩))
         clear f Q)
        with_reducible refine wpQuiet_nil ?_
        intro E D;have G:=ae (e.o.trans (D.mono e.o.size));clear D;go_wp2_with fail;go_roundw
        case rel=>exact⟨h+1,by omega,by omega,by go_num,rfl,G⟩
        case measure=>simp[intOf];omega
       ·obtain rfl:b=m:=by omega
        have a8:(d:Int)+(b:Int)-(b:Int)=(d:Int):=(by omega);have a9:(b:Int)<(q:Int):=(by omega);have bb:(p:Int)<(b:Int):=(by omega);by_cases aR:b<d
        ·have f:(b:Int)<(d:Int):=by omega
         have V:=ae (aO.o p b d wr (by omega) (by omega) aR (by omega) e.o);go_wp2_with fail;refine V.o.mono ?_;rintro v E ⟨rfl,x⟩;have G:=ae (e.o.trans (x.mono e.o.size));clear x V;go_wp2_with fail
         (try simp only[Exit.inBlock,Exit.then])
         refine bodyPost_end (results_none rfl _ _ _) rfl ?_;exact⟨rfl,G.o⟩
        ·have f:¬(b:Int)<(d:Int):=by omega
         go_wp2_with fail
         (try simp only[Exit.inBlock,Exit.then])
         refine bodyPost_end (results_none rfl _ _ _) rfl ?_;exact⟨rfl,e.o⟩
theorem Ja(p:(rS 8 (L.map (tu K H Z))).ok w F [slice a n c])(q:L.length=n)(D:n<=24)(hs:ou L):
 Calls prog 247 #[slice a n c,int i64 n,.func (.func 181) #[] #[]] w λi b=>i=returned (.tuple #[])/\Below w.heap.size w b:=by
 have j:=ae λ(b:World) (f d:Nat) (e:Below w.heap.size w b) (g:f<=d/\d<=n)=>f_ins (w:=b) f d g ((rS 8 _).new p e) q (by omega) hs;have v:=ae λ(b:World) (e:Below w.heap.size w b) (h:20<n)=>f_sym 24 0 20 n b (by omega) (by omega) h (aj _) ((rS 8 _).new p e) q (by omega) hs;have r:=ae (az w.heap.size w);clear p q hs;by_cases E:n<20
 ·have z:¬(20:Int)<=(n:Int):=by omega
  have f:¬(20:Int)<(n:Int):=(by omega);have g:=ae (j.o w 0 n r.o (by omega));clear j v;go_enter func247,ntmps247;go_wp2_with fail;go_loopw [7,8] (λd k wr=>d=int i64 0/\k=int i64 20/\PH (wr=w)) (λ_ _ _=>0)
  case atStart=>exact⟨rfl,rfl,ae rfl⟩
  case round=>
   obtain⟨rfl,rfl,l⟩:=hrel;obtain rfl:=l.o;go_wp2_with fail;refine g.o.mono ?_;rintro i x ⟨rfl,e⟩;have b:=ae e;clear e g;go_wp2_with fail;rename World=>t;go_loopw [6] (λd wr=>d=int i64 20/\PH (wr=t)) (λ_ _=>0)
   case atStart=>exact⟨rfl,ae rfl⟩
   case round=>
    obtain⟨rfl,l⟩:=hrel;obtain rfl:=l.o;go_wp2_with fail
    (try simp only[Exit.inBlock,Exit.then])
    refine bodyPost_end (results_none rfl _ _ _) rfl ?_;exact⟨rfl,b.o⟩
 ·have z:(20:Int)<=(n:Int):=by omega
  have G:¬(40:Int)<=(n:Int):=(by omega);have I:¬(40:Int)<(n:Int):=(by omega);go_enter func247,ntmps247;go_wp2_with fail;go_loopw [7,8] (λd k wr=>∃f:Nat,(f=0\/f=20)/\d=int i64 f/\k=int i64 ((f:Int)+20)/\PH (Below w.heap.size w wr)) (λd _ _=>20-(intOf d).toNat)
  case atStart=>exact⟨0,.inl rfl,rfl,rfl,r⟩
  case round=>
   clear r;obtain⟨f,u,rfl,rfl,b⟩:=hrel;rcases u with rfl | rfl
   ·have g:=ae (j.o wr 0 20 b.o (by omega))
    go_wp2_with fail;refine g.o.mono ?_;rintro i x ⟨rfl,e⟩;have m:=ae (b.o.trans (e.mono b.o.size));clear e g;go_wp2_with fail;go_roundw
    case rel=>exact⟨20,.inr rfl,by first | rfl | go_num,by first | rfl | go_num,m⟩
    case measure=>simp[intOf]
   ·have g:=ae (j.o wr 20 n b.o (by omega))
    go_wp2_with fail;refine g.o.mono ?_;rintro i x ⟨rfl,e⟩;have m:=ae (b.o.trans (e.mono b.o.size));clear e g j;go_wp2_with fail;go_loopw [6] (λd wr=>∃f:Nat,(f=20\/f=40)/\d=int i64 f/\PH (Below w.heap.size w wr)) (λd _=>40-(intOf d).toNat)
    case atStart=>exact⟨20,.inl rfl,rfl,m⟩
    case round=>
     clear m b;obtain⟨f,u,rfl,b⟩:=hrel;rcases u with rfl | rfl
     ·by_cases A:20<n
      ·have C:(20:Int)<(n:Int):=by omega
       have y:=ae (v.o wr b.o A);go_wp2_with fail;rename World=>t;go_loopw [7,8] (λd k wr=>d=int i64 0/\k=int i64 40/\PH (wr=t)) (λ_ _ _=>0)
       case atStart=>exact⟨rfl,rfl,ae rfl⟩
       case round=>
        obtain⟨rfl,rfl,l⟩:=hrel;obtain rfl:=l.o;go_wp2_with fail;refine y.o.mono ?_;rintro i k ⟨rfl,e⟩;have d:=ae (b.o.trans (e.mono b.o.size));clear e y;go_wp2_with fail;go_roundw
        case rel=>(try((repeat apply Exists.intro);refine⟨?_,rfl⟩));exact⟨40,.inr rfl,by first | rfl | go_num,d⟩
        case measure=>simp[intOf]
      ·have C:¬(20:Int)<(n:Int):=by omega
       go_wp2_with fail
       (try simp only[Exit.inBlock,Exit.then])
       refine bodyPost_end (results_none rfl _ _ _) rfl ?_;exact⟨rfl,b.o⟩
     ·go_wp2_with fail
      (try simp only[Exit.inBlock,Exit.then])
      refine bodyPost_end (results_none rfl _ _ _) rfl ?_;exact⟨rfl,b.o⟩
theorem x9(K H Z:Nat)(L:List cJ)(F:Nat->Prop)(a:PK)(n c:Nat)(w:World)(b:(rS 8 (L.map (tu K H Z))).ok w F [slice a n c])(d:L.length=n)(i:n<=24)(hs:ou L):
 Calls prog 180 #[slice a n c,.func (.func 181) #[] #[]] w λe f=>e=returned (.tuple #[])/\Below w.heap.size w f:=by
 have f:=ae (Ja b d i hs);clear b d hs;go_enter func180,ntmps180;go_wp2_with fail;refine f.o.mono ?_;rintro e k ⟨rfl,g⟩;have j:=ae g;clear g f;go_wp2_with fail
 (try simp only[Exit.inBlock,Exit.then])
 refine bodyPost_end (results_none rfl _ _ _) rfl ?_;exact⟨rfl,j.o⟩
end
end
