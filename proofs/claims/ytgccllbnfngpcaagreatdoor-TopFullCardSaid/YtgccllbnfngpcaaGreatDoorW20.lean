import Derived.Test.YtgccllbnfngpcaaGreatDoorW19
import Derived.Lib.SlBytesConst
import Derived.Maps.RangeWalk
import Derived.Maps.OwnSet
import Derived.Maps.Views
import Derived.StringKeys
import Derived.JoinedOf
import Derived.KernelRfl
import Derived.ProofKit
import Derived.SevenTiedAt
import Derived.Stop.Joined
import Derived.Test.YtgccllbnfngpcaaGreatDoorTie
import Derived.Test.YtgccllbnfngpcaaGreatDoorCards
import Derived.ShutString
import Derived.ChangeOld
import Derived.Below
import Derived.LaidMore
import Derived.Lay
set_option linter.unusedVariables false
set_option maxRecDepth 100000
set_option maxHeartbeats 400000000
namespace Go.Proofs.YtgccllbnfngpcaaGreatDoor
open Go.RowKit _root_.Go.Proofs.Tryz List
open Value (int slice pointer bool)
open IntKind (i64)
open Ending (returned)
open Obj (cells)
section
variable {B:Nat} {P:PaF} {f:Fl} {ga s o:Nat} {ps:List ObF} {es:List cN}
theorem zT{w W:World}{ga p g:Nat}{x:Nat->Value}(a:Blk w ga 80 (iZ p g x))(b:ChgT w W):Blk W ga 80 (iZ p g x):=Blk.chgT a b (Mt.not (Blk.ty a) (by decide) (by decide) (by decide))
theorem OI(w:World)(k:ArcF B P f ga s o ps es w):
 Calls prog 10 #[pointer (some ⟨ga,0,none⟩),.agg (ji 4 .empty (slice none 0 0))] w λb w'=>∃a c,b=returned (.agg (Ie (slice a ps.length c)))/\Below w.heap.size w w':=by
 obtain⟨t,e,l,d,i,m,u⟩:=k;have p:((eO P s o es).objs.map λb=>rV (.string b.name)).length=ps.length:=(aC _).trans d.elen;have v:=d.len5;have q:=d.okEs
 have j:=Lb ga f.p e l ((eO P s o es).objs.map λb=>rV (.string b.name)) w m (λg h=>Oq e f _ _ g (i.below h) (by show es.length<=12;rw[d.elen];omega) λb r=>by
  have x:=(q.ok b r).1.2.1;omega) λg h=>Kj e f _ _ g (i.below h)
 rw[p] at j;exact j
theorem NV{q:ObF}(g:FlF P f)(h:q∈ps)(w:World)(l:ArcF B P f ga s o ps es w):
 Calls prog 10 #[pointer (some ⟨ga,0,none⟩),.agg (ji 2 q.nm (slice none 0 0))] w λm w'=>∃a c,m=returned (.agg (eH 0 (slice a q.n c)))/\(rB q.l).ok w' (Fr w.heap.size) [slice a q.n c]/\Below w.heap.size w w':=by
 obtain⟨r,t,y,b,z,p,M⟩:=l;obtain⟨d,N⟩:=b.hp q h;have O:=b.hs;have Q:=b.ho;obtain⟨A,C⟩:=b.man;have R:=b.hP.hN;have S:=b.len5;have T:=b.elen;obtain⟨E,F,H,I⟩:=b.idx h;refine(NI ga f.p t y q.nm (λu v=>u=0/\v=q.l) w p λe i=>(f_get (eO P s o es) q.o q.n q.nb t E es.length f q.nm q.T q.l (λj=>(r j).map (vC P ps)) _ e (z.below i) rfl (by omega) F H I b.hP.hk d.hT (by omega) d.hb d.hl d.hn.1 d.hnb d.h8 A C (by rw[g.live,aZ];omega) (λj i=> ?_) (λj i=> ?_) (λJ e=> ?_)).mono ?_).mono ?_
 ·rw[g.live] at i
  exact⟨(AU P ps (r j)).symm,b.okR (bA.1 i)⟩
 ·rw[g.live] at i
  exact b.good (bA.1 i)
 ·rw[g.live]
  exact⟨(b.sym h e).1,(b.sym h e).2.1⟩
 ·rintro m w' ⟨e,l | ⟨⟨J,K,x⟩,-⟩⟩
  ·obtain⟨-,L,rfl,k⟩:=l
   exact⟨L,0,q.l,rfl,⟨rfl,rfl⟩,k,e⟩
  ·rw[g.live] at x
   have p:=(b.sym h K).2.2;exact absurd (x.symm.trans p) (by decide)
 ·rintro m w' ⟨u,v,a,c,rfl,⟨rfl,rfl⟩,k,e⟩
  rw[d.hl] at k;exact⟨a,c,by rw[d.hl],k,e⟩
theorem a_del{q:ObF}(b:FlF P f)(l:q∈ps)(w:World)(K:ArcF B P f ga s o ps es w)(u:B<=w.heap.size)(L:s+1<=60):
 Calls prog 10 #[pointer (some ⟨ga,0,none⟩),.agg (ji 3 q.nm (slice none 0 0))] w λi w'=>∃E,i=returned (.agg (eH E (slice none 0 0)))/\((E=7/\ArcF B P f ga s o ps es w')\/(E=0/\∃es',ArcF B P f ga (s+1) o (ps.filter λe=> !(e.o == q.o)) es' w'))/\Ll B ga w w':=by
 obtain⟨v,m,e,a,z,j,x,A⟩:=K;obtain⟨Y,Z⟩:=a.hp q l;have hs:=a.hs;have ho:=a.ho;have hN:=a.hP.hN;have aa:=a.elen;have M:=a.len5;obtain⟨h,C,N,O⟩:=a.idx l;obtain⟨F,H⟩:=a.eraseP l C N;have I:OkEs P o (es.eraseIdx h):=li a.hP (λe c=>a.hp e (mem_filter.1 c).1) (a.ri.sublist filter_sublist) F H (aP (length_filter_le _ _) M);have k:=I.man (s:=s+1) a.hP ⟨by omega,by omega⟩ (by omega);have Q:=(I.pq (s:=s+1) a.hP).1;obtain⟨y,R⟩:∃y,es.length=y+1:=⟨es.length-1,by omega⟩;refine(NH ga f.p m e q.nm (λE=>E=7) (λw'=>(∃es',ArcF B P f ga (s+1) o (ps.filter λe=> !(e.o == q.o)) es' w')/\Below B w w') w j λd p=>(JH s o (s+1) P.K P.H P.Z P.ex P.N m es.length y h f q.nm es _ (λc=>(v c).map (vC P ps)) d b.hN (z.below p) ⟨x,aP u p.size⟩ rfl (by omega) rfl (by omega) R C O (λi S=> ?_) (a.kpF b) k Q (by rw[b.live,aZ];omega) (λc d=> ?_) (λc d T=> ?_)).mono ?_).mono ?_
 ·have:=(a.okEs.ok i S).2.2.2.2.2
  omega
 ·rw[b.rm c d]
  have:=a.hP.hr;omega
 ·exact absurd (by rw[b.live];exact bA.2 (by rw[<-b.hN];exact d)) T
 ·rintro i w' (⟨-,rfl,J⟩ | ⟨U,rfl,r,g,t⟩)
  ·exact⟨7,rfl,Chg.of J,.inl ⟨rfl,J⟩⟩
  ·refine⟨0,rfl,t,.inr ⟨rfl,⟨es.eraseIdx h,?_⟩,(p.mono u).trans g⟩⟩
   have V:Po P s o ps es v (λ_=>(bJ (eO P (s+1) o (es.eraseIdx h))).length):=a.fitX b λc d=>all_eq_true.1 U c (by rw[b.live];exact bA.2 d);obtain⟨W,X⟩:=a.roomed V;refine⟨_,m,e,W.del L l F H X,r.congr λc d=> ?_,zT (j.below p j.lt) t,x,A⟩;have d:c<P.N:=(by rw[<-b.hN];exact d);show sU f _ _ _ _ (bI f) c++eu (lN (eO P (s+1) o (es.eraseIdx h)) (bI f)) c=_;rw[nz _ (fT f),b.live,bg (bA.2 d),aU,map_map];congr 1
   ·have p:=a.mkR b (λ_=>(bJ (eO P (s+1) o (es.eraseIdx h))).length) d
    rw[b.live] at p;exact p
   ·exact(map_id _).symm
 ·rintro i w' ⟨E,rfl,r,⟨rfl,g⟩ | ⟨rfl,g,t⟩⟩
  ·exact⟨7,rfl,.inl ⟨rfl,v,m,e,a,z.below g,j.below g j.lt,x,A⟩,g.mono u,r.mono λp _ k=>.inl k⟩
  ·exact⟨0,rfl,.inr ⟨rfl,g⟩,t,r.mono λp _ k=>.inl k⟩
theorem NW(m:FlF P f)(h:ByteArray)(S:h∈P.nms)(K:∀q∈ps,q.nm≠h)(l:PI)(a:PK)(n c:Nat)(w:World)(x:ArcF B P f ga s o ps es w)(T:B<=w.heap.size)(ai:s+1<=60)(ak:o+1<=60)(t:Rd w w.heap.size a n (bF l))(j:By l)(hl:l.length=n)(L:n<=1000/\n<=P.K*P.Z*8)(al:n<=c/\c<=maxLen):
 Calls prog 10 #[pointer (some ⟨ga,0,none⟩),.agg (ji 1 h (slice a n c))] w λA w'=>∃E,A=returned (.agg (eH E (slice none 0 0)))/\((((E=8/\∃b,b<ja (P.K*P.Z) n/\noT P.K P.H P.Z o b)\/(E=7/\∃(q:ObF) (i:Nat),i<P.N/\q.n=n/\q.o=o/\ObF.OK P q/\P.r<(jT P ps i).length+(oM P i q).length+8))/\ArcF B P f ga s o ps es w')\/(E=0/\∃q es',q.nm=h/\q.l=l/\q.n=n/\ArcF B P f ga (s+1) (o+1) (ps++[q]) es' w'))/\Ll B ga w w':=by
 obtain⟨U,M,v,d,Z,F,V,h5⟩:=x;have y:=d.hs;have ho:=d.ho;have hN:=d.hP.hN;have hk:=d.hP.hk;have aw:=ba hk;have h6:=d.hP.h6;have ax:=d.elen;have ay:=d.len5;have am:1<=P.K*P.Z:=Nat.mul_pos (by omega) (by omega);obtain⟨g,N⟩:∃g,ja (P.K*P.Z) n=g:=⟨_,rfl⟩
 have aa:g<=8:=by
  rcases bq 8 g with x | x
  ·have e:=cnt_lt am (n:=n) (i:=8) (by rw[N];exact x)
   have:=L.2;omega
  ·exact x
 have W:∀(e:PI) (p:Nat->PI),zt P.K P.H P.Z o g e->(∀i,i<g->(p i).Perm (range P.N))->ObF.OK P (⟨h,o,n,g,e,l,p⟩:ObF):=λe p u r=>⟨S,L,N,aa,hl,j,u,r⟩
 have ab:∀ {e:PI} {p:Nat->PI} {es':List cN},es'.Perm (es++[⟨h,o,n,e⟩])->es'.Perm ((ps++[(⟨h,o,n,g,e,l,p⟩:ObF)]).map ObF.ent):=λx=>by
  rw[aU];exact x.trans (d.pm.append_right _)
 have ac:∀ {e:PI} {es':List cN},es'.Perm (es++[⟨h,o,n,e⟩])->rW es'->nZ es':=λ{e} {es'} r y=>by
  refine DX y ?_;rw[(r.map cN.name).nodup_iff,aU,nodup_append];refine⟨d.enm,by simp,λa H b j=> ?_⟩;obtain⟨A,X,rfl⟩:=aY.1 H;have j:b=h:=(by simpa using j);obtain⟨q,hq,rfl⟩:=d.emem X;rw[j];exact K q hq
 have I:∀ {e:PI} {es':List cN},zt P.K P.H P.Z o g e->es'.Perm (es++[⟨h,o,n,e⟩])->rW es'->OkEs P (o+1) es':=λ{e} {es'} u r y=>by
  have an:(ps++[(⟨h,o,n,g,e,l,λ_=>range P.N⟩:ObF)]).length<=5:=by
   have ao:((ps++[(⟨h,o,n,g,e,l,λ_=>range P.N⟩:ObF)]).map ObF.nm).Nodup:=by
    rw[aU,nodup_append];refine⟨d.pnm,by simp,λa H b j=> ?_⟩;obtain⟨v,t,rfl⟩:=aY.1 H;have j:b=h:=(by simpa using j);rw[j];exact K v t
   have ap:=List.Nodup.length_le_of_subset ao (l₂:=P.nms) λv t=>by
    obtain⟨aq,J,rfl⟩:=aY.1 t;rcases bz.1 J with J | J
    ·exact(d.hp aq J).1.hnm
    ·obtain rfl:=mem_singleton.1 J
     exact S
   rw[aC] at ap;have:=d.hP.h5;omega
  refine li (ps:=ps++[⟨h,o,n,g,e,l,λ_=>range P.N⟩]) d.hP (λv t=> ?_) ?_ (ab r) (ac r y) an
  ·rcases bz.1 t with t | t
   ·have:=d.hp v t
    exact⟨this.1,by omega⟩
   ·obtain rfl:=mem_singleton.1 t
    exact⟨W e _ u λi _=>List.Perm.refl _,Nat.lt_succ_self _⟩
  ·rw[pairwise_append]
   refine⟨d.ri,by simp,λa H b j=> ?_⟩;obtain rfl:=mem_singleton.1 j;exact(d.hp a H).2
 refine(NG ga f.p M n c v h a (λE=>(E=8/\∃b,b<g/\noT P.K P.H P.Z o b)\/(E=7/\∃(q:ObF) (i:Nat),i<P.N/\q.n=n/\q.o=o/\ObF.OK P q/\P.r<(jT P ps i).length+(oM P i q).length+8)) (λw'=>(∃q es',q.nm=h/\q.l=l/\q.n=n/\ArcF B P f ga (s+1) (o+1) (ps++[q]) es' w')/\Below B w w') w F λk C=>(f_put s o (s+1) (o+1) P.K P.H P.Z P.ex P.N M es.length f h es _ (λi=>(U i).map (vC P ps)) l a n g c k m.hN (Z.below C) ⟨V,aP T C.size⟩ hk d.hP.hex (d.hP.hnm h S) (by rw[m.live,aZ];omega)
  ((t.below C (aj _)).more C.size) j L.1 L.2 al N aa rfl rfl (by omega) (by omega) rfl (by omega) (d.noNm K) (λA X=> ?_) (d.kpF m) (λi k=>by rw[m.live];exact bA.2 (by rw[<-m.hN];exact k)) (λe es' u r y=> ?_)).mono ?_).mono ?_
 ·have:=(d.okEs.ok A X).2.2.2.2.2
  omega
 ·exact⟨(I u r y).man d.hP ⟨by omega,by omega⟩ (by omega),((I u r y).pq d.hP).1⟩
 ·rintro A w' (⟨rfl,ar,j⟩ | ⟨rfl,⟨e,p,es',u,r,O,Y,ad⟩,j⟩ | ⟨rfl,e,p,es',u,r,O,Y,au,Q,z,R⟩)
  ·exact⟨8,rfl,Chg.of j,.inl ⟨.inl ⟨rfl,ar⟩,j⟩⟩
  ·rw[m.live] at r
   refine⟨7,rfl,Chg.of j,.inl ⟨.inr ⟨rfl,⟨h,o,n,g,e,l,p⟩,?_⟩,j⟩⟩;rw[all_eq_false] at ad;obtain⟨i,k,ag⟩:=ad;rw[m.live] at k;have k:=bA.1 k;refine⟨i,k,rfl,rfl,W e p u r,?_⟩;unfold iq at ag;rw[Bool.or_eq_true,decide_eq_true_eq,decide_eq_true_eq,show zq (df s o P.K P.H P.Z P.ex P.N es) ((U i).map (vC P ps))=_ from d.kpL k,aC,m.rm i (by rw[m.hN];exact k),rK,aC,aC] at ag;have aA:=(d.okEs.pages (s:=s) d.hP).2;have av:=((I u O Y).pages (s:=s+1) d.hP).2;have aB:(qJ P s o ps es i).length=(bJ (eO P s o es)).length+(jT P ps i).length:=(by unfold qJ;rw[aH,aC,aC]);have aD:(bJ (df (s+1) (o+1) P.K P.H P.Z P.ex P.N es')).length<=4:=av;show P.r<(jT P ps i).length+(ky o P.K P.H P.Z P.ex e l p g i).length+8;omega
  ·rw[m.live] at r
   refine⟨0,rfl,R,.inr ⟨rfl,⟨⟨h,o,n,g,e,l,p⟩,es',rfl,rfl,rfl,?_⟩,(C.mono T).trans z⟩⟩;have ag:=d.fitX m (n:=λi=>(bJ (eO P (s+1) (o+1) es')).length+(eu (dU P.K P.H P.Z P.ex o e l p g) i).length) λi k=>au i (by rw[m.hN];exact k);obtain⟨h6,h7⟩:=d.roomed ag;refine⟨_,M,v,h6.put ai ak (W e p u r) rfl K (ab O) (ac O Y) (λi k=> ?_),Q.congr λi k=> ?_,zT (F.below C F.lt) R,V,h5⟩
   ·have C:=h7 i k
    rw[rK,aC] at C;show _+((ky o P.K P.H P.Z P.ex e l p g i).length+_)<=_;omega
   ·have k:i<P.N:=by rw[<-m.hN];exact k
    show(sU f _ _ _ _ (bI f) i++eu (dU P.K P.H P.Z P.ex o e l p g) i)++eu (lN (eO P (s+1) (o+1) es') (bI f)) i=_;rw[nz _ (fT f),m.live,bg (bA.2 k),aU,aU,map_map,map_map,rK,append_assoc];congr 1
    ·have C:=d.mkR m (λi=>(bJ (eO P (s+1) (o+1) es')).length+(eu (dU P.K P.H P.Z P.ex o e l p g) i).length) k
     rw[m.live] at C;exact C
    ·congr 1
     exact(map_id _).symm
 ·rintro A w' ⟨E,rfl,Q,⟨I,z⟩ | ⟨rfl,z,R⟩⟩
  ·exact⟨E,rfl,.inl ⟨by rw[N];exact I,U,M,v,d,Z.below z,F.below z F.lt,V,h5⟩,z.mono T,Q.mono λb _ k=>.inl k⟩
  ·exact⟨0,rfl,.inr ⟨rfl,z⟩,R,Q.mono λb _ k=>.inl k⟩
end
theorem rE{P:Program}{e:Func}{p q r:Tmp}{b:TypeId}(i:e.results= #[.cell p b,.tmp q,.tmp r])(a:Array Value)(w:World)(g:Nat)(t:TypeId)(c:Array Value)(h:Nat×Nat)(d:TypeDesc)
 (j:a.getD p undef=pointer (some ⟨g,0,none⟩))(k:w.heap[g]? =some (.cells c t h))
 (l:P.underlying b=some d)(m:(match d with | .struct _ | .array _ _=>true | _=>false)=true)(u:(P.info? b).map (·.size)=some c.size):
 (results e a).run P w=.ok (.tuple #[.agg c,a.getD q undef,a.getD r undef]) w:=by
 have v:a[p]?.getD undef=pointer (some ⟨g,0,none⟩):=by simpa using j
 simp[results,i,v,asAddr,run_loadVar_row w g t b c h d k l m u]
theorem GA(n:Nat)(x:Int)(z:n<=1000)(g: -9223372036854775808<=x/\x<=9223372036854775807)(w:World):
 Calls prog 18 #[int i64 n,int i64 x] w λa w'=>∃v l,a=returned v/\OwnB w' w.heap.size v l/\l.length=n/\By l/\Below w.heap.size w w':=by
 have i:PH (OwnB w w.heap.size (slice none 0 0) []):=ae (OwnB.nil _ _);have j:=ae (az w.heap.size w);go_enter func18,ntmps18;go_wp2_with fail;go_loopw [5,6] (λv b wr=>∃(a:Nat) (l:PI),a<=n/\b=int i64 a/\PH (l.length=a/\By l)/\PH (OwnB wr w.heap.size v l)/\PH (Below w.heap.size w wr)) (λ_ b _=>n-(intOf b).toNat)
 case atStart=>exact⟨0,[],by omega,rfl,ae ⟨rfl,λx g=>(by cases g)⟩,i,j⟩
 case round=>
  clear i j;obtain⟨a,l,A,rfl,b,c,d⟩:=hrel;obtain⟨E,F,H,rfl,-⟩:=c.o.sl;by_cases I:a<n
  ·have J:(a:Int)<(n:Int):=by omega
   have K:(a:Int).tmod 7=((a%7:Nat):Int):=(by rw[Int.tmod_eq_emod_of_nonneg (by omega)];rfl);have m:=d.o.size;have p:l.length<=1000000:=by have:=b.o.1;omega
   go_wp2_with (at_builtin;refine fD (w:=wr) (C:=w.heap.size) (y:=(wrap64 (x/2 ^ (a%7)+wrap64 ((a:Int)*bits .or .i64 x 1))%256).toNat) rfl _ _ ?hi rfl c.o m p rfl rfl ?_)
   case hi=>generalize wrap64 (x/2 ^ (a%7)+wrap64 ((a:Int)*bits .or .i64 x 1))=e;omega
   generalize q:(wrap64 (x/2 ^ (a%7)+wrap64 ((a:Int)*bits .or .i64 x 1))%256).toNat=y;have r:PH ((l++[y]).length=a+1/\By (l++[y])):=ae ⟨by rw[aH,b.o.1];rfl,λe k=>(bz.1 k).elim (b.o.2 e) λh=>by rw[mem_singleton.1 h];omega⟩;intro L M e k;obtain⟨_,_,_,rfl,-⟩:=e.sl;have t:=ae e;have u:=ae (d.o.trans k);clear e k c d q b;generalize l++[y]=e at*;go_wp2_with fail;go_roundw
   case rel=>exact⟨a+1,e,by omega,by go_num,r,t,u⟩
   case measure=>simp[intOf];omega
  ·obtain rfl:a=n:=by omega
   go_wp2_with fail;go_ret;exact⟨_,l,rfl,c.o,b.o.1,b.o.2,d.o⟩
theorem GC{K H Z:Nat}(d:1<=K/\K<=6)(e:1<=H/\H<=3)(g:1<=Z/\Z<=9):fB K H Z=true:=by
 have h:∀a:Fin 7,∀b:Fin 4,∀c:Fin 10,1<=a.val->1<=b.val->1<=c.val->fB ((a.val:Nat):Int) ((b.val:Nat):Int) ((c.val:Nat):Int)=true:=by decide +kernel
 exact h ⟨K,by omega⟩ ⟨H,by omega⟩ ⟨Z,by omega⟩ d.1 e.1 g.1
def nmQ:ByteArray:= { data:=#[97] }
theorem okPQ1:fB ((1:Nat):Int) ((1:Nat):Int) ((4:Nat):Int)=true:=by decide
theorem okNQ:jG nmQ:=⟨by decide,by decide,λa b=>by
 have c:a=0:=by have:a<1:=b;omega
 subst c;decide⟩
theorem noW:¬∃b,b<1/\noT 1 1 4 0 b:=λ⟨b,c,a⟩=>by
 obtain rfl:b=0:=by omega
 have c:dK 1 1 4 ((0:Nat):Int) (range 1)=false:=a 0 (by decide);exact absurd (Mm.symm.trans c) (by decide)
theorem Dj(w:World)(l:PI)(a:Nat×Nat):Rd (w.alloc (cells (bK l) 5 a)) (w.alloc (cells (bK l) 5 a)).heap.size (some ⟨w.heap.size,0,none⟩) l.length (bF l):=by
 refine⟨bG l,λ_=>⟨w.heap.size,0,rfl,by simp,λb c d=> ?_⟩⟩
 have e:(w.alloc (cells (bK l) 5 a)).heap[w.heap.size]? =some (cells (bK l) 5 a):=by
  show(w.heap.push (cells (bK l) 5 a))[w.heap.size]? =_;simp
 unfold World.cell?;rw[e,Nat.zero_add];show(bK l)[b]? =some c;simpa[bK] using d
section
theorem JY(b:List Int)(S:∀z∈b,-9223372036854775808<=z/\z<=9223372036854775807)(a:PK)(n c:Nat)(w:World)(j:Rd w w.heap.size a n (b.map (Value.int .i64))):
 Calls prog 15 #[slice a n c] w λg w'=>∃L d,g=returned (.tuple #[dD (1+b.getD 0 0%6) (1+b.getD 1 0%3) (1+b.getD 2 0%9),int i64 (b.getD 3 0%7),d])/\OwnI w' w.heap.size d L/\(2<=L.length/\L.length<=5)/\(∀x∈L,8<=x/\x<=57)/\Below w.heap.size w w':=by
 have e:∀d,-9223372036854775808<=b.getD d 0/\b.getD d 0<=9223372036854775807:=λd=>by
  rw[af];rcases bq d b.length with h | h
  ·rw[ah h];exact S _ (aQ h)
  ·rw[List.getElem?_eq_none h];decide
 have i:PH (Sx w (w.alloc (cells #[int i64 0,int i64 0,int i64 0] 25)) [bS w.heap.size 25 #[int i64 0,int i64 0,int i64 0],mF a n (b.map (Value.int .i64))]):=
  ae ((((Sx.nil w).add (mF a n (b.map (Value.int .i64))) j).alloc _).add (bS _ _ _) (Blk.new w _ _))
 have v:=ae λd w (h:Rd w w.heap.size a n (b.map (Value.int .i64)))=>Lv b w.heap.size a n c d w h;have u:=ae λw=>DZ (b.getD 0 0) (b.getD 1 0) (b.getD 2 0) w (e 0) (e 1) (e 2);have Q:=ae λw=>eU (b.getD 4 0) 4 w (e 4) (by omega) (by omega);have Z:=ae λw=>eU (b.getD 3 0) 7 w (e 3) (by omega) (by omega);have T:=ae λd w=>eU (b.getD d 0) 50 w (e d) (by omega) (by omega);have k:0<=b.getD 4 0%4/\b.getD 4 0%4<4:=⟨Int.emod_nonneg _ (by omega),Int.emod_lt_of_pos _ (by omega)⟩;have I:=v.o 0;have J:=v.o 1;have K:=v.o 2;have M:=v.o 3;have N:=v.o 4;generalize b.getD 0 0=l at*;generalize b.getD 1 0=m at*;generalize b.getD 2 0=q at*;generalize b.getD 3 0=z3 at*;generalize b.getD 4 0=U at*;obtain⟨r,t⟩:∃r:Nat,U%4=(r:Int):=⟨(U%4).toNat,by omega⟩;rw[t] at Q k;have am:(2:Int)+(r:Int)<=5:=by omega
 replace I:=ae I;replace J:=ae J;replace K:=ae K;replace M:=ae M;replace N:=ae N;unfold dD at u ⊢;clear S j e k t;go_enter func15,ntmps15;go_wp2_with fail;generalize w.alloc (cells #[int i64 0,int i64 0,int i64 0] 25)=w0 at*;refine(I.o w0 (i.o.rd 1 rfl)).mono ?_;rintro g t ⟨rfl,rfl⟩;go_wp2_with fail;refine(J.o w0 (i.o.rd 1 rfl)).mono ?_;rintro g t ⟨rfl,rfl⟩;go_wp2_with fail;refine(K.o w0 (i.o.rd 1 rfl)).mono ?_;rintro g t ⟨rfl,rfl⟩;go_wp2_with fail;refine(u.o w0).mono ?_;rintro g k ⟨rfl,A⟩;have e:=ae (i.o.step A);have HW:PH (w.heap.size<k.heap.size):=ae (e.o.blk 0 rfl).lt;clear A i u I J K;have i:=(az k.heap.size k).alloc (aj _) (cells #[int i64 (1+l%6),int i64 (1+m%3),int i64 (1+q%9)] 25);have V:=ae ((e.o.step i).add (bS k.heap.size 25 #[int i64 (1+l%6),int i64 (1+m%3),int i64 (1+q%9)]) (Blk.new k _ _));clear i e;have W:=ae (OwnI.nil (k.alloc (cells #[int i64 (1+l%6),int i64 (1+m%3),int i64 (1+q%9)] 25)) (k.alloc (cells #[int i64 (1+l%6),int i64 (1+m%3),int i64 (1+q%9)] 25)).heap.size);have an:w.heap.size<k.heap.size:=HW.o;go_wp2_with fail;generalize k.alloc (cells #[int i64 (1+l%6),int i64 (1+m%3),int i64 (1+q%9)] 25)=A at*;generalize k.heap.size=G1 at*;have X:=ae (az A.heap.size A);go_loopw [7,8] (λu i wr=>∃(d:Nat) (e:PI),d<=2+r/\i=int i64 d/\PH (e.length=d/\∀x∈e,8<=x/\x<=57)/\PH (OwnI wr A.heap.size u e)/\PH (Below A.heap.size A wr)) (λ_ i _=>2+r-(intOf i).toNat)
 case atStart=>exact⟨0,[],by omega,rfl,ae ⟨rfl,λx j=>(by cases j)⟩,W,X⟩
 case round=>
  clear W X;obtain⟨d,e,ao,rfl,u,F,H⟩:=hrel;obtain⟨av,nv,cv,rfl⟩:=F.o.sl;have i:=ae (V.o.step H.o);go_wp2_with fail;refine(N.o wr (i.o.rd 2 rfl)).mono ?_;rintro g t ⟨rfl,rfl⟩;go_wp2_with fail;refine(Q.o wr).mono ?_;rintro g t ⟨rfl,rfl⟩;by_cases ap:d<2+r
  ·have aa:(d:Int)<2+(r:Int):=by omega
   obtain⟨E,O⟩:∃R,R=5+d:=⟨_,rfl⟩;have aq:(5:Int)+(d:Int)=(E:Int):=(by omega);have ab:=ae (v.o E wr (i.o.rd 2 rfl));have ac:=ae (T.o E wr);have ar:0<=b.getD E 0%50/\b.getD E 0%50<50:=⟨Int.emod_nonneg _ (by omega),Int.emod_lt_of_pos _ (by omega)⟩;clear O;generalize b.getD E 0=zk at*;generalize zk%50=O at*;have ad:e.length<=1000000:=(by rw[u.o.1];omega);have ag:=H.o.size;go_wp2_with fail;refine ab.o.mono ?_;rintro g t ⟨rfl,rfl⟩;go_wp2_with fail;refine ac.o.mono ?_;rintro g t ⟨rfl,rfl⟩
   go_wp2_with (at_builtin;refine kQ (w:=wr) (C:=A.heap.size) (y:=(8+O).toNat) rfl _ _ ?hi rfl F.o ag ad rfl rfl ?_)
   case hi=>omega
   intro v6 w6 R Y;obtain⟨_,_,_,rfl⟩:=R.sl;have ai:=ae R;have ak:=ae (H.o.trans Y)
   have al:PH ((e++[(8+O).toNat]).length=d+1/\∀x∈e++[(8+O).toNat],8<=x/\x<=57):=ae ⟨by rw[aH,u.o.1];rfl,λx j=>by
    rcases bz.1 j with j | j
    ·exact u.o.2 x j
    ·rw[mem_singleton.1 j];omega⟩
   clear R Y F H u i;generalize e++[(8+O).toNat]=R at*;go_wp2_with fail;go_roundw
   case rel=>exact⟨d+1,R,by omega,by go_num,al,ai,ak⟩
   case measure=>simp[intOf];omega
  ·have aa:¬(d:Int)<2+(r:Int):=by omega
   have R:=ae λE (O:Below wr.heap.size wr E)=>M.o E ((i.o.step O).rd 2 rfl);obtain⟨Y,p1,p2⟩:=lQ (i.o.blk 0 rfl);obtain⟨q0,q1,q2⟩:=lQ (i.o.blk 1 rfl);have f0:=(i.o.blk 1 rfl).frozen 0;have f1:=(i.o.blk 1 rfl).frozen 1;have f2:=(i.o.blk 1 rfl).frozen 2;have ab:w.heap.size≠G1:=by omega
   have E:PH (OwnI ((((wr.setCell ⟨w.heap.size,0,none⟩ (int i64 (1+l%6))).setCell ⟨w.heap.size,1,none⟩ (int i64 (1+m%3))).setCell ⟨w.heap.size,2,none⟩ (int i64 (1+q%9))).drew) w.heap.size (slice av nv cv) e/\(2<=e.length/\e.length<=5)/\∀x∈e,8<=x/\x<=57):=ae ⟨by
    have O:w.heap.size<A.heap.size:=(by have:=(V.o.blk 1 rfl).lt;exact this);have h:=((F.o.far O 0 (int i64 (1+l%6))).far O 1 (int i64 (1+m%3))).far O 2 (int i64 (1+q%9));exact(h.below ((az _ _).drew)).base (by omega),⟨by rw[u.o.1];omega,by rw[u.o.1];omega⟩,u.o.2⟩
   clear v T N M Q F u H;go_wp2_with fail
   go_region_law (first
    | (go_simp
       go_at_call 41;refine(R.o _ (az _ _).drew).mono ?_;rintro g t ⟨rfl,rfl⟩;go_simp)
    | (go_simp
       go_at_call 19;refine(Z.o _).mono ?_;rintro g t ⟨rfl,rfl⟩;go_simp))
   all_goals(
    go_simp;go_wp2_with fail
    (try simp only[Exit.inBlock,Exit.then])
    refine bodyPost_ret (rE rfl _ _ w.heap.size 25 #[int i64 (1+l%6),int i64 (1+m%3),int i64 (1+q%9)] (0,0) _ rfl (Blk.drew (by simpa using(((i.o.blk 1 rfl).set 0 (int i64 (1+l%6))).set 1 (int i64 (1+m%3))).set 2 (int i64 (1+q%9)))) underlying25 rfl (by kernel_rfl)) rfl ?_;exact⟨_,_,rfl,E.o.1,E.o.2.1,E.o.2.2,(((i.o.1.setCell (p:=⟨w.heap.size,0,none⟩) (aj _) _).setCell (p:=⟨w.heap.size,1,none⟩) (aj _) _).setCell (p:=⟨w.heap.size,2,none⟩) (aj _) _).drew⟩)
theorem f_new(K H Z ex:Nat)(L:PI)(F:Nat->Prop)(a:PK)(n c:Nat)(w:World)(q:fB K H Z=true)(C:ex<=16)(E:0<n)(I:n<=64)(r:∀x∈L,(bJ (ed K H Z ex n)).length<=x/\1<=x/\x<=512)(j:(rI L).ok w F [slice a n c])(t:L.length=n):
 Calls prog 16 #[dD K H Z,int i64 ex,slice a n c] w λl w'=>∃ga g p D,l=returned (.tuple #[pointer (some ⟨ga,0,none⟩),int i64 0])/\Blk w' ga 80 (su p g)/\(w.heap.size<=g/\w.heap.size<=ga)/\Stq w.heap.size w' g ⟨p,n,D,λd=>L.getD d 0,λ_=>false⟩ (ed K H Z ex n) (λd=>if d<n then bJ (ed K H Z ex n) else [])/\Below w.heap.size w w':=by
 have k:PH (Sx w (w.alloc (cells #[int i64 K,int i64 H,int i64 Z] 25)) [bS w.heap.size 25 #[int i64 K,int i64 H,int i64 Z],eR F (slice a n c) (rI L)]):=
  ae ((((Sx.nil w).add (eR F (slice a n c) (rI L)) j).alloc _).add (bS _ _ _) (Blk.new w _ _))
 have m:=ae λw=>Pv w;have i:=ae λ(b:Nat) (w:World) (e:PwS w b) (j:(rI L).ok w F [slice a n c])=>JO K H Z ex b L F a n c w q C E I r e j t;unfold dD at i ⊢;clear j q r t;go_enter func16,ntmps16;go_wp2_with fail;generalize w.alloc (cells #[int i64 K,int i64 H,int i64 Z] 25)=w0 at*;refine(m.o w0).mono ?_;rintro l u ⟨rfl,v,y⟩;have z:Below w0.heap.size w0 u:=by rw[y];exact(az _ _).alloc (aj _) _
 have b:=ae (k.o.step z);have A:=ae (i.o w0.heap.size u v (b.o.rep 1 rfl));obtain⟨J,M,N⟩:=lQ (b.o.blk 0 rfl);generalize w0.heap.size=e at*;clear v y z m i k;go_wp2_with fail;refine A.o.mono ?_;rintro l i ⟨g,D,rfl,v,y,z,k⟩;have m:=(az i.heap.size i).alloc (aj _) (cells (su e g) 80);have O:PH (Stq w.heap.size (i.alloc (cells (su e g) 80)) g ⟨e,n,D,λd=>L.getD d 0,λ_=>false⟩ (ed K H Z ex n) (λd=>if d<n then bJ (ed K H Z ex n) else [])):=ae ((y.lower b.o.1.size).below m);have d:=ae (Blk.new i 80 (su e g));have Q:=ae ((b.o.step k).1.trans (m.mono (b.o.step k).1.size));have R:PH (w.heap.size<=g/\w.heap.size<=i.heap.size):=ae ⟨aP b.o.1.size v,(b.o.step k).1.size⟩;have S:PH ((zeroCells80.setIfInBounds 0 (Value.pointer (some ⟨e,0,none⟩))).setIfInBounds 1 (Value.pointer (some ⟨g,0,none⟩))=su e g):=ae (by rw[Ho,KO];rfl);clear v y z k m A b J M N;go_wp2_with fail;go_ret2;rw[S.o];exact⟨_,g,e,D,rfl,d.o,R.o,O.o,Q.o⟩
section
variable {B:Nat}
theorem InvF.new{P:PaF}(a:P.OK)(h:4<=P.r):InvF P 1 0 [] [] (λ_=>(bJ (eO P 1 0 [])).map .inl):=by
 have d:OkEs P 0 []:=li (ps:=[]) a (λg c=>by cases c) List.Pairwise.nil (List.Perm.refl _) (λe b=>by cases b) (by decide);refine⟨a,by omega,by omega,(λg c=>by cases c),List.Pairwise.nil,List.Perm.refl _,(λe b=>by cases b),λe b=>⟨λi e=> ?_,λb c=>aY.2 ⟨b,c,rfl⟩,λj g=> ?_,?_,?_⟩⟩
 ·obtain⟨b,c,rfl⟩:=aY.1 e
  exact sW d a c
 ·obtain⟨b,_,c⟩:=aY.1 g
  cases c
 ·rw[tE];rfl
 ·rw[aC]
  have:=(d.pages (s:=1) a).2;omega
theorem ArcF.new{P:PaF}(b:P.OK)(c:4<=P.r){w:World}{f:Fl}{ga g:Nat}(d:Blk w ga 80 (su f.p g))(e:B<=g/\B<=ga)(h:Stq B w g f (ed P.K P.H P.Z P.ex P.N) (λa=>if a<P.N then bJ (ed P.K P.H P.Z P.ex P.N) else []))(i:f.n=P.N):ArcF B P f ga 1 0 [] [] w:=
 ⟨_,g,_,InvF.new b c,h.congr λa j=>by
   show(if a<P.N then _ else _)=_;rw[bg (i▸j),map_map];exact(map_id _).symm,by rw[<-NF];exact d,e⟩
theorem JZ{P:PaF}(b:P.OK)(k:4<=P.r)(e:P.N=2)(F:Nat->Prop)(a:PK)(c:Nat)(w:World)(g:(rI [P.r,P.r]).ok w F [slice a 2 c]):
 Calls prog 16 #[dD P.K P.H P.Z,int i64 P.ex,slice a 2 c] w λi w'=>∃ga f,i=returned (.tuple #[pointer (some ⟨ga,0,none⟩),int i64 0])/\FlF P f/\ArcF w.heap.size P f ga 1 0 [] [] w'/\Below w.heap.size w w':=by
 have l:OkEs P 0 []:=li (ps:=[]) b (λh d=>by cases d) List.Pairwise.nil (List.Perm.refl _) (λd h=>by cases h) (by decide);have y:=l.pages (s:=1) b;have m:bJ (ed P.K P.H P.Z P.ex 2)=bJ (eO P 1 0 []):=by unfold eO df ed;rw[e]
 have z:=b.hr;refine(f_new P.K P.H P.Z P.ex [P.r,P.r] F a 2 c w b.hk b.hex (by decide) (by decide) (λp g=> ?_) g rfl).mono ?_
 ·obtain rfl:p=P.r:=by simpa using g
  rw[m];omega
 ·rintro i w' ⟨ga,A,q,D,rfl,r,t,j,u⟩
  rw[<-e] at j;have v:=ArcF.new (f:=⟨q,P.N,D,λd=>[P.r,P.r].getD d 0,λ_=>false⟩) b k r t j rfl;refine⟨ga,_,rfl,⟨rfl,λ_=>rfl,λd h=> ?_⟩,v,u⟩;have x:d<2:=by rw[<-e];exact h
  match d,x with
  | 0,_=>rfl
  | 1,_=>rfl
end
def nmA:ByteArray:= { data:=#[97] }
def nmB:ByteArray:= { data:=#[98] }
def nmC:ByteArray:= { data:=#[99,97,116,45,55] }
def nmD:ByteArray:= { data:=#[100] }
def nmE:ByteArray:= { data:=#[101,49,50,51,52,53,54,55,56,57,48,49] }
def Al:List ByteArray:=[nmA,nmB,nmC,nmD,nmE]
theorem O4{b:ByteArray}(a:1<=b.size/\b.size<=12)(c:∀i:Fin 12,i.val<b.size->okC (b.data.toList.getD i.val 0).toNat):jG b:=⟨a.1,a.2,λi d=>c ⟨i,by omega⟩ d⟩
theorem okN5:∀a∈Al,jG a:=by
 intro a b;simp only[Al,mem_cons,not_mem_nil,or_false] at b;rcases b with rfl | rfl | rfl | rfl | rfl <;> exact O4 (by decide) (by decide)
def qz(k:Nat):ByteArray:=Al.getD (k%5) nmA
theorem xj(k:Nat):qz k∈Al:=by
 unfold qz;have a:k%5<Al.length:=Nat.mod_lt _ (by decide);rw[af,ah a];exact aQ a
theorem O5(k:Nat)(m:k<14)(w:World):Calls prog 17 #[int i64 k] w λc w'=>c=returned (.string (qz k))/\Below w.heap.size w w':=by
 have e:=λw=>eU (k:Int) 5 w ⟨by omega,by omega⟩ (by omega) (by omega);obtain⟨a,d⟩:∃a,k%5=a:=⟨_,rfl⟩;have j:a<5:=by omega
 have c:((k:Int)%5)=(a:Int):=by omega
 rw[c] at e;have g:=ae e;have i:=ae ((az w.heap.size w).alloc (aj _) (cells #[.string nmA,.string nmB,.string nmC,.string nmD,.string nmE] 9));have b:=ae (Blk.new w 9 #[.string nmA,.string nmB,.string nmC,.string nmD,.string nmE]);have l:PH (Al.getD a nmA=qz k):=ae (by unfold qz;rw[d]);generalize qz k=p at*;clear e d c;unfold nmA nmB nmC nmD nmE at i b;go_enter func17,ntmps17;go_wp2_with fail;generalize w.alloc (cells #[.string { data:=#[97] },.string { data:=#[98] },.string { data:=#[99,97,116,45,55] },.string { data:=#[100] },.string { data:=#[101,49,50,51,52,53,54,55,56,57,48,49] }] 9)=e at*;refine(g.o e).mono ?_;rintro c q ⟨rfl,rfl⟩;have d:a=0\/a=1\/a=2\/a=3\/a=4:=by omega
 have r:=b.o.cell 0;have t:=b.o.cell 1;have u:=b.o.cell 2;have v:=b.o.cell 3;have x:=b.o.cell 4;clear g j;rcases d with rfl | rfl | rfl | rfl | rfl
 all_goals(
  go_wp2_with fail;go_ret;exact⟨by rw[<-l.o];rfl,i.o⟩)
end
section
variable {B:Nat}
def zr:PaF:=⟨1,1,4,2,2,20,[nmQ]⟩
theorem Pp:zr.OK:=⟨okPQ1,by decide,by decide,by decide,by decide,λa b=>by
 obtain rfl:a=nmQ:=by simpa[zr] using b
 exact okNQ,by decide⟩
theorem w_new(b:Nat)(w:World)(a:(rI [20,20]).ok w Any [slice (some ⟨b,0,none⟩) 2 2]):
 Calls prog 16 #[.agg #[int i64 1,int i64 1,int i64 4],int i64 2,slice (some ⟨b,0,none⟩) 2 2] w λc w'=>∃ga f,c=returned (.tuple #[pointer (some ⟨ga,0,none⟩),int i64 0])/\FlF zr f/\ArcF w.heap.size zr f ga 1 0 [] [] w'/\Below w.heap.size w w':=
 JZ Pp (by decide) rfl Any _ 2 w a
theorem w_put{f:Fl}{ga:Nat}(h:FlF zr f)(w:World)(b:ArcF B zr f ga 1 0 [] [] w)(i:B<=w.heap.size)(a:PK)(j:Rd w w.heap.size a 3 (bF [97,98,99])):
 Calls prog 10 #[pointer (some ⟨ga,0,none⟩),.agg #[int i64 1,.string { data:=#[97] },slice a 3 3,int i64 0,int i64 0,int i64 0,.int .u32 0,slice none 0 0,slice none 0 0]] w λe w'=>
  e=returned (.agg #[int i64 0,slice none 0 0,slice none 0 0,int i64 0,int i64 0,int i64 0,slice none 0 0,int i64 0])/\(∃(q:ObF) (es':List cN),q.l=[97,98,99]/\q.n=3/\q.nm=nmQ/\ArcF B zr f ga 2 1 [q] es' w')/\Ll B ga w w':=by
 refine(NW h nmQ (mem_singleton.2 rfl) (λq c=>by cases c) [97,98,99] a 3 3 w b i (by decide) (by decide) j (show ∀d∈([97,98,99]:PI),d<256 by decide) rfl (by decide) ⟨by decide,by decide⟩).mono ?_;rintro e w' ⟨A,rfl,⟨⟨rfl,k⟩ | ⟨rfl,q,d,C,m,E,c,F⟩,-⟩ | ⟨rfl,q,es',p,r,t,u⟩,v⟩
 ·exact absurd k noW
 ·exfalso
  have x:q.nb=1:=by rw[<-c.hnb,m];decide
  have g:=KX (o:=q.o) (K:=zr.K) (H:=zr.H) (Z:=zr.Z) (ex:=zr.ex) (nb:=q.nb) (T:=q.T) (l:=q.l) (ords:=q.ords) (λy z=>by
   have b:=c.ho y z;exact⟨b.nodup_iff.2 nodup_range,by rw[b.length_eq,aZ];exact aj 2⟩) d
  have y:(jT zr [] d).length=0:=rfl
  have z:(oM zr d q).length<=2:=by
   have:q.nb*((zr.K+zr.ex+1)/2)=2:=(by rw[x];rfl);rw[this] at g;exact g
  have I:zr.r=20:=rfl;omega
 ·exact⟨rfl,⟨q,es',r,t,p,u⟩,v⟩
theorem w_get{f:Fl}{ga:Nat}{q:ObF}{es:List cN}(d:FlF zr f)(e:q.l=[97,98,99])(g:q.n=3)(h:q.nm=nmQ)(w:World)(i:ArcF B zr f ga 2 1 [q] es w):
 Calls prog 10 #[pointer (some ⟨ga,0,none⟩),.agg #[int i64 2,.string { data:=#[97] },slice none 0 0,int i64 0,int i64 0,int i64 0,.int .u32 0,slice none 0 0,slice none 0 0]] w λb w'=>∃a c,
  b=returned (.agg #[int i64 0,slice a 3 c,slice none 0 0,int i64 0,int i64 0,int i64 0,slice none 0 0,int i64 0])/\(rB [97,98,99]).ok w' (Fr w.heap.size) [slice a 3 c]/\Below w.heap.size w w':=by
 have b:=NV d (mem_singleton.2 rfl) w i;rw[e,g,h] at b;exact b
theorem A7(w:World):Calls prog 14 #[] w λb w'=>b=returned (bool true)/\Below w.heap.size w w':=by
 have a:=(az w.heap.size w).alloc (aj _) (cells #[int i64 20,int i64 20] 3);have d:=Blk.new w 3 #[int i64 20,int i64 20]
 have e:(rI [20,20]).ok (w.alloc (cells #[int i64 20,int i64 20] 3)) Any [slice (some ⟨w.heap.size,0,none⟩) 2 2]:=
  ⟨_,2,2,rfl,aj _,by decide,λh=>(by cases h),rfl,λ_=>⟨w.heap.size,0,rfl,trivial,λc i g=>by rw[Nat.zero_add,d.cell c];simpa[bH] using g⟩⟩
 have l:=ae (w_new _ _ e);have c:=ae a;clear a d e;go_enter func14,ntmps14;go_wp2_with fail;generalize w.alloc (cells #[int i64 20,int i64 20] 3)=w0 at*;refine l.o.mono ?_;rintro b d ⟨ga,f,rfl,g,m,e⟩;have a:=(az d.heap.size d).alloc (aj _) (cells (bK [97,98,99]) 5 (3,4));have p:=ae g;have i:=ae (m.below a);have q:=ae (Dj d [97,98,99] (3,4));have j:=ae ((c.o.trans (e.mono c.o.size)).trans (a.mono (c.o.trans (e.mono c.o.size)).size));have k:=ae (w_put g _ i.o (aP e.size a.size) _ q.o);have r:=ae (aP c.o.size (aj w0.heap.size));clear a g m e l q;have e:bK [97,98,99]= #[.int .u8 97,.int .u8 98,.int .u8 99]:=rfl;rw[e] at i j k;clear e;have y:=λ(w:World) (g:Array Value) (n e:Nat)=>Lib.run_convert_bytes_const (P:=prog) w 30 5 g n e underlying30 underlying5;go_wp2_with fail;generalize d.alloc (cells #[.int .u8 97,.int .u8 98,.int .u8 99] 5 (3,4))=A at*;refine k.o.mono ?_;rintro b z ⟨rfl,⟨C,es',g,l,m,q⟩,t⟩;have u:=ae (j.o.trans (t.1.mono r.o));have v:=ae (w_get p.o g l m z q);have E:∀w:World,(Instr.field 40 (.agg #[int i64 0,slice none 0 0,slice none 0 0,int i64 0,int i64 0,int i64 0,slice none 0 0,int i64 0]) 0).run prog w=.ok (int i64 0) w:=λ_=>by kernel_rfl
 have F:∀(x:PK) (e:Nat) (w:World),(Instr.field 40 (.agg #[int i64 0,slice x 3 e,slice none 0 0,int i64 0,int i64 0,int i64 0,slice none 0 0,int i64 0]) 1).run prog w=.ok (slice x 3 e) w:=λ_ _ _=>by kernel_rfl
 have e:strOfNums (mh [97,98,99])= { data:=#[97,98,99] }:=by kernel_rfl
 clear q t y i j c k g l m p r;go_wp2_with fail;refine v.o.mono ?_;rintro b q ⟨r,j,rfl,c,g⟩;obtain⟨t,x,b,i,-⟩:=fC c (n:=3) rfl;injection b with k _ l;subst k l;have m:=Cm i j;rw[e] at m;have p:=ae (u.o.trans (g.mono u.o.size));clear c g i v e;go_wp2_with fail;go_ret;exact⟨rfl,p.o⟩
end
section
open Go.RowKit Go.Maps
def Bp(v:Value):Option (DataW Value×List MemPlace):=some (.held v,[])
def kS(a:ByteArray):Lit:=.string a.data.toList
theorem uN{a b:ByteArray}(c:kS a=kS b):a=b:=by
 unfold kS at c;injection c with c;exact ByteArray.ext (Array.toList_inj.1 c)
theorem OY(a:ByteArray):WideAt.IsKeyLit (kS a):=trivial
theorem JJ{a:ByteArray}(b:a.size<=maxLen):keyOf prog 9 (.string a)=some (kS a):=WideMaps.keyOf_string_mk (P:=prog) underlying9 b
theorem JK{b:Value}{c:Lit}(a:keyOf prog 9 b=some c):∃s,b=.string s/\c=kS s:=by
 rw[keyOf_string underlying9] at a;unfold mapKey at a;rw[underlying9] at a;cases b <;> simp at a;exact⟨_,rfl,a.2.symm⟩
def DatV(l:PI)(v:Value)(w:World):Prop:=(rB l).ok w (Ty 5 w) [v]
def Kp8(w w':World):Prop:=∀a,Ty 5 w a->w'.heap[a]? =w.heap[a]?
theorem DatV.kp{l:PI}{v:Value}{w w':World}(d:DatV l v w)(b:Kp8 w w'):DatV l v w':=(rB l).keep d λc a _=>⟨b c a,a.keep (b c a)⟩
theorem Kp8.below{w w':World}(a:Below w.heap.size w w'):Kp8 w w':=λb c=>a.block b c.lt
def DatF(ps:List ObF)(D:DataW Value)(w:World):Prop:=Maps.size D=ps.length/\(∀b,has D b=true->∃a∈ps,b=kS a.nm)/\∀a∈ps,∃b,(∀c,D.atKey (kS a.nm) c=.held b)/\DatV a.l b w
theorem DatF.kp{ps:List ObF}{D:DataW Value}{w w':World}(a:DatF ps D w)(b:Kp8 w w'):DatF ps D w':=⟨a.1,a.2.1,λc d=>by
 obtain⟨e,g,h⟩:=a.2.2 c d;exact⟨e,g,h.kp b⟩⟩
theorem DatF.nil(w:World):DatF [] (.map []) w:=⟨rfl,λb a=>(by cases a),λb a=>(by cases a)⟩
theorem DatF.has{ps:List ObF}{D:DataW Value}{w:World}(a:DatF ps D w){q:ObF}(b:q∈ps):Maps.has D (kS q.nm)=true:=by
 obtain⟨d,c,-⟩:=a.2.2 q b;exact has_true_of_atKey c
theorem DatF.hasNo{ps:List ObF}{D:DataW Value}{w:World}(b:DatF ps D w){a:ByteArray}(c:∀q∈ps,q.nm≠a):Maps.has D (kS a)=false:=by
 cases e:Maps.has D (kS a) with
 | false=>rfl
 | true=>
   obtain⟨q,d,g⟩:=b.2.1 _ e;exact absurd (uN g).symm (c q d)
theorem OZ{ps:List ObF}(i:ps.Pairwise λa b=>a.o<b.o){p q:ObF}(j:p∈ps)(k:q∈ps)(e:p.o=q.o):p=q:=by
 obtain⟨a,d,rfl⟩:=bC j;obtain⟨b,g,rfl⟩:=bC k;have h:=pairwise_iff_getElem.1 i;rcases Nat.lt_trichotomy a b with c | c | c
 ·have:=h a b d g c;omega
 ·subst c;rfl
 ·have:=h b a g d c;omega
theorem Es{ps:List ObF}(d:(ps.map ObF.nm).Nodup){p q:ObF}(j:p∈ps)(k:q∈ps)(e:p.nm=q.nm):p=q:=by
 rw[List.Nodup,pairwise_map] at d;obtain⟨b,g,rfl⟩:=bC j;obtain⟨c,h,rfl⟩:=bC k;have i:=pairwise_iff_getElem.1 d;rcases Nat.lt_trichotomy b c with a | a | a
 ·exact absurd e (i b c g h a)
 ·subst a;rfl
 ·exact absurd e.symm (i c b h g a)
theorem DatF.del{ps:List ObF}{D:DataW Value}{w:World}(g:DatF ps D w)(m:Tidy D)(j:ps.Pairwise λa b=>a.o<b.o)(p:(ps.map ObF.nm).Nodup){q:ObF}(h:q∈ps):DatF (ps.filter λa=> !(a.o == q.o)) (D.del (kS q.nm)) w:=by
 have r:∀a∈ps.filter (λa=> !(a.o == q.o)),a∈ps/\kS a.nm≠kS q.nm:=λa b=>by
  obtain⟨c,d⟩:=mem_filter.1 b;refine⟨c,λe=> ?_⟩;rw[Es p c h (uN e)] at d;simp at d
 refine⟨?_,λl i=> ?_,λa b=> ?_⟩
 ·have c:=size_del (k:=kS q.nm) m
  rw[bg (g.has h),g.1] at c;have d:=(vY j h).length_eq;rw[length_cons] at d;omega
 ·by_cases e:l=kS q.nm
  ·subst e;rw[has_del_same] at i;cases i
  ·rw[has_del_other e] at i
   obtain⟨a,b,rfl⟩:=g.2.1 l i;refine⟨a,mem_filter.2 ⟨b,?_⟩,rfl⟩;rw[Bool.not_eq_true',beq_eq_false_iff_ne];exact λt=>e (by rw[OZ j b h t])
 ·obtain⟨c,d⟩:=r a b
  obtain⟨t,u,v⟩:=g.2.2 a c;exact⟨t,λx=>by rw[atKey_del_other d,u],v⟩
theorem DatF.put{ps:List ObF}{D:DataW Value}{w:World}(b:DatF ps D w)(d:Tidy D){q:ObF}(e:∀x∈ps,x.nm≠q.nm){v:Value}(i:DatV q.l v w):DatF (ps++[q]) (D.put (kS q.nm) (.held v)) w:=by
 have j:=b.hasNo e;refine⟨?_,λg h=> ?_,λx a=> ?_⟩
 ·rw[size_put d,j,bh (by decide),b.1,aH]
  rfl
 ·by_cases c:g=kS q.nm
  ·exact⟨q,mem_append_right _ (mem_singleton.2 rfl),c⟩
  ·rw[has_put_other c] at h
   obtain⟨x,a,k⟩:=b.2.1 g h;exact⟨x,mem_append_left _ a,k⟩
 ·rcases bz.1 a with a | a
  ·obtain⟨k,l,m⟩:=b.2.2 x a
   exact⟨k,λp=>by rw[atKey_put_other λc=>e x a (uN c),l],m⟩
  ·obtain rfl:=mem_singleton.1 a
   exact⟨v,λp=>atKey_put_same d.isMap (OY _) _ _,i⟩
structure TFs (w0:World) (P:PaF) (f:Fl) (ga G mb:Nat) (pc:Array Value) (n:Nat) (D:DataW Value) (s o:Nat) (ps:List ObF) (es:List cN) (w:World):Prop where
 arc:ArcF w0.heap.size P f ga s o ps es w
 par:Blk w G 25 pc
 map:w.ownsMap prog 9 Bp mb n D
 lo:w0.heap.size<=mb
 bel:Below w0.heap.size w0 w
section
variable {w0 w w':World} {P:PaF} {f:Fl} {ga G mb n s o s' o':Nat} {pc:Array Value} {D:DataW Value} {ps ps':List ObF} {es es':List cN}
theorem TFs.below(a:TFs w0 P f ga G mb pc n D s o ps es w)(b:Below w.heap.size w w'):TFs w0 P f ga G mb pc n D s o ps es w':=by
 have c:=a.map.lt;refine⟨a.arc.below b,a.par.below b a.par.lt,?_,a.lo,a.bel.trans (b.mono a.bel.size)⟩;obtain⟨d,e,g,h⟩:=a.map;exact⟨d,e,(b.block mb c).trans g,h⟩
theorem TFs.moved(b:TFs w0 P f ga G mb pc n D s o ps es w)(d:Ll w0.heap.size ga w w'):Kp8 w w'/\Blk w' G 25 pc/\w'.ownsMap prog 9 Bp mb n D/\Below w0.heap.size w0 w':=by
 obtain⟨_,_,_,-,-,e,-⟩:=b.arc;have g:=b.map.lt;refine⟨λc a=>d.2.block c a.lt ?_,b.par.chg d.2 ?_,?_,b.bel.trans d.1⟩
 ·rintro(c | rfl)
  ·exact Mt.not a (by decide) (by decide) (by decide) c
  ·exact Ty.ne2 rfl a (Blk.ty e) (by decide)
 ·rintro(c | rfl)
  ·exact Mt.not (Blk.ty b.par) (by decide) (by decide) (by decide) c
  ·exact Ty.ne2 rfl (Blk.ty b.par) (Blk.ty e) (by decide)
 ·obtain⟨h,i,c,j⟩:=b.map
  refine⟨h,i,(d.2.block mb g ?_).trans c,j⟩;rintro(a | rfl)
  ·rcases a with⟨_,_,a⟩ | ⟨_,_,a⟩ | ⟨_,_,a⟩ <;> (rw[c] at a;cases a)
  ·obtain⟨_,_,a⟩:=Blk.ty e
   rw[c] at a;cases a
theorem TFs.go(a:TFs w0 P f ga G mb pc n D s o ps es w)(b:ArcF w0.heap.size P f ga s' o' ps' es' w')(c:Ll w0.heap.size ga w w'):TFs w0 P f ga G mb pc n D s' o' ps' es' w':=by
 obtain⟨h,d,e,g⟩:=a.moved c;exact⟨b,d,e,a.lo,g⟩
theorem TFs.ri(a:TFs w0 P f ga G mb pc n D s o ps es w):ps.Pairwise λb c=>b.o<c.o:=by obtain⟨_,_,_,b,-⟩:=a.arc;exact b.ri
theorem TFs.nd(a:TFs w0 P f ga G mb pc n D s o ps es w):(ps.map ObF.nm).Nodup:=by obtain⟨_,_,_,b,-⟩:=a.arc;exact b.pnm
theorem TFs.inl(c:TFs w0 P f ga G mb pc n D s o ps es w){q:ObF}(d:q∈ps):q.n<=1000/\q.l.length=q.n/\By q.l/\q.nm.size<=maxLen:=by
 obtain⟨_,_,_,b,-⟩:=c.arc;have a:=(b.hp q d).1;have e:=b.hP.hnm _ a.hnm;exact⟨a.hn.1,a.hl,a.hb,by have:=e.2.1;unfold maxLen;omega⟩
theorem TFs.tidy(a:TFs w0 P f ga G mb pc n D s o ps es w):Tidy D:=a.map.tidy (string_keyed underlying9)
def N9(w:World)(b:Nat):Prop:=∃a,Ty a w b
theorem JL{w:World}{b o:Nat}{u:Value}(a:w.cell? ⟨b,o,none⟩=some u):N9 w b:=by
 unfold World.cell? at a;cases e:w.heap[b]? with
 | none=>simp[e] at a
 | some c=>
   cases c with
   | cells d g h=>exact⟨g,d,h,e⟩
   | _=>simp[e] at a
def Rp.Cl(R:Rp):Prop:=∀(w:World) (a:Nat->Prop) (b:List Value),R.ok w a b->R.ok w (λc=>a c/\N9 w c) b
theorem Oa(b:List Value):(rC b).Cl:=λw c d a=>by
 obtain⟨c,n,d,rfl,e,g,h,i,j⟩:=a;refine⟨c,n,d,rfl,e,g,h,i,λk=> ?_⟩;obtain⟨l,o,m,p,a⟩:=j k;exact⟨l,o,m,⟨p,JL (a 0 _ (ah (by omega)))⟩,a⟩
theorem rS_cl(k:Nat)(L:List Rp)(b:∀R∈L,R.Cl):(rS k L).Cl:=λw c d a=>by
 obtain⟨c,n,d,rfl,e,g,h,i,j,l,m,p⟩:=a;refine⟨c,n,d,rfl,e,g,h,i,j,l,λq=> ?_,λr R a=>b R (mem_of_getElem? a) _ _ _ (p r R a)⟩;obtain⟨r,o,t,u,a⟩:=m q;exact⟨r,o,t,⟨u,JL (a 0 _ (ah (by omega)))⟩,a⟩
theorem Mq(e:cN):(bQ e).Cl:=λw b a c=>by
 obtain⟨d,a,rfl,g,h⟩:=c;exact⟨d,a,rfl,g,Oa _ w b a h⟩
theorem Drz.chgM{B:Nat}{w w':World}{f:Fl}{R:Nat->List PI}{W:Nat->Nat}{M:Nat->Prop}(j:Drz B w f R W)(h:Chg M w w')(c:∀b,M b->¬N9 w b):Drz B w' f R W:=by
 obtain⟨i,⟨o,d,k⟩,l,m⟩:=j;exact⟨Blk.chg i h λa=>c _ a ⟨_,Blk.ty i⟩,⟨o,λe g=>(d e g).chg h (λa=>c _ a ⟨_,(d e g).ty⟩) (λb p a=>c _ a ⟨_,(d e g).oty b p⟩) (λb a e=>c _ a ⟨_,e⟩),k⟩,l,m⟩
theorem Rp.Cl.chgM{R:Rp}(d:R.Cl){w w':World}{vs:List Value}{M:Nat->Prop}(e:R.ok w (Fu w) vs)(g:Chg M w w')(h:∀b,M b->¬N9 w b):R.ok w' (Fu w') vs:=
 R.keep (d _ _ _ e) λb a i=>by
  have c:=g.block b i λi=>h b i a.2;exact⟨c,a.1.keep c⟩
theorem ArcF.chgM{B:Nat}{P:PaF}{f:Fl}{ga s o:Nat}{ps:List ObF}{es:List cN}{w w':World}{M:Nat->Prop}(h:ArcF B P f ga s o ps es w)(a:Chg M w w')(c:∀b,M b->¬N9 w b):ArcF B P f ga s o ps es w':=by
 obtain⟨i,j,k,l,⟨m,⟨p,q,e,r,t⟩,u,v⟩,g,x⟩:=h
 exact⟨i,j,k,l,⟨m.chgM a c,⟨p,q,e.chg a λd=>c _ d ⟨_,Blk.ty e⟩,(Oa _).chgM r a c,(rS_cl 4 _ λz y=>by
  obtain⟨z,_,rfl⟩:=aY.1 y;exact Mq z).chgM t a c⟩,u,v⟩,g.chg a λd=>c _ d ⟨_,Blk.ty g⟩,x⟩
theorem TFs.turn{M:Nat->Prop}{h:DataW Value}{i:Nat}(c:TFs w0 P f ga G mb pc n D s o ps es w)(d:Chg M w w')(e:∀b,M b->¬N9 w b/\w0.heap.size<=b)(g:w'.ownsMap prog 9 Bp mb i h):TFs w0 P f ga G mb pc i h s o ps es w'/\Kp8 w w':=
 ⟨⟨c.arc.chgM d λb a=>(e b a).1,c.par.chg d λa=>(e _ a).1 ⟨_,Blk.ty c.par⟩,g,c.lo,c.bel.trans (d.below c.bel.size λb a=>(e b a).2)⟩,λb a=>d.block b a.lt λg=>(e b g).1 ⟨_,a⟩⟩
theorem Mr{w:World}{b r n c:Nat}{D:DataW Value}{left:Lit->Bool}(d:w.ranges prog 9 Bp b r n D left c):¬N9 w r:=by
 obtain⟨es,g,h,i,j,-,-,-,-,e,-⟩:=d;rintro⟨k,l,m,a⟩;rw[e] at a;cases a
theorem JM{w w':World}{b r n a:Nat}{D:DataW Value}{left:Lit->Bool}(c:w.ranges prog 9 Bp b r n D left a)(d:w'.heap[b]? =w.heap[b]?)(e:w'.heap[r]? =w.heap[r]?):w'.ranges prog 9 Bp b r n D left a:=by
 obtain⟨es,g,h,i,j,k,l,m,p,q,t⟩:=c;exact⟨es,g,h,i,j,d.trans k,l,m,p,e.trans q,t⟩
theorem xe{w w':World}{b r n c:Nat}{D:DataW Value}{left:Lit->Bool}(a:w.ranges prog 9 Bp b r n D left c)(d:Below w.heap.size w w'):w'.ranges prog 9 Bp b r n D left c:=JM a (d.block b a.owns.lt) (d.block r a.lt)
theorem TFs.mono(a:TFs w0 P f ga G mb pc n D s o ps es w){b:Nat}(c:n<=b):TFs w0 P f ga G mb pc b D s o ps es w:=⟨a.arc,a.par,a.map.mono c,a.lo,a.bel⟩
theorem Et{w w':World}{b:Nat}(c:w.mapTurned w' b):Chg (·=b) w w':=Chg.grown c.grown λd a _=>by injection a with a;exact a.symm
theorem Eu{w:World}{b:Nat}{n:Nat}{D:DataW Value}(c:w.ownsMap prog 9 Bp b n D):¬N9 w b:=by
 obtain⟨e,g,d,-⟩:=c;rintro⟨h,i,j,a⟩;rw[d] at a;cases a
end
theorem JN{w0 w:World}{P:PaF}{f:Fl}{ga G mb c n s o i:Nat}{pc:Array Value}{D:DataW Value}{ps:List ObF}{es:List cN}{left:Lit->Bool}{ops:Array Oper}{rest:List Oper}{op:Oper}{a:Act}{Q:Exit->Act->World->Prop}(I:op.guard=none)(j:Operand)(J:op.op=Op.next j false)
 (K:a.eval j=pointer (some ⟨c,0,none⟩))(v:TFs w0 P f ga G mb pc n D s o ps es w)(k:DatF ps D w)(p:w.ranges prog 9 Bp mb c n D left i)(x:∀b,left b=true->Maps.has D b=true)(L:w0.heap.size<=c)
 (N:wpList prog ops Q rest (a.put op.dst (.tuple #[bool false])) w)
 (O:∀(q:ObF) (g:ByteArray) (l:PI) (m:Nat) (d:PK) (e:Nat) (w':World) (h:Lit->Bool) (r:Nat),q∈ps->q.nm=g->q.l=l->q.n=m->DatV l (slice d m e) w'->TFs w0 P f ga G mb pc n D s o ps es w'->DatF ps D w'->w'.ranges prog 9 Bp mb c n D h r->(∀b,h b=true->Maps.has D b=true)->(r<i/\w.rangeLeft mb c=i)->
   (Instr.entry (pointer (some ⟨c,0,none⟩))).run prog w'=.ok (.tuple #[.string g,slice d m e]) w'->wpList prog ops Q rest (a.put op.dst (.tuple #[bool true,.string g,slice d m e])) w'):
 wpList prog ops Q (op :: rest) a w:=by
 refine wpList_next_ranges (α:=ByteArray) (β:=Value) _ I j J 9 (string_keyed underlying9) Bp Value.string (λg=>g) (λr b h=>by obtain⟨s,R,-⟩:=JK h;exact⟨s,R⟩) (λg y h=>⟨g,rfl⟩) mb c n D left i K p (λ_ _=>N) ?_;intro S z b y T U V W X Y A Z aa ak ab;obtain⟨q,r,C⟩:=k.2.1 b (x b W)
 have ac:S=q.nm:=by
  obtain⟨s',e1,e2⟩:=JK V;exact(Value.string.inj e1).trans (uN (e2.symm.trans C))
 obtain⟨g,ad,E⟩:=k.2.2 q r
 have ag:z=g:=by
  have t:=Y (.nil);rw[C,ad] at t;have h2:((.held z,[]):DataW Value×List MemPlace)=y:=Option.some.inj X;rw[<-h2] at t;exact(DataW.held.inj t).symm
 obtain⟨d,e,F,-⟩:=fC E (v.inl r).2.1;have u:=v.turn (M:=(·=c)) (Chg.grown aa λai H _=>(Option.some.inj H).symm) (λai H=>H▸⟨Mr p,L⟩) A.owns;have H:=O q q.nm q.l q.n d e T _ U r rfl rfl rfl (by rw[<-F];exact DatV.kp E u.2) u.1 (k.kp u.2) A (λai h=>x ai (by rw[Bool.and_eq_true] at h;exact h.1)) ⟨Z,p.left_eq⟩;rw[<-ac,<-F,<-ag] at H;exact H ab
end
section
open Go.RowKit Go.Maps
theorem JI{w:World}{B:Nat}{a:PK}{n:Nat}{c:List Int}(d:Rd w B a n (c.map (Value.int .i64))){k:Nat}(j:k<n):∃b o,a=some ⟨b,o,none⟩/\w.cell? ⟨b,o+k,none⟩=some (int i64 (c.getD k 0)):=by
 obtain⟨e,g⟩:=d;obtain⟨b,o,h,-,i⟩:=g (by omega);rw[aC] at e;refine⟨b,o,h,i k _ ?_⟩;rw[List.getElem?_map,af,ah (by omega)];rfl
def OW(K H Z ex:Nat):PaF:=⟨K,H,Z,ex,2,24,Al⟩
theorem OX{K H Z ex:Nat}(a:fB K H Z=true)(b:K<=6)(c:ex<=6):(OW K H Z ex).OK:=⟨a,by show ex<=16;omega,⟨aj 2,by show 2<=5;omega⟩,⟨b,c⟩,aj 24,okN5,aj 5⟩
theorem yx(w:World)(j:List Int)(a0:PK)(n0 c0:Nat)(aF:Rd w w.heap.size a0 n0 (j.map (Value.int .i64)))(hz:∀z∈j,-9223372036854775808<=z/\z<=9223372036854775807)
 (ls:List Int)(a1:PK)(N c1:Nat)(aK:Rd w w.heap.size a1 N (ls.map (Value.int .i64)))(hl:∀z∈ls,-9223372036854775808<=z/\z<=9223372036854775807)
 (xz:Int)(O: -9223372036854775808<=xz/\xz<=9223372036854775807):
 Calls prog 4 #[slice a0 n0 c0,slice a1 N c1,int i64 xz] w λe w'=>e=returned (bool true)/\Below w.heap.size w w':=by
 have E:∀a,-9223372036854775808<=j.getD a 0/\j.getD a 0<=9223372036854775807:=λa=>by
  rw[af];rcases bq a j.length with h | h
  ·rw[ah h];exact hz _ (aQ h)
  ·rw[List.getElem?_eq_none h];decide
 have l:=JY j hz a0 n0 c0 w aF;obtain⟨b,p⟩:∃b:Nat,(b:Int)=1+j.getD 0 0%6:=⟨(1+j.getD 0 0%6).toNat,by omega⟩;obtain⟨g,r⟩:∃g:Nat,(g:Int)=1+j.getD 1 0%3:=⟨(1+j.getD 1 0%3).toNat,by omega⟩;obtain⟨d,t⟩:∃d:Nat,(d:Int)=1+j.getD 2 0%9:=⟨(1+j.getD 2 0%9).toNat,by omega⟩;obtain⟨ex,u⟩:∃ex:Nat,(ex:Int)=j.getD 3 0%7:=⟨(j.getD 3 0%7).toNat,by omega⟩;rw[<-p,<-r,<-t,<-u] at l;have m:=ae l;have c:1<=b/\b<=6:=by omega
 have i:1<=d/\d<=9:=by omega
 have x:ex<=6:=by omega
 have y:fB b g d=true:=GC c (by omega) i;have aL:=ae (OX y c.2 x);have ch:PH (b<=6/\d<=9/\1<=b/\1<=d):=ae ⟨c.2,i.2,c.1,i.1⟩;unfold dD at m;have aM:=ae λw=>A7 w;have aO:=ae aK
 have bx:PH (∀a,-9223372036854775808<=ls.getD a 0/\ls.getD a 0<=9223372036854775807):=ae λa=>by
  rw[af];rcases bq a ls.length with h | h
  ·rw[ah h];exact hl _ (aQ h)
  ·rw[List.getElem?_eq_none h];decide
 have ci:=ae O;have F:1<=b*d:=bn c.1 i.1;have H:b*d<=6*9:=bn c.2 i.2;have bB:(3:Int)*(b:Int)=((3*b:Nat):Int):=by omega
 have aR:((3*b:Nat):Int)*(d:Int)=((3*(b*d):Nat):Int):=by rw[<-Int.natCast_mul,Nat.mul_assoc]
 obtain⟨k2,A⟩:∃k2,3*b=k2:=⟨_,rfl⟩;obtain⟨Q,C⟩:∃Q,3*(b*d)=Q:=⟨_,rfl⟩;obtain⟨k,I⟩:∃k,k=Q+1:=⟨_,rfl⟩;rw[A] at bB aR;rw[C] at aR;have cj:(Q:Int)+1=(k:Int):=by omega
 have ck:IntKind.i64.wrap (k2:Int)=(k2:Int):=by rw[IntKind.wrap_i64];omega
 have cm:IntKind.i64.wrap (Q:Int)=(Q:Int):=by rw[IntKind.wrap_i64];omega
 have co:IntKind.i64.wrap (k:Int)=(k:Int):=by rw[IntKind.wrap_i64];omega
 have R:PH (k=3*(b*d)+1/\k<=163/\1<=k):=ae (by omega);clear l aF hz aK hl O E p r t u c i x y F H A C I;go_enter func4,ntmps4;go_wp2_with fail;refine m.o.mono ?_;rintro e Z ⟨cr,v2,rfl,-,-,-,i⟩;have u:=(az Z.heap.size Z).alloc (aj _) (cells #[int i64 b,int i64 g,int i64 d] 25);have c:=ae (Blk.new Z 25 #[int i64 b,int i64 g,int i64 d]);have p:=ae (i.trans (u.mono i.size));clear i u m;go_upto_region 2 with fail;generalize Z.alloc (cells #[int i64 b,int i64 g,int i64 d] 25)=I at*;generalize Z.heap.size=G at*;obtain⟨p0,p1,p2⟩:=lQ c.o;have u:=(az I.heap.size I).alloc (aj _) (cells #[int i64 24,int i64 24] 3);have t:=Blk.new I 3 #[int i64 24,int i64 24]
 have x:(rI [24,24]).ok (I.alloc (cells #[int i64 24,int i64 24] 3)) Any [slice (some ⟨I.heap.size,0,none⟩) 2 2]:=
  ⟨_,2,2,rfl,aj _,by decide,λh=>(by cases h),rfl,λ_=>⟨I.heap.size,0,rfl,trivial,λl m i=>by rw[Nat.zero_add,t.cell l];simpa[bH] using i⟩⟩
 have m:=JZ (P:=OW b g d ex) aL.o (by show 4<=24;omega) rfl Any _ 2 _ x;unfold dD OW at m;simp only at m;have y:=ae m;have r:=ae (c.o.below u c.o.lt);have i:=ae (p.o.trans (u.mono p.o.size));clear u t x m c p;go_wp2_with fail;generalize I.alloc (cells #[int i64 24,int i64 24] 3)=w3 at*;refine y.o.mono ?_;rintro e C ⟨ga,f,rfl,A,E,t⟩;have HF:PH (FlF (OW b g d ex) f):=ae A
 have F:PH (ArcF w.heap.size (OW b g d ex) f ga 1 0 [] [] C):=ae (by
  obtain⟨b0,b2,aq,J,h2,h3,h4,h5⟩:=E;exact⟨b0,b2,aq,J,h2.lower i.o.size,h3,aP i.o.size h4,aP i.o.size h5⟩)
 have x:=ae (r.o.below t r.o.lt);have m:=ae (i.o.trans (t.mono i.o.size));have p:=(az C.heap.size C).alloc (aj _) (.map #[] 0);have c:PH (TFs w (OW b g d ex) f ga G C.heap.size #[int i64 b,int i64 g,int i64 d] 0 (.map []) 1 0 [] [] (C.alloc (.map #[] 0))):=ae ⟨F.o.below p,x.o.below p x.o.lt,World.ownsMap_made C _ _ _,m.o.size,m.o.trans (p.mono m.o.size)⟩;have H:=λK w=>run_makeMap (P:=prog) K w;clear A E t p y r i F x m p0 p1 p2;go_wp2_with fail;have aS:PH (DatF [] (.map []) (C.alloc (.map #[] 0))):=ae (DatF.nil _);clear H;generalize C.alloc (.map #[] 0)=w5 at*;generalize C.heap.size=mb at*;obtain⟨P,i⟩:∃P,P=OW b g d ex:=⟨_,rfl⟩;rw[<-i] at aL HF c;have aT:PH (P.K*P.Z=b*d/\P.nms=Al):=ae (by rw[i];exact⟨rfl,rfl⟩);clear i;go_loopw [13] (λl wr=>∃(a s o:Nat) (ps:List ObF) (es:List cN) (D:DataW Value),a<=14/\l=int i64 a/\PH (s<=1+2*a/\o<=a)/\PH (TFs w P f ga G mb #[int i64 b,int i64 g,int i64 d] a D s o ps es wr)/\PH (DatF ps D wr)) (λl _=>14-(intOf l).toNat)
 case atStart=>exact⟨0,1,0,[],[],_,by omega,rfl,ae ⟨by omega,by omega⟩,c,aS⟩
 case round=>
  clear c aS;obtain⟨a,s,o,ps,es,D,cs,rfl,H,c,i⟩:=hrel;by_cases aV:a<N
  ·by_cases b3:a<14
   ·have aX:(a:Int)<(N:Int):=by omega
    have b5:(a:Int)<14:=(by omega);have m:=ae λw=>O5 a b3 w;go_wp2_with fail;refine(m.o wr).mono ?_;rintro e w6 ⟨rfl,l⟩;have p:=ae (c.o.below l);have A:=ae (i.o.kp (.below l));have ar:PH (qz a∈P.nms/\(qz a).size<=maxLen):=ae ⟨by rw[aT.o.2];exact xj a,by have h:=(okN5 _ (xj a)).2.1;unfold maxLen;omega⟩;clear c i l m;generalize qz a=nm at*;obtain⟨b1,o1,rfl,cq⟩:=JI (aO.o.below p.o.bel (aj _)) aV
    have CQ:PH (∀l,Below w.heap.size w l->l.cell? ⟨b1,o1+a,none⟩=some (int i64 (ls.getD a 0))):=ae λl m=>by
     obtain⟨b',o',e,h⟩:=JI (aO.o.below m (aj _)) aV;injection e with e;injection e with e1 e2;subst e1 e2;exact h
    have m:=bx.o a;generalize ls.getD a 0=zk at*;obtain⟨t,r⟩:∃t:Nat,zk%(k:Int)=(t:Int):=⟨(zk%(k:Int)).toNat,by have:=R.o;have:=Int.emod_nonneg zk (show(k:Int)≠0 by omega);omega⟩;have x:t<k:=(by have:=R.o;have:=Int.emod_lt_of_pos zk (show(0:Int)<(k:Int) by omega);omega);have l:=λw=>eU zk (k:Int) w m (by have:=R.o;omega) (by have:=R.o;omega);rw[r] at l;have E:=ae l;obtain⟨aa,F⟩:∃aa,IntKind.i64.wrap (xz+(a:Int))=aa:=⟨_,rfl⟩;have y: -9223372036854775808<=aa/\aa<=9223372036854775807:=(by rw[<-F,IntKind.wrap_i64];omega);have K:=ae λw=>GA t aa (by have:=R.o;omega) y w;have b6:=ae x;obtain⟨p0,p1,p2⟩:=lQ p.o.par;clear l r x m y;go_upto_region 10 with fail;go_cut [15] (λv m=>∃r l x,v=slice r t l/\PH (x.length=t/\By x/\t<=l/\l<=maxLen)/\PH (DatV x (slice r t l) m)/\PH (TFs w P f ga G mb #[int i64 b,int i64 g,int i64 d] a D s o ps es m)/\PH (DatF ps D m))
    case first=>
     go_region_law (first
      | (go_simp
         go_at_call 19;refine(E.o _).mono ?_;rintro e m ⟨rfl,rfl⟩;go_simp)
      | (go_simp
         go_at_call 18;refine(K.o _).mono ?_;rintro e w7 ⟨v7,x,rfl,L,r,S,l⟩;have l:Below w6.heap.size w6 w7:=(by first | exact l | exact bP l);have T:=ae (p.o.below l);have U:=ae (A.o.kp (.below l));have y:PH (DatV x v7 w7):=ae ((rB x).more (kL L) λan X _=>X.1);obtain⟨a7,c7,rfl,-,-,V,W⟩:=fC y.o r;have Y:=ae (And.intro r (And.intro S (And.intro V W)));clear L r S l V W;go_simp))
     all_goals(
      go_simp;refine ‹∀(a':Act) (w':World),Met _ a' w'->_› _ _ ?_;go_meet
      first
      | exact⟨_,_,_,rfl,Y,y,T,U⟩
      | exact⟨_,_,_,rfl,Y,ae (y.o.kp (.below ((az _ _).drew))),ae (T.o.below ((az _ _).drew)),ae (U.o.kp (.below ((az _ _).drew)))⟩)
    case rest=>
    obtain⟨ad,cd,x,rfl,HL,L,c,i⟩:=hcut;rename World=>w7;clear p A E K p0 p1 p2 cq F;obtain⟨v9,r,p,-⟩:=c.o.map.look_ok (string_keyed underlying9) underlying53 (z:=slice none 0 0) (Tryz.zeroValue30 w7) (zd:=.held (slice none 0 0)) (zp:=[]) rfl (JJ ar.o.2);obtain⟨th,l⟩:∃th,Maps.has D (kS nm)=th:=⟨_,rfl⟩;rw[l] at p;have W:=ae l;clear l;go_upto_if 77 with fail;clear p;go_cut [77] (λv m=>v=.bool th/\∃(S:Nat) (y:List ObF) (au:List cN) (D8:DataW Value),PH (S<=2+2*a/\∀q∈y,q.nm≠nm)/\PH (DatV x (slice ad t cd) m)/\PH (TFs w P f ga G mb #[int i64 b,int i64 g,int i64 d] a D8 S o y au m)/\PH (DatF y D8 m))
    case first=>
     cases th with
     | false=>
       have l:PH (s<=2+2*a/\∀q∈ps,q.nm≠nm):=ae ⟨by have:=H.o;omega,λq E e=>by
        have J:=i.o.has E;rw[e,W.o] at J;cases J⟩
       go_wp2_with fail;go_meet;exact⟨rfl,s,ps,es,D,l,L,c,i⟩
     | true=>
       obtain⟨q,E,e⟩:=i.o.2.1 _ W.o;obtain rfl:=uN e;have ac:=ae E;have p:=a_del HF.o E w7 c.o.arc c.o.bel.size (by have:=H.o;omega);unfold ji eH at p;replace p:=ae p;have b7:∀(A:Int) (w:World),(Instr.field 40 (.agg #[int i64 A,slice none 0 0,slice none 0 0,int i64 0,int i64 0,int i64 0,slice none 0 0,int i64 0]) 0).run prog w=.ok (int i64 A) w:=λ_ _=>(by kernel_rfl);clear e E;go_wp2_with fail;refine p.o.mono ?_;rintro e w8 ⟨A,rfl,⟨rfl,U⟩ | ⟨rfl,es',U⟩,F⟩
       ·have l:=ae ((c.o.go U F).mono (Nat.le_succ a))
        have T:=ae (i.o.kp (c.o.moved F).1);have K:PH (s<=1+2*(a+1)/\o<=a+1):=ae (by have:=H.o;omega);clear U F p c i L H;go_wp2_with fail;go_roundw
        case rel=>exact⟨a+1,s,o,ps,es,D,by omega,by go_num,K,l,T⟩
        case measure=>simp[intOf];omega
       ·have l:=ae (c.o.go U F)
        have Y:=(c.o.moved F).1;have T:=ae (i.o.kp Y);have ab:=ae (L.o.kp Y);have V:=ae (And.intro c.o.tidy (And.intro c.o.ri c.o.nd));clear U F p c i L Y
        go_wp2_with (first | (at_delete;refine wpList_delete_own _ rfl _ _ 53 9 rfl 30 (string_keyed underlying9) underlying53 Bp mb a D rfl l.o.map _ _ rfl (JJ ar.o.2) ?_;intro w9 ai ak;go_frame) | fail)
        have Y:=l.o.turn (Et ak) (λan X=>X▸⟨Eu l.o.map,l.o.lo⟩) ai;go_meet
        exact⟨rfl,s+1,_,es',_,ae ⟨by have:=H.o;omega,λaq O e=>by
         obtain⟨J,h2⟩:=mem_filter.1 O;rw[Es V.o.2.2 J ac.o e] at h2;simp at h2⟩,ae (ab.o.kp Y.2),ae Y.1,ae ((T.o.del V.o.1 V.o.2.1 V.o.2.2 ac.o).kp Y.2)⟩
    case rest=>
    clear L c i W;obtain⟨rfl,S,y,au,D8,K,ab,l,T⟩:=hcut;rename World=>w8;obtain⟨a',c',er,F,-⟩:=fC ab.o HL.o.1;injection er with ac _ ai;subst ac ai;have p:=NW HF.o nm ar.o.1 K.o.2 x ad t cd w8 l.o.arc l.o.bel.size (by have:=K.o.1;omega) (by have:=H.o;omega) ((F).more (aj _)) HL.o.2.1 HL.o.1 (by rw[aT.o.1];have:=b6.o;have:=R.o;omega) HL.o.2.2;unfold ji eH at p;have W:=ae p;clear p F;have b7:∀(A:Int) (w:World),(Instr.field 40 (.agg #[int i64 A,slice none 0 0,slice none 0 0,int i64 0,int i64 0,int i64 0,slice none 0 0,int i64 0]) 0).run prog w=.ok (int i64 A) w:=λ_ _=>(by kernel_rfl);go_wp2_with fail;refine W.o.mono ?_;rintro e w9 ⟨A,rfl,Y,p⟩
    have am:PH (∃U V r ak,U<=1+2*(a+1)/\V<=a+1/\((A=8/\r=y)\/(A=7/\r=y)\/(A=0/\∃q:ObF,r=y++[q]/\q.nm=nm/\q.l=x))/\TFs w P f ga G mb #[int i64 b,int i64 g,int i64 d] a D8 U V r ak w9):=ae (by
     have J:=K.o.1;have h2:=H.o;rcases Y with⟨⟨rfl,-⟩ | ⟨rfl,-⟩,ha⟩ | ⟨rfl,q,es',h3,h4,h5,ha⟩
     ·exact⟨S,o,y,au,by omega,by omega,.inl ⟨rfl,rfl⟩,l.o.go ha p⟩
     ·exact⟨S,o,y,au,by omega,by omega,.inr (.inl ⟨rfl,rfl⟩),l.o.go ha p⟩
     ·exact⟨S+1,o+1,y++[q],es',by omega,by omega,.inr (.inr ⟨rfl,q,rfl,h3,h4⟩),l.o.go ha p⟩)
    have F:=(l.o.moved p).1;have ao:=ae (ab.o.kp F);have L:=ae (T.o.kp F);clear Y p W ab T H l F;obtain⟨U,V,r,ak,F,W,hE,ap⟩:=am.o;have b8:=ae (And.intro F W);have Y:=ae hE;have p:=ae ap;clear F W hE ap am;go_upto_region 19 with fail;go_cut [104] (λv m=>v=bool false/\m=w9)
    case first=>
     rcases Y.o with⟨rfl,-⟩ | ⟨rfl,-⟩ | ⟨rfl,-⟩ <;> (
      go_wp2_with fail;go_meet;exact⟨rfl,rfl⟩)
    case rest=>
    obtain⟨rfl,e⟩:=hcut;subst e;rename World=>w9;go_upto_if 106 with fail;go_cut [106] (λv m=>∃F,PH (TFs w P f ga G mb #[int i64 b,int i64 g,int i64 d] (a+1) F U V r ak m)/\PH (DatF r F m))
    case first=>
     rcases Y.o with⟨rfl,rfl⟩ | ⟨rfl,rfl⟩ | ⟨rfl,q,rfl,m,W⟩
     ·have am:=ae (p.o.mono (Nat.le_succ a))
      go_wp2_with fail;go_meet;exact⟨_,am,L⟩
     ·have am:=ae (p.o.mono (Nat.le_succ a))
      go_wp2_with fail;go_meet;exact⟨_,am,L⟩
     ·have ap:=ae m
      have ax:=ae W;clear m W
      go_wp2_with (first | (at_mapUpdate;refine wpList_mapUpdate_in _ rfl _ _ _ 53 rfl 9 30 (string_keyed underlying9) underlying53 Bp mb a D8 rfl p.o.map (by unfold maxLen;omega) _ _ _ rfl rfl (JJ ar.o.2) _ [] rfl ?_;intro am ay aA;go_frame) | fail)
      have aw:=p.o.turn (Et aA) (λan X=>X▸⟨Eu p.o.map,p.o.lo⟩) ay;go_meet;refine⟨_,ae aw.1,ae ?_⟩;have X:=(L.o.put p.o.tidy (q:=q) (λaq O=>by rw[ap.o];exact K.o.2 aq O) (v:=slice ad t cd) (by rw[ax.o];exact ao.o)).kp aw.2;rw[ap.o] at X;exact X
    case rest=>
    clear p L ao Y K;obtain⟨F,p,L⟩:=hcut;rename World=>am
    go_wp2_with (first | (at_range;refine wpList_range_own _ rfl _ 53 rfl 9 30 (string_keyed underlying9) underlying53 Bp mb (a+1) F rfl p.o.map ?_;intro ct Y an ao) | fail)
    go_frame
    have X:=p.o.turn (Chg.grown (M:=λ_=>False) an λ_ h _=>by cases h) (λ_ h=>h.elim) Y.owns;have a2:=ae X.1;have a3:=ae (L.o.kp X.2);have a4:=ae Y;have b9:PH (w.heap.size<=am.heap.size):=ae p.o.bel.size;clear X an ao Y p L;generalize am.heap.size=rb at*;go_loopw [20] (λ_ wr=>∃(left:Lit->Bool) (a5:Nat),PH (wr.ranges prog 9 Bp mb rb (a+1) F left a5)/\PH (∀Y,left Y=true->Maps.has F Y=true)/\PH (TFs w P f ga G mb #[int i64 b,int i64 g,int i64 d] (a+1) F U V r ak wr)/\PH (DatF r F wr)) (λ_ wr=>wr.rangeLeft mb rb)
    case atStart=>exact⟨_,_,a4,ae λ_ h=>h,a2,a3⟩
    case round=>
     clear a4 a2 a3;obtain⟨left,a5,aA,aB,c,i⟩:=hrel;rename World=>ca
     go_wp2_with (first | (at_next;refine JN rfl _ rfl rfl c.o i.o aA.o aB.o b9.o ?_ ?_) | fail)
     ·have Y:=OI ca c.o.arc
      unfold ji Ie at Y;have ap:=ae i.o.1;obtain⟨np,an⟩:∃np,r.length=np:=⟨_,rfl⟩;rw[an] at Y ap;replace Y:=ae Y;have ay:∀(v:Value) (w:World),(Instr.field 40 (.agg #[int i64 0,slice none 0 0,v,int i64 0,int i64 0,int i64 0,slice none 0 0,int i64 0]) 2).run prog w=.ok v w:=λ_ _=>(by kernel_rfl);clear an;go_wp2_with fail;refine Y.o.mono ?_;rintro e a6 ⟨al,cl,rfl,ao⟩;have an:=ae (c.o.below ao);have aw:=ae (i.o.kp (.below ao));have ax:=λty=>an.o.map.len underlying53 ty;rw[ap.o] at ax;clear ao Y c i aA aB;go_wp2_with fail;go_roundw
      case rel=>exact⟨a+1,U,V,r,ak,F,by omega,by go_num,b8,an,aw⟩
      case measure=>simp[intOf];omega
     ·intro q qn ql ax av cv a6 cu cb E a8 W m a9 ay bb bc bd be bi ce
      have an:=ae ay;have aw:=ae bb;have bj:=ae a9;have bk:=ae bc;have cf:=ae bd;have bl:=ae (And.intro be bi);have Y:=NV HF.o E a6 ay.arc;have ao:=ay.inl E;rw[a8,W,m] at Y;rw[m,W] at ao;have aD:=ae ao;clear E a8 W m a9 ay bb bc bd be bi ao aA aB c i;unfold ji eH at Y;replace Y:=ae Y;go_wp2_with fail;refine Y.o.mono ?_;rintro e ao ⟨ag,cg,rfl,bm,aE⟩;have u:=(az ao.heap.size ao).alloc (aj _) (cells #[int i64 0,slice ag ax cg,slice none 0 0,int i64 0,int i64 0,int i64 0,slice none 0 0,int i64 0] 40);have ap:=aE.trans (u.mono aE.size);have bo:=ae (an.o.below ap);have bp:=ae (aw.o.kp (.below ap));have br:=ae (xe bk.o ap);have bs:=bj.o.kp (.below ap);obtain⟨a',c',er,bt,-⟩:=fC ((rB ql).new (Rp.any _ bm) u) aD.o.2.1;injection er with ac _ ai;subst ac ai;obtain⟨a',c',er,bv,-⟩:=fC bs aD.o.2.1;injection er with ac _ ai;subst ac ai;have bw:=ae (MO ql ag av ax cg cv _ bt bv (by have:=aD.o.1;omega));obtain⟨x0,x1,x2,x3,x4,x5,x6,x7⟩:=bY (Blk.new ao 40 #[int i64 0,slice ag ax cg,slice none 0 0,int i64 0,int i64 0,int i64 0,slice none 0 0,int i64 0]);clear u ap aE bm bt bv bs Y an aw bk bj ce;go_upto_region 27 with fail;generalize ao.alloc (cells #[int i64 0,slice ag ax cg,slice none 0 0,int i64 0,int i64 0,int i64 0,slice none 0 0,int i64 0] 40)=aE at*;generalize ao.heap.size=bt at*;go_wp2_with fail;refine bw.o.mono ?_;rintro e bv ⟨rfl,bj,rfl⟩;have ap:Below aE.heap.size aE (aE.drewN bj):=below_drewN (az _ _) bj;have bm:=ae (bo.o.below ap);have bs:=ae (bp.o.kp (.below ap));have bk:=ae (xe br.o ap);clear bo bp br bw ap x0 x1 x2 x3 x4 x5 x6 x7;go_wp2_with fail;go_roundw
      case rel=>exact⟨_,cb,bk,cf,bm,bs⟩
      case measure=>rw[bk.o.left_eq,bl.o.2];exact bl.o.1
   ·have aX:(a:Int)<(N:Int):=by omega
    have b5:¬(a:Int)<14:=(by omega);go_wp2_with fail;refine(aM.o wr).mono ?_;rintro e am ⟨rfl,l⟩;have m:=ae (c.o.bel.trans (l.mono c.o.bel.size));clear l;go_wp2_with fail;go_ret;exact⟨rfl,m.o⟩
  ·have aX:¬(a:Int)<(N:Int):=by omega
   go_wp2_with fail;refine(aM.o wr).mono ?_;rintro e am ⟨rfl,l⟩;have m:=ae (c.o.bel.trans (l.mono c.o.bel.size));clear l;go_wp2_with fail;go_ret;exact⟨rfl,m.o⟩
end
end Go.Proofs.YtgccllbnfngpcaaGreatDoor
