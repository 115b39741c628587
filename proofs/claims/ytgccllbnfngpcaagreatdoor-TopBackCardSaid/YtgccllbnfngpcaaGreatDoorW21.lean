import Derived.Test.YtgccllbnfngpcaaGreatDoorW20
import Derived.JoinedOf
import Derived.KernelRfl
import Derived.ProofKit
import Derived.SevenTiedAt
import Derived.Stop.Joined
import Derived.ShutString
import Derived.ChangeOld
import Derived.Below
import Derived.LaidMore
import Derived.Lay
set_option linter.unusedVariables false
set_option maxRecDepth 100000
set_option maxHeartbeats 400000000
namespace Go.Proofs.YtgccllbnfngpcaaGreatDoor
open Go.RowKit _root_.Go.Proofs.Tryz List
open Value (int slice pointer bool)
open IntKind (i64)
open Ending (returned)
open Obj (cells)
section
variable {B:Nat}
theorem QX(K H Z ex:Nat)(L:SC)(F:Nat->Prop)(a:SE)(n c:Nat)(w:World)(r:fQ K H Z=true)(I:ex<=16)(J:0<n)(M:n<=64)(t:∀x∈L,(bR (eF K H Z ex n)).length<=x/\1<=x/\x<=512)(j:(rI L).ok w F [slice a n c])(u:L.length=n):
 Calls prog 16 #[dO K H Z,int i64 ex,slice a n c] w λm b=>∃ga g p D,m=returned (.tuple #[pointer (some ⟨ga,0,none⟩),int i64 0])/\Blk b ga 80 (uO p g)/\(w.heap.size<=g/\w.heap.size<=ga)/\Stq w.heap.size b g ⟨p,n,D,λd=>L.getD d 0,λ_=>false⟩ (eF K H Z ex n) (λd=>if d<n then bR (eF K H Z ex n) else [])/\Below w.heap.size w b:=by
 have k:Sz (Sx w (w.alloc (cells #[int i64 K,int i64 H,int i64 Z] 25)) [bY w.heap.size 25 #[int i64 K,int i64 H,int i64 Z],eR F (slice a n c) (rI L)]):=
  ae ((((Sx.nil w).add (eR F (slice a n c) (rI L)) j).alloc _).add (bY _ _ _) (Blk.new w _ _))
 have q:=ae λw=>Sl w;have i:=ae λ(b:Nat) (w:World) (e:PwS w b) (j:(rI L).ok w F [slice a n c])=>Mk K H Z ex b L F a n c w r I J M t e j u;unfold dO at i ⊢;clear j r t u;go_enter func16,ntmps16;go_wp2_with fail;generalize w.alloc (cells #[int i64 K,int i64 H,int i64 Z] 25)=w0 at*;refine(q.o w0).mono ?_;rintro m y ⟨rfl,z,A⟩;have C:Below w0.heap.size w0 y:=by rw[A];exact(aC _ _).alloc (aj _) _
 have b:=ae (k.o.step C);have E:=ae (i.o w0.heap.size y z (b.o.rep 1 rfl));obtain⟨N,O,Q⟩:=lJ (b.o.blk 0 rfl);generalize w0.heap.size=e at*;clear z A C q i k;go_wp2_with fail;refine E.o.mono ?_;rintro m i ⟨g,D,rfl,z,A,C,k⟩;have q:=(aC i.heap.size i).alloc (aj _) (cells (uO e g) 80);have R:Sz (Stq w.heap.size (i.alloc (cells (uO e g) 80)) g ⟨e,n,D,λd=>L.getD d 0,λ_=>false⟩ (eF K H Z ex n) (λd=>if d<n then bR (eF K H Z ex n) else [])):=ae ((A.lower b.o.1.size).below q);have d:=ae (Blk.new i 80 (uO e g));have S:=ae ((b.o.step k).1.trans (q.mono (b.o.step k).1.size));have T:Sz (w.heap.size<=g/\w.heap.size<=i.heap.size):=ae ⟨aP b.o.1.size z,(b.o.step k).1.size⟩;have U:Sz ((zeroCells80.setIfInBounds 0 (Value.pointer (some ⟨e,0,none⟩))).setIfInBounds 1 (Value.pointer (some ⟨g,0,none⟩))=uO e g):=ae (by rw[JZ,NE];rfl);clear z A C k q E b N O Q;go_wp2_with fail;go_ret2;rw[U.o];exact⟨_,g,e,D,rfl,d.o,T.o,R.o,S.o⟩
theorem InvB.new{P:PaB}(c:P.OK):InvB P 1 0 none (λ_=>[.inl (gB P 1 0 none)]):=by
 have a:=pV (s:=1) (o:=0) (p:=none) c (by omega) (by omega) (λd b=>by cases b);refine⟨c,by omega,by omega,(λd b=>by cases b),λb d=>⟨λe b=> ?_,⟨[],rfl,(λd a=>by cases a),List.Pairwise.nil⟩,λg d=> ?_,rfl,?_⟩⟩
 ·rw[mem_singleton.1 b];exact a
 ·have:=mem_singleton.1 d
  cases this
 ·show(1:Nat)<=1+12*0
  omega
theorem ArcB.new{P:PaB}(a:P.OK){w:World}{f:Fl}{ga g:Nat}(c:Blk w ga 80 (uO f.p g))(d:B<=g/\B<=ga)(e:Stq B w g f (eF P.K P.H P.Z P.ex P.N) (λb=>if b<P.N then bR (eF P.K P.H P.Z P.ex P.N) else []))(h:f.n=P.N):ArcB B P f ga 1 0 none w:=
 ⟨λ_=>[.inl (gB P 1 0 none)],g,_,InvB.new a,e.congr λb i=>by
   have j:bR (eF P.K P.H P.Z P.ex P.N)=[eD (eF P.K P.H P.Z P.ex P.N) 0]:=nU (InvB.new a).ok a;show(if b<P.N then _ else _)=[eD (eF P.K P.H P.Z P.ex P.N) 0];rw[bu (h▸i),j],by rw[<-Pb];exact c,d⟩
theorem Stq.params{w W:World}{g r:Nat}{f:Fl}{m:cZ}{R:Nat->List SC}(C:Stq B w g f m R)(q:m.objs=[])(T:2<=f.n)(j:Blk w r 25 #[int i64 0,int i64 0,int i64 0])(d:Chg (·=r) w W):Stq B W g f m R:=by
 obtain⟨D,⟨t,U,u,E,e⟩,k,F⟩:=C
 have H:(rI m.drives).ok w (λa=>Fu w a/\¬a=r) [t]:=by
  obtain⟨x,y,z,c,I,J,K,L,M⟩:=E;refine⟨x,y,z,c,I,J,K,L,λh=> ?_⟩;obtain⟨a,o,N,O,A⟩:=M h;refine⟨a,o,N,⟨O,λQ=> ?_⟩,A⟩;have i:1<m.drives.length:=(by rw[k,bg];omega);have b:=A 1 _ (dh i);rw[k,jD (by omega),Q,Blk.cell j (o+1)] at b
  match o,b with
  | 0,b=>simp at b
  | 1,b=>simp at b
  | o+2,b=>simp at b
 have S:=nu e;obtain⟨x,y,z,rfl⟩:=S;rw[q] at e;have h:=xe e;simp at h;subst h;refine⟨D.chgTy d (λa c=>c▸Blk.ty j) (by decide),⟨t,_,Blk.chg u d (λc=>Ty.ne2 c (Blk.ty u) (Blk.ty j) (by decide)),(rI _).keep H λa n i=>⟨d.block a i n.2,Fu.keep n.1 (d.block a i n.2)⟩,?_⟩,k,F⟩;rw[q];exact kr e W _
theorem uY{P:Program}{e:Func}{p q:Tmp}{a:TypeId}(i:e.results= #[.tmp q,.cell p a])(b:Array Value)(w:World)(g:Nat)(t:TypeId)(c:Array Value)(h:Nat×Nat)(d:TypeDesc)
 (j:b.getD p undef=pointer (some ⟨g,0,none⟩))(k:w.heap[g]? =some (.cells c t h))
 (m:P.underlying a=some d)(n:(match d with | .struct _ | .array _ _=>true | _=>false)=true)(r:(P.info? a).map (·.size)=some c.size):
 (results e b).run P w=.ok (.tuple #[b.getD q undef,.agg c]) w:=by
 have u:b[p]?.getD undef=pointer (some ⟨g,0,none⟩):=by simpa using j
 simp[results,i,u,asAddr,run_loadVar_row w g t a c h d k m n r]
end
section
variable {B:Nat}
def PQ:PaB:=⟨1,1,4,2,2,nmQ⟩
theorem RQ:PQ.OK:=⟨QS,by decide,by decide,⟨okNQ,by decide⟩,by decide⟩
theorem w_new(b:Nat)(w:World)(g:(rI [20,20]).ok w Any [slice (some ⟨b,0,none⟩) 2 2]):
 Calls prog 16 #[.agg #[int i64 1,int i64 1,int i64 4],int i64 2,slice (some ⟨b,0,none⟩) 2 2] w λd c=>∃ga f,d=returned (.tuple #[pointer (some ⟨ga,0,none⟩),int i64 0])/\FlB PQ f 20/\ArcB w.heap.size PQ f ga 1 0 none c/\Below w.heap.size w c:=by
 refine(QX 1 1 4 2 [20,20] Any _ 2 2 w QS (by decide) (by decide) (by decide) RG g rfl).mono ?_;rintro d c ⟨ga,r,p,e,rfl,h,i,j,k⟩;have m:=ArcB.new (P:=PQ) (f:=⟨p,2,e,λa=>[20,20].getD a 0,λ_=>false⟩) RQ h i j rfl;refine⟨ga,⟨p,2,e,λa=>[20,20].getD a 0,λ_=>false⟩,rfl,⟨rfl,λ_=>rfl,λa n=> ?_⟩,m,k⟩;have q:a<2:=n
 match a,q with
 | 0,_=>exact⟨aj 20,show 20<=512 by decide⟩
 | 1,_=>exact⟨aj 20,show 20<=512 by decide⟩
theorem w_put{f:Fl}{ga:Nat}(d:FlB PQ f 20)(w:World)(e:ArcB B PQ f ga 1 0 none w)(g:B<=w.heap.size)(a:SE)(h:Rd w w.heap.size a 3 (bK [97,98,99])):
 Calls prog 10 #[pointer (some ⟨ga,0,none⟩),.agg #[int i64 1,.string { data:=#[97] },slice a 3 3,int i64 0,int i64 0,int i64 0,.int .u32 0,slice none 0 0,slice none 0 0]] w λc b=>
  c=returned (.agg #[int i64 0,slice none 0 0,slice none 0 0,int i64 0,int i64 0,int i64 0,slice none 0 0,int i64 0])/\(∃q:ObB,q.l=[97,98,99]/\q.n=3/\ArcB B PQ f ga 2 1 (some q) b)/\LG B ga w b:=by
 refine(QK d [97,98,99] a 3 3 w e g (by decide) (by decide) (by decide) h (show ∀i∈([97,98,99]:SC),i<256 by decide) rfl (by decide) ⟨by decide,by decide⟩).mono ?_;rintro c b ⟨m,rfl,⟨rfl,i,-⟩ | ⟨rfl,j⟩,k⟩
 ·exact absurd i noW
 ·exact⟨rfl,j,k⟩
theorem w_get{f:Fl}{ga:Nat}{q:ObB}(e:FlB PQ f 20)(g:q.l=[97,98,99])(h:q.n=3)(w:World)(b:ArcB B PQ f ga 2 1 (some q) w):
 Calls prog 10 #[pointer (some ⟨ga,0,none⟩),.agg #[int i64 2,.string { data:=#[97] },slice none 0 0,int i64 0,int i64 0,int i64 0,.int .u32 0,slice none 0 0,slice none 0 0]] w λi d=>∃a c,
  i=returned (.agg #[int i64 0,slice a 3 c,slice none 0 0,int i64 0,int i64 0,int i64 0,slice none 0 0,int i64 0])/\(rB [97,98,99]).ok d (Fr w.heap.size) [slice a 3 c]/\Below w.heap.size w d:=by
 refine(QJ e w b).mono ?_;rw[g,h];exact λ_ _ b=>b
theorem Cv(w:World):Calls prog 14 #[] w λb a=>b=returned (bool true)/\Below w.heap.size w a:=by
 have a:=(aC w.heap.size w).alloc (aj _) (cells #[int i64 20,int i64 20] 3);have d:=Blk.new w 3 #[int i64 20,int i64 20]
 have e:(rI [20,20]).ok (w.alloc (cells #[int i64 20,int i64 20] 3)) Any [slice (some ⟨w.heap.size,0,none⟩) 2 2]:=
  ⟨_,2,2,rfl,aj _,by decide,λh=>(by cases h),rfl,λ_=>⟨w.heap.size,0,rfl,trivial,λc i g=>by rw[Nat.zero_add,d.cell c];simpa[bM] using g⟩⟩
 have m:=ae (w_new _ _ e);have c:=ae a;clear a d e;go_enter func14,ntmps14;go_wp2_with fail;generalize w.alloc (cells #[int i64 20,int i64 20] 3)=w0 at*;refine m.o.mono ?_;rintro b d ⟨ga,f,rfl,g,q,e⟩;have a:=(aC d.heap.size d).alloc (aj _) (cells (bO [97,98,99]) 5 (3,4));have r:=ae g;have i:=ae (q.below a);have t:=ae (EF d [97,98,99] (3,4));have j:=ae ((c.o.trans (e.mono c.o.size)).trans (a.mono (c.o.trans (e.mono c.o.size)).size));have k:=ae (w_put g _ i.o (aP e.size a.size) _ t.o);have u:=ae (aP c.o.size (aj w0.heap.size));clear a g q e m t;have e:bO [97,98,99]= #[.int .u8 97,.int .u8 98,.int .u8 99]:=rfl;rw[e] at i j k;clear e;have A:=λ(w:World) (g:Array Value) (n e:Nat)=>Lib.run_convert_bytes_const (P:=prog) w 30 5 g n e underlying30 underlying5;go_wp2_with fail;generalize d.alloc (cells #[.int .u8 97,.int .u8 98,.int .u8 99] 5 (3,4))=D at*;refine k.o.mono ?_;rintro b C ⟨rfl,⟨E,g,m,q⟩,t⟩;have x:=ae (j.o.trans (t.1.mono u.o));have y:=ae (w_get r.o g m C q);have F:∀w:World,(Instr.field 40 (.agg #[int i64 0,slice none 0 0,slice none 0 0,int i64 0,int i64 0,int i64 0,slice none 0 0,int i64 0]) 0).run prog w=.ok (int i64 0) w:=λ_=>by kernel_rfl
 have H:∀(z:SE) (e:Nat) (w:World),(Instr.field 40 (.agg #[int i64 0,slice z 3 e,slice none 0 0,int i64 0,int i64 0,int i64 0,slice none 0 0,int i64 0]) 1).run prog w=.ok (slice z 3 e) w:=λ_ _ _=>by kernel_rfl
 have e:strOfNums (kS [97,98,99])= { data:=#[97,98,99] }:=by kernel_rfl
 clear q t A i j c k g m r u;go_wp2_with fail;refine y.o.mono ?_;rintro b t ⟨u,j,rfl,c,g⟩;obtain⟨z,A,b,i,-⟩:=eU c (n:=3) rfl;injection b with k _ m;subst k m;have q:=wV i j;rw[e] at q;have r:=ae (x.o.trans (g.mono x.o.size));clear c g i y e;go_wp2_with fail;go_ret;exact⟨rfl,r.o⟩
end
theorem RO(k:List Int)(N:∀z∈k,-9223372036854775808<=z/\z<=9223372036854775807)(a:SE)(n c:Nat)(w:World)(D:Rd w w.heap.size a n (k.map (Value.int .i64))):
 Calls prog 7 #[slice a n c,int i64 200] w λu b=>∃P f ga,u=returned (.tuple #[pointer (some ⟨ga,0,none⟩),.agg #[int i64 (P.K:Nat),int i64 (P.H:Nat),int i64 (P.Z:Nat)]])/\P.nm=Ck/\FlB P f 200/\ArcB w.heap.size P f ga 1 0 none b/\(P.K<=6/\P.Z<=9/\1<=P.K/\1<=P.Z)/\Below w.heap.size w b:=by
 have F:∀d,-9223372036854775808<=k.getD d 0/\k.getD d 0<=9223372036854775807:=λd=>by
  rw[af];rcases bD d k.length with h | h
  ·rw[ah h];exact N _ (aQ h)
  ·rw[List.getElem?_eq_none h];decide
 have x:=(aC w.heap.size w).alloc (aj _) (cells #[int i64 0,int i64 0,int i64 0] 25);have O:=ae (Blk.new w 25 #[int i64 0,int i64 0,int i64 0]);have Y:=ae x;have m:=Mo k N a n c (w.alloc (cells #[int i64 0,int i64 0,int i64 0] 25)) ((D.below x (aj _)).more x.size);obtain⟨e,q⟩:∃e:Nat,(e:Int)=1+k.getD 0 0%6:=⟨(1+k.getD 0 0%6).toNat,by omega⟩;obtain⟨i,r⟩:∃i:Nat,(i:Int)=1+k.getD 1 0%3:=⟨(1+k.getD 1 0%3).toNat,by omega⟩;obtain⟨g,y⟩:∃g:Nat,(g:Int)=1+k.getD 2 0%9:=⟨(1+k.getD 2 0%9).toNat,by omega⟩;obtain⟨ex,A⟩:∃ex:Nat,(ex:Int)=k.getD 3 0%7:=⟨(k.getD 3 0%7).toNat,by omega⟩;rw[<-q,<-r,<-y,<-A] at m;have t:=ae m;have b:1<=e/\e<=6:=by omega
 have j:1<=g/\g<=9:=by omega
 have C:ex<=6:=by omega
 have E:fQ e i g=true:=Jo b (by omega) j;have Z:=ae E;have Q:Sz ((e<=6/\g<=9/\1<=e/\1<=g)/\ex<=6):=ae ⟨⟨b.2,j.2,b.1,j.1⟩,C⟩;unfold dO at t;clear m N D F x q r y A b j C E;go_enter func7,ntmps7;go_upto_region 1 with fail;generalize w.alloc (cells #[int i64 0,int i64 0,int i64 0] 25)=w0 at*;go_wp2_with fail;refine t.o.mono ?_;rintro u E ⟨y,v2,rfl,j,I,J,C⟩;obtain⟨a2,c2,rfl⟩:=j.lenA;obtain⟨A,rfl,K,L⟩:=j.formA rfl (by omega);have x:=(aC E.heap.size E).alloc (aj _) (cells #[int i64 e,int i64 i,int i64 g] 25);have aa:=ae (Blk.new E 25 #[int i64 e,int i64 i,int i64 g]);have R:=ae (j.below x);have ab:=ae (C.trans (x.mono C.size));have M:w.heap.size<w0.heap.size:=O.o.lt;have ac:=ae (show w.heap.size<w0.heap.size/\w0.heap.size<=A/\A<E.heap.size from⟨M,K,L⟩);have r:Sz (∀b,b<y.length->(b<0->208<=y.getD b 0/\y.getD b 0<=257)/\(0<=b->8<=y.getD b 0/\y.getD b 0<=57)):=ae λb q=>⟨λh=>absurd h (Nat.not_lt_zero _),λ_=>J _ (by rw[af,ah q];exact aQ q)⟩;have F:=ae I;obtain⟨m,H⟩:∃m,y.length=m:=⟨_,rfl⟩;rw[H] at r F R ⊢;have ad:=ae H;clear j I J C x t K L M H;go_wp2_with fail;generalize E.alloc (cells #[int i64 e,int i64 i,int i64 g] 25)=w2 at*;generalize E.heap.size=P1 at*;go_loopw [20] (λb wr=>∃(d:Nat) (l:SC),d<=m/\b=int i64 d/\Sz (l.length=m)/\Sz (∀b,b<m->(b<d->208<=l.getD b 0/\l.getD b 0<=257)/\(d<=b->8<=l.getD b 0/\l.getD b 0<=57))/\Sz (OwnI wr w0.heap.size (slice (some ⟨A,0,none⟩) m c2) l)/\Sz (Blk wr P1 25 #[int i64 e,int i64 i,int i64 g])/\Sz (Below w0.heap.size w0 wr)) (λb _=>m-(intOf b).toNat)
 case atStart=>exact⟨0,y,by omega,rfl,ad,r,R,aa,ab⟩
 case round=>
  clear r R aa ab ad;obtain⟨d,l,aw,rfl,t,r,I,H,K⟩:=hrel;by_cases ag:d<m
  ·have X:(d:Int)<(m:Int):=by omega
   have ai:(d:Int)<5:=(by have:=F.o;omega);have J:=I.o.cellA t.o ag;obtain⟨ak,al⟩:=J;have L:=(r.o d ag).2 (aj _);obtain⟨j,M⟩:∃j,j=l.getD d 0+200:=⟨_,rfl⟩;have S:=ae (I.o.storedA t.o d j)
   have T:Sz (∀b,b<m->(b<d+1->208<=(l.set d j).getD b 0/\(l.set d j).getD b 0<=257)/\(d+1<=b->8<=(l.set d j).getD b 0/\(l.set d j).getD b 0<=57)):=ae λb q=>by
    have h:=r.o b q;by_cases u:b=d
    ·subst u
     have C:(l.set b j).getD b 0=j:=(by rw[af,List.getElem?_set_self (by rw[t.o];exact q)];rfl);rw[C];exact⟨λ_=>by omega,λh=>by omega⟩
    ·have C:(l.set d j).getD b 0=l.getD b 0:=by rw[af,List.getElem?_set_ne (Ne.symm u),<-af]
     rw[C];exact⟨λU=>h.1 (by omega),λU=>h.2 (by omega)⟩
   have U:Sz ((l.set d j).length=m):=ae (by rw[length_set];exact t.o);have V:=ae (H.o.far (p:=⟨A,d,none⟩) (show P1≠A by have:=ac.o;omega) (int i64 (j:Nat)));have W:=ae (K.o.setCell (p:=⟨A,d,none⟩) ac.o.2.1 (int i64 (j:Nat)));have am:((l.getD d 0:Nat):Int)+200=(j:Int):=(by omega);have an: -9223372036854775808<=((l.getD d 0:Nat):Int)/\((l.getD d 0:Nat):Int)<=257:=(by omega);clear L I r t H K M;generalize l.set d j=L at*;generalize l.getD d 0=C at*;go_wp2_with fail;go_roundw
   case rel=>exact⟨d+1,L,by omega,by go_num,U,T,S,V,W⟩
   case measure=>simp[intOf];omega
  ·obtain rfl:d=m:=by omega
   obtain⟨P,j⟩:∃P:PaB,P=⟨e,i,g,ex,d,Ck⟩:=⟨_,rfl⟩
   have J:P.OK:=by
    rw[j];have h1:=Q.o;exact⟨Z.o,by show ex<=16;omega,F.o,⟨okNIt,show Ck.size<=2 by decide⟩,⟨h1.1.1,h1.2⟩⟩
   have M:bR (eF e i g ex d)=[eD (eF e i g ex d) 0]:=by
    have h:=nU (InvB.new J).ok J;rw[j] at h;exact h
   have L:Sz (Below w.heap.size w wr):=ae (Y.o.trans (K.o.mono Y.o.size));have S:=ae (O.o.below (K.o.mono (aj _)) O.o.lt)
   have ai:Sz (∀C∈l,208<=C/\C<=257):=ae λC D=>by
    obtain⟨b,q,rfl⟩:=bH D;have h:=(r.o b (by rw[<-t.o];exact q)).1 (by rw[<-t.o];exact q);rw[af,ah q] at h;exact h
   have T:=ae (QX e i g ex l (Fu wr) (some ⟨A,0,none⟩) d c2 wr Z.o (by have:=Q.o;omega) (by have:=F.o;omega) (by have:=F.o;omega) (λC D=>by have:=ai.o C D;rw[M];show(1:Nat)<=C/\_;omega) (mI I.o) t.o);obtain⟨U,V,W⟩:=lJ H.o;have ap:=ae J;have C:=ae j;have ax:=ae M;unfold dO at T;clear r I J j M;go_wp2_with fail;refine T.o.mono ?_;rintro u J ⟨ga,ay,p,aq,rfl,ak,al,am,M⟩;have ar:=ae (H.o.below M H.o.lt);have j:=ae (S.o.below M S.o.lt);have an:=ae ak;have ao:=ae al;have au:=ae am;have av:=ae (L.o.trans (M.mono L.o.size));have X:=ae L.o.size;clear ak al am M T U V W H S L;obtain⟨U,V,W⟩:=lJ ar.o;obtain⟨M,S,T⟩:=lJ j.o;have f0:=j.o.frozen 0;have f1:=j.o.frozen 1;have f2:=j.o.frozen 2;go_wp2_with fail;go_region
   have L:Chg (·=w.heap.size) J (((J.setCell ⟨w.heap.size,0,none⟩ (int i64 e)).setCell ⟨w.heap.size,1,none⟩ (int i64 i)).setCell ⟨w.heap.size,2,none⟩ (int i64 g)).drew:=
    ((((Chg.refl (·=w.heap.size) J).set ⟨w.heap.size,0,none⟩ (int i64 e) λ_=>rfl).set ⟨w.heap.size,1,none⟩ (int i64 i) λ_=>rfl).set ⟨w.heap.size,2,none⟩ (int i64 g) λ_=>rfl).trans (Chg.of (aC _ _).drew)
   have ak:=ae (ArcB.new (P:=P) (f:=⟨p,d,aq,λb=>l.getD b 0,λ_=>false⟩) ap.o (an.o.chg L λu=>Ty.ne2 u (Blk.ty an.o) (Blk.ty j.o) (by decide)) ⟨aP X.o ao.o.1,aP X.o ao.o.2⟩ (by rw[C.o];exact(au.o.lower X.o).params rfl F.o.1 j.o L) (by rw[C.o]));have al:=ae (Blk.drew (show Blk (((J.setCell ⟨w.heap.size,0,none⟩ (int i64 e)).setCell ⟨w.heap.size,1,none⟩ (int i64 i)).setCell ⟨w.heap.size,2,none⟩ (int i64 g)) w.heap.size 25 #[int i64 e,int i64 i,int i64 g] by simpa using((j.o.set 0 (int i64 e)).set 1 (int i64 i)).set 2 (int i64 g)));have am:=ae ((((av.o.setCell (p:=⟨w.heap.size,0,none⟩) (aj _) (int i64 e)).setCell (p:=⟨w.heap.size,1,none⟩) (aj _) (int i64 i)).setCell (p:=⟨w.heap.size,2,none⟩) (aj _) (int i64 g)).drew);clear L U V W M S T f0 f1 f2;generalize (((J.setCell ⟨w.heap.size,0,none⟩ (int i64 e)).setCell ⟨w.heap.size,1,none⟩ (int i64 i)).setCell ⟨w.heap.size,2,none⟩ (int i64 g)).drew=M at*;go_wp2_with fail
   (try simp only[Exit.inBlock,Exit.then])
   refine bodyPost_ret (uY rfl _ _ w.heap.size 25 #[int i64 e,int i64 i,int i64 g] (0,0) _ rfl al.o underlying25 rfl (by kernel_rfl)) rfl ?_
   exact⟨P,_,ga,by rw[C.o];rfl,by rw[C.o],⟨by rw[C.o],λ_=>rfl,λb q=>by
    have L:b<l.length:=(by rw[t.o];exact q);have:=ai.o (l.getD b 0) (by rw[af,ah L];exact aQ L);exact⟨by show 200<=l.getD b 0;omega,by show l.getD b 0<=512;omega⟩⟩,ak.o,by rw[C.o];exact Q.o.1,am.o⟩
section
theorem QN{w:World}{B:Nat}{a:SE}{n:Nat}{c:List Int}(d:Rd w B a n (c.map (Value.int .i64))){k:Nat}(j:k<n):∃b o,a=some ⟨b,o,none⟩/\w.cell? ⟨b,o+k,none⟩=some (int i64 (c.getD k 0)):=by
 obtain⟨e,g⟩:=d;obtain⟨b,o,h,-,i⟩:=g (by omega);rw[aG] at e;refine⟨b,o,h,i k _ ?_⟩;rw[List.getElem?_map,af,ah (by omega)];rfl
def TBs(w0:World)(P:PaB)(f:Fl)(ga G:Nat)(pc:Array Value)(l:SC)(v:Value)(s o:Nat)(p:Option ObB)(w:World):Prop:=
 ArcB w0.heap.size P f ga s o p w/\Blk w G 25 pc/\(rB l).ok w (λa=>Fu w a/\¬a=ga) [v]/\Below w0.heap.size w0 w
section
variable {w0:World} {P:PaB} {f:Fl} {ga G:Nat} {pc:Array Value} {l:SC} {v:Value} {s o:Nat} {p:Option ObB}
theorem TBs.below{w w':World}(h:TBs w0 P f ga G pc l v s o p w)(a:Below w.heap.size w w'):TBs w0 P f ga G pc l v s o p w':=by
 obtain⟨i,b,j,c⟩:=h;exact⟨i.below a,b.below a b.lt,(rB _).keep j λd e g=>⟨a.block d g,e.1.keep (a.block d g),e.2⟩,c.trans (a.mono c.size)⟩
theorem TBs.chg{w w':World}{e g:Nat}{h:Option ObB}(b:TBs w0 P f ga G pc l v s o p w)(k:ArcB w0.heap.size P f ga e g h w')(c:LG w0.heap.size ga w w'):TBs w0 P f ga G pc l v e g h w':=by
 obtain⟨⟨_,_,_,-,-,m,-⟩,d,n,q⟩:=b;refine⟨k,d.chg c.2 ?_,(rB _).keep n λi a j=>⟨c.2.block i j ?_,?_,a.2⟩,q.trans c.1⟩
 ·rintro(r | rfl)
  ·exact Mt.not (Blk.ty d) (by decide) (by decide) (by decide) r
  ·exact Ty.ne2 rfl (Blk.ty d) (Blk.ty m) (by decide)
 ·exact λb=>b.elim a.1 a.2
 ·exact a.1.keep (c.2.block i j λb=>b.elim a.1 a.2)
theorem TBs.mk'{w b:World}{C:Nat}(g:ArcB w0.heap.size P f ga s o p w)(c:Blk w G 25 pc)(d:Below w0.heap.size w0 w)(a:Below w.heap.size w b)(h:OwnB b C v l):TBs w0 P f ga G pc l v s o p b:=by
 have e:=g.below a;obtain⟨_,_,_,-,-,i,-⟩:=id e;exact⟨e,c.below a c.lt,(rB l).more (lV h) λj a _=>⟨Mt.not a.1 (by decide) (by decide) (by decide),λj=>Ty.ne2 j a.1 (Blk.ty i) (by decide)⟩,d.trans (a.mono d.size)⟩
end
theorem Pf{B:Nat}{P:PaB}{f:Fl}{ga s o:Nat}{p:Option ObB}{w:World}(h:ArcB B P f ga s o p w):Calls prog 21 #[pointer (some ⟨ga,0,none⟩)] w λa b=>∃g,a=returned (pointer (some ⟨g,0,none⟩))/\b=w:=by
 obtain⟨b,g,c,-,-,a,-⟩:=h;obtain⟨d,e⟩:=iU a;clear a;go_enter func21,ntmps21;go_wp2_with fail;go_ret;exact⟨_,rfl,rfl⟩
theorem zY(w:World)(zs:List Int)(a0:SE)(n0 c0:Nat)(an:Rd w w.heap.size a0 n0 (zs.map (Value.int .i64)))(hz:∀z∈zs,-9223372036854775808<=z/\z<=9223372036854775807)
 (ls:List Int)(a1:SE)(F c1:Nat)(ao:Rd w w.heap.size a1 F (ls.map (Value.int .i64)))(hl:∀z∈ls,-9223372036854775808<=z/\z<=9223372036854775807)
 (xz:Int)(hx: -9223372036854775808<=xz/\xz<=9223372036854775807)(ks:List Int)(a2:SE)(H c2:Nat)(ap:Rd w w.heap.size a2 H (ks.map (Value.int .i64))):
 Calls prog 6 #[slice a0 n0 c0,slice a1 F c1,int i64 xz,slice a2 H c2] w λc k=>c=returned (bool true)/\Below w.heap.size w k:=by
 have ai:=ae λw=>Cv w;have q:=ae (RO zs hz a0 n0 c0 w an);have aq:=ae ao;have aF:=ae ap
 have aK:Sz (∀a,-9223372036854775808<=ls.getD a 0/\ls.getD a 0<=9223372036854775807):=ae λa=>by
  rw[af];rcases bD a ls.length with h | h
  ·rw[ah h];exact hl _ (aQ h)
  ·rw[List.getElem?_eq_none h];decide
 have aT:=ae hx;clear an hz ao hl hx ap;go_enter func6,ntmps6;by_cases aV:80<H
 ·have d:(80:Int)<(H:Int):=by omega
  go_wp2_with fail;refine(ai.o w).mono ?_;rintro c I ⟨rfl,b⟩;have r:=ae b;clear b;go_wp2_with fail;go_ret;exact⟨rfl,r.o⟩
 have aX:¬(80:Int)<(H:Int):=by omega
 go_wp2_with fail;refine q.o.mono ?_;rintro c I ⟨P,f,ga,rfl,t,u,x,b,R⟩;have ab:=ae t;have HF:=ae u;obtain⟨d,e⟩:∃d,P.K=d:=⟨_,rfl⟩;obtain⟨g,j⟩:∃g,P.Z=g:=⟨_,rfl⟩;obtain⟨m,y⟩:∃m,P.H=m:=⟨_,rfl⟩;rw[e,j,y];rw[e,j] at b;have E:1<=d*g:=bC b.2.2.1 b.2.2.2;have K:d*g<=6*9:=bC b.1 b.2.1;have aL:Sz (P.K*P.Z=d*g):=ae (by rw[e,j]);have aM:(2:Int)*(d:Int)=((2*d:Nat):Int):=by omega
 have ar:((2*d:Nat):Int)*(g:Int)=((2*(d*g):Nat):Int):=by rw[<-Int.natCast_mul,Nat.mul_assoc]
 obtain⟨k2,A⟩:∃k2,2*d=k2:=⟨_,rfl⟩;obtain⟨J,D⟩:∃J,2*(d*g)=J:=⟨_,rfl⟩;obtain⟨i,L⟩:∃i,i=J+1:=⟨_,rfl⟩;rw[A] at aM ar;rw[D] at ar;have aY:(J:Int)+1=(i:Int):=by omega
 have a3:IntKind.i64.wrap (k2:Int)=(k2:Int):=by rw[IntKind.wrap_i64];omega
 have a4:IntKind.i64.wrap (J:Int)=(J:Int):=by rw[IntKind.wrap_i64];omega
 have a6:IntKind.i64.wrap (i:Int)=(i:Int):=by rw[IntKind.wrap_i64];omega
 have C:Sz (i=2*(d*g)+1/\i<=109/\1<=i):=ae (by omega);have n:=(aC I.heap.size I).alloc (aj _) (cells #[int i64 d,int i64 m,int i64 g] 25);have au:=ae (Blk.new I 25 #[int i64 d,int i64 m,int i64 g]);have av:=ae (R.trans (n.mono R.size));have ak:=ae (x.below n);clear t u x b R n e j y E K A D L q;go_upto_region 4 with fail;generalize I.alloc (cells #[int i64 d,int i64 m,int i64 g] 25)=w2 at*;generalize I.heap.size=G at*;go_wp2_with fail;refine(Pf ak.o).mono ?_;rintro c t ⟨a7,rfl,rfl⟩;go_wp2_with fail;go_loopw [11,12,13] (λv e b wr=>∃(a s o:Nat) (S:Bool) (p:Option ObB) (la:SE) (ln lc:Nat),a<=8/\b=int i64 a/\e=.bool S/\v=slice la ln lc/\Sz (s<=1+2*a/\o<=a/\p.isSome=S)/\Sz (ArcB w.heap.size P f ga s o p wr)/\Sz (Blk wr G 25 #[int i64 d,int i64 m,int i64 g])/\Sz (Below w.heap.size w wr)) (λ_ _ b _=>8-(intOf b).toNat)
 case atStart=>exact⟨0,1,0,false,none,none,0,0,by omega,rfl,rfl,rfl,ae ⟨by omega,by omega,rfl⟩,ak,au,av⟩
 case round=>
  clear ak au av;obtain⟨a,s,o,S,p,la,ln,lc,a8,rfl,rfl,rfl,q,HA,HP,r⟩:=hrel;by_cases aw:a<F
  ·by_cases a9:a<8
   ·have ax:(a:Int)<(F:Int):=by omega
    have aR:(a:Int)<8:=(by omega);obtain⟨b1,o1,rfl,cq⟩:=QN (aq.o.below r.o (aj _)) aw
    have CQ:Sz (∀b,Below w.heap.size w b->b.cell? ⟨b1,o1+a,none⟩=some (int i64 (ls.getD a 0))):=ae λb e=>by
     obtain⟨b',o',c,h⟩:=QN (aq.o.below e (aj _)) aw;injection c with c;injection c with e1 e2;subst e1 e2;exact h
    have b:=aK.o a;generalize ls.getD a 0=x at*;obtain⟨e,u⟩:∃e:Nat,x%(i:Int)=(e:Int):=⟨(x%(i:Int)).toNat,by have:=C.o;have:=Int.emod_nonneg x (show(i:Int)≠0 by omega);omega⟩;have y:e<i:=(by have:=C.o;have:=Int.emod_lt_of_pos x (show(0:Int)<(i:Int) by omega);omega);have j:=λw=>ic x (i:Int) w b (by have:=C.o;omega) (by have:=C.o;omega);rw[u] at j;have A:=ae j;obtain⟨T,L⟩:∃T,IntKind.i64.wrap (xz+(a:Int))=T:=⟨_,rfl⟩;have D: -9223372036854775808<=T/\T<=9223372036854775807:=(by rw[<-L,IntKind.wrap_i64];omega);have M:=ae λw=>IG e T (by have:=C.o;omega) D w;have ay:=ae y;have ba:=ae b;obtain⟨N,O,Q⟩:=lJ HP.o;clear j u y b D;go_upto_region 11 with fail;go_cut [14] (λv t=>∃j b l,v=slice j e b/\Sz (l.length=e/\By l/\e<=b/\b<=maxLen)/\Sz (TBs w P f ga G #[int i64 d,int i64 m,int i64 g] l (slice j e b) s o p t))
    case first=>
     go_region_law (first
      | (go_simp
         go_at_call 19;refine(A.o _).mono ?_;rintro c t ⟨rfl,rfl⟩;go_simp)
      | (go_simp
         go_at_call 18;refine(M.o _).mono ?_;rintro c w5 ⟨U,l,rfl,y,j,D,b⟩;have b:Below wr.heap.size wr w5:=(by first | exact b | exact bQ b);have u:=ae (TBs.mk' (v:=U) HA.o HP.o r.o b y);obtain⟨W,X,rfl,-,-,E,K⟩:=eU u.o.2.2.1 j;have V:=ae (And.intro j (And.intro D (And.intro E K)));clear y j D b E K;go_simp))
     all_goals(
      go_simp;refine ‹∀(a':Act) (k:World),Met _ a' k->_› _ _ ?_;go_meet;exact⟨_,_,_,rfl,V,by first | exact u | exact ae (u.o.below ((aC _ _).drew))⟩)
    case rest=>
    obtain⟨D,E,l,rfl,K,b⟩:=hcut;rename World=>w5;clear HA HP r A M N O Q cq L;go_upto_region 12 with fail;go_cut [66] (λv t=>v=bool false/\∃U,Sz (U<=2+2*a)/\Sz (TBs w P f ga G #[int i64 d,int i64 m,int i64 g] l (slice D e E) U o none t))
    case first=>
     cases p with
     | none=>
       obtain rfl:false=S:=q.o.2.2;go_wp2_with fail;go_meet;exact⟨rfl,s,ae (by have:=q.o;omega),b⟩
     | some u=>
       obtain rfl:true=S:=q.o.2.2;have j:=a_del HF.o w5 b.o.1 b.o.2.2.2.size (by have:=q.o;omega) (by have:=q.o;omega);rw[ab.o] at j;unfold mF fD Ck at j;replace j:=ae j;have aS:∀w:World,(Instr.field 40 (.agg #[int i64 0,slice none 0 0,slice none 0 0,int i64 0,int i64 0,int i64 0,slice none 0 0,int i64 0]) 0).run prog w=.ok (int i64 0) w:=λ_=>(by kernel_rfl);go_wp2_with fail;refine j.o.mono ?_;rintro c w6 ⟨rfl,k,y⟩;have L:=ae (b.o.chg k y);clear k y j;go_wp2_with fail;go_meet;exact⟨rfl,s+1,ae (by have:=q.o;omega),L⟩
    case rest=>
    clear b;obtain⟨rfl,U,L,b⟩:=hcut;rename World=>w6;obtain⟨a',c',V,k,-⟩:=eU b.o.2.2.1 K.o.1;injection V with W _ X;subst W X;have j:=QK HF.o l D e E w6 b.o.1 b.o.2.2.2.size (by have:=L.o;omega) (by have:=q.o;omega) (by have:=q.o;have:=L.o;omega) k K.o.2.1 K.o.1 (by rw[aL.o];have:=ay.o;have:=C.o;omega) K.o.2.2;rw[ab.o] at j;unfold mF fD Ck at j;have y:=ae j;clear j k;have aS:∀(Y:Int) (w:World),(Instr.field 40 (.agg #[int i64 Y,slice none 0 0,slice none 0 0,int i64 0,int i64 0,int i64 0,slice none 0 0,int i64 0]) 0).run prog w=.ok (int i64 Y) w:=λ_ _=>(by kernel_rfl);go_wp2_with fail;refine y.o.mono ?_;rintro c Z ⟨Y,rfl,k,j⟩
    have A:Sz (∃M N p7,M<=1+2*(a+1)/\N<=a+1/\((Y=8/\p7=none)\/(Y=0/\∃u:ObB,p7=some u/\u.l=l/\u.n=e))/\TBs w P f ga G #[int i64 d,int i64 m,int i64 g] l (slice D e E) M N p7 Z):=ae (by
     have h1:=L.o;have h2:=q.o;rcases k with⟨rfl,-,ha⟩ | ⟨rfl,u,h3,h4,ha⟩
     ·exact⟨U,o,none,by omega,by omega,.inl ⟨rfl,rfl⟩,b.o.chg ha j⟩
     ·exact⟨U+1,o+1,some u,by omega,by omega,.inr ⟨rfl,u,rfl,h3,h4⟩,b.o.chg ha j⟩)
    clear k j y b L q;obtain⟨M,N,p7,j,k,y,O⟩:=A.o;have ac:=ae (And.intro j k);have HE:=ae y;have b:=ae O;clear j k y O A;go_upto_region 16 with fail;go_cut [80] (λv t=>v=bool false/\t=Z)
    case first=>
     rcases HE.o with⟨rfl,-⟩ | ⟨rfl,-⟩
     ·go_wp2_with fail
      go_meet;exact⟨rfl,rfl⟩
     ·go_wp2_with fail
      go_meet;exact⟨rfl,rfl⟩
    case rest=>
    obtain⟨rfl,c⟩:=hcut;subst c;rename World=>Z;have cq:=CQ.o Z b.o.2.2.2;obtain⟨bf,k⟩:∃bf:Bool,decide (x.tmod 4=1)=bf:=⟨_,rfl⟩;go_upto_region 18 with fail;go_cut [94] (λv t=>v=bool false/\Sz (TBs w P f ga G #[int i64 d,int i64 m,int i64 g] l (slice D e E) M N p7 t))
    case first=>
     cases bf with
     | false=>
       have R:¬x.tmod 4=1:=of_decide_eq_false k;go_wp2_with fail;go_meet;exact⟨rfl,b⟩
     | true=>
       have R:x.tmod 4=1:=bn k;have j:=Rk HF.o (aj _) ks a2 H c2 Z b.o.1 b.o.2.2.2.size (aF.o.below b.o.2.2.2 (aj _));unfold Mj fD at j;replace j:=ae j;go_wp2_with fail;refine j.o.mono ?_;rintro c w8 ⟨rfl,y,A⟩;have O:=ae (b.o.chg y A);clear y A j;go_wp2_with fail;go_meet;exact⟨rfl,O⟩
    case rest=>
    clear b cq k;obtain⟨rfl,b⟩:=hcut;rename World=>w8;rcases HE.o with⟨rfl,rfl⟩ | ⟨rfl,u,rfl,az,aA⟩
    ·have j:=OY w8 b.o.1
     rw[ab.o] at j;unfold mF fD Ck at j;replace j:=ae j;go_wp2_with fail;refine j.o.mono ?_;rintro c k ⟨y,A,rfl,aa⟩;have n:=(aC k.heap.size k).alloc (aj _) (cells #[int i64 5,slice y 0 A,slice none 0 0,int i64 0,int i64 0,int i64 0,slice none 0 0,int i64 0] 40);have O:=(b.o.below aa).below n;have Q:=ae O;obtain⟨x0,x1,x2,x3,x4,x5,x6,x7⟩:=bW (Blk.new k 40 #[int i64 5,slice y 0 A,slice none 0 0,int i64 0,int i64 0,int i64 0,slice none 0 0,int i64 0]);clear n O aa j b;go_upto_region 21 with fail;generalize k.alloc (cells #[int i64 5,slice y 0 A,slice none 0 0,int i64 0,int i64 0,int i64 0,slice none 0 0,int i64 0] 40)=al at*;generalize k.heap.size=G9 at*;go_wp2_with fail;go_roundw
     case rel=>exact⟨a+1,M,N,false,none,D,e,E,by omega,by go_num,rfl,rfl,ae ⟨ac.o.1,ac.o.2,rfl⟩,ae Q.o.1,ae Q.o.2.1,ae Q.o.2.2.2⟩
     case measure=>simp[intOf];omega
    ·have j:=QJ HF.o w8 b.o.1
     rw[ab.o,az,aA] at j;unfold mF fD Ck at j;replace j:=ae j;clear az aA;go_wp2_with fail;refine j.o.mono ?_;rintro c k ⟨y,A,rfl,am,aa⟩;have n:=(aC k.heap.size k).alloc (aj _) (cells #[int i64 0,slice y e A,slice none 0 0,int i64 0,int i64 0,int i64 0,slice none 0 0,int i64 0] 40);have O:=(b.o.below aa).below n;have Q:=ae O;obtain⟨a',c',V,aB,-⟩:=eU ((rB l).new (Rp.any _ am) n) K.o.1;injection V with W _ X;subst W X;obtain⟨a',c',V,aD,-⟩:=eU O.2.2.1 K.o.1;injection V with W _ X;subst W X;have aE:=ae (PN l y D e A E _ aB aD (by have:=ay.o;have:=C.o;omega));obtain⟨x0,x1,x2,x3,x4,x5,x6,x7⟩:=bW (Blk.new k 40 #[int i64 0,slice y e A,slice none 0 0,int i64 0,int i64 0,int i64 0,slice none 0 0,int i64 0]);clear n O aa am aB aD j b;go_upto_region 21 with fail;generalize k.alloc (cells #[int i64 0,slice y e A,slice none 0 0,int i64 0,int i64 0,int i64 0,slice none 0 0,int i64 0] 40)=al at*;generalize k.heap.size=G9 at*;go_wp2_with fail;refine aE.o.mono ?_;rintro c aD ⟨rfl,aB,rfl⟩;have am:=ae (Q.o.below (below_drewN (aC _ _) aB));clear Q aE;go_wp2_with fail;go_roundw
     case rel=>exact⟨a+1,M,N,true,some u,D,e,E,by omega,by go_num,rfl,rfl,ae ⟨ac.o.1,ac.o.2,rfl⟩,ae am.o.1,ae am.o.2.1,ae am.o.2.2.2⟩
     case measure=>simp[intOf];omega
   ·have ax:(a:Int)<(F:Int):=by omega
    have aR:¬(a:Int)<8:=(by omega);go_wp2_with fail;refine(ai.o wr).mono ?_;rintro c al ⟨rfl,b⟩;have e:=ae (r.o.trans (b.mono r.o.size));clear b;go_wp2_with fail;go_ret;exact⟨rfl,e.o⟩
  ·have ax:¬(a:Int)<(F:Int):=by omega
   go_wp2_with fail;refine(ai.o wr).mono ?_;rintro c al ⟨rfl,b⟩;have e:=ae (r.o.trans (b.mono r.o.size));clear b;go_wp2_with fail;go_ret;exact⟨rfl,e.o⟩
end
end Go.Proofs.YtgccllbnfngpcaaGreatDoor
