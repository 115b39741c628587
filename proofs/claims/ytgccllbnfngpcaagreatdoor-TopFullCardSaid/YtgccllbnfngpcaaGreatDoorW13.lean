import Derived.Test.YtgccllbnfngpcaaGreatDoorW12
set_option linter.unusedVariables false
set_option maxRecDepth 100000
set_option maxHeartbeats 400000000
namespace Go.Proofs.YtgccllbnfngpcaaGreatDoor
open Go.RowKit _root_.Go.Proofs.Tryz List
open Value (int slice pointer bool)
open IntKind (i64)
open Ending (returned)
open Obj (cells)
theorem Ny{P:Program}{w:World}{ops:Array Oper}{rest:List Oper}{o:Oper}{a:Act}{Q:Exit->Act->World->Prop}(g:o.guard=none)(s x:Operand){T e:TypeId}{z:Value}{k h:Nat}
 (l:o.op=.call { callee:=.builtin .append,args:=#[s,x],argTypes:=#[T,T] })(n:P.underlying T=some (.slice e))(p:(P.info? e).map (λd=>(d.zero,d.size,d.bytes))=some (some z,k,h))(q:z.cells.size=k)(r:0<k)(t:h<=1000)
 {C m c:Nat}{v:Value}{i:Addr}{L j:List Rp}{F:Nat->Prop}(u:OwnS w C e k F v L)(y:C<=w.heap.size)(A:L.length+m<=1000000)
 (D:(rS k j).ok w (λb=>F b/\some b≠v.ownBlock) [slice (some i) m c])(hs:a.eval s=v)(E:a.eval x=slice (some i) m c)
 (G:∀d f,OwnS f C e k F d (L++j)->Below C w f->(d.ownBlock=v.ownBlock\/∃b,d.ownBlock=some b/\w.heap.size<=b)->wpList P ops Q rest (a.put o.dst d) f):
 wpList P ops Q (o :: rest) a w:=
 wpList_plain g λI H=>MH g s x l n p q r t u y A D hs E λd f I J _ _ K=>H _ _ (G d f I J K)
theorem vJ:(prog.info? 65).map (λa=>(a.zero,a.size,a.bytes))=some (some (.agg #[.string .empty,int i64 0,int i64 0,slice none 0 0]),4,56):=by kernel_rfl
theorem wL(w:World):Calls prog 100 #[slice none 0 0] w λa b=>a=returned (slice none 0 0)/\b=w:=by
 have b:=λa=>Lib.run_eql_slice_nil (P:=prog) a 66 65 none 0 0 0 0 underlying66;go_enter func100,ntmps100;go_wp2_with fail;go_ret;exact⟨rfl,rfl⟩
theorem Hu(L:List cN)(F:Nat->Prop)(b:Addr)(n c:Nat)(w:World)(g:(rS 4 (L.map bQ)).ok w F [slice (some b) n c])(q:n<=1000):
 Calls prog 100 #[slice (some b) n c] w λf d=>∃v,f=returned v/\OwnS d w.heap.size 65 4 (λa=>F a/\a<w.heap.size) v (L.map bQ)/\Below w.heap.size w d:=by
 have r:=λd=>Lib.run_eql_slice_nil (P:=prog) d 66 65 (some b) n c 0 0 underlying66;have d:=(az w.heap.size w).alloc (aj _) (cells #[] 65)
 have i:PH ((rS 4 (L.map bQ)).ok (w.alloc (cells #[] 65)) (λa=>(F a/\a<w.heap.size)/\some a≠(Value.slice (some ⟨w.heap.size,0,none⟩) 0 0).ownBlock) [slice (some b) n c]):=
  ae ((rS 4 _).new ((rS 4 _).more g λa e j=>⟨⟨e,j⟩,λf=>by simp[Value.ownBlock] at f;omega⟩) d)
 have f:PH (OwnS (w.alloc (cells #[] 65)) w.heap.size 65 4 (λa=>F a/\a<w.heap.size) (slice (some ⟨w.heap.size,0,none⟩) 0 0) []):=
  ae ⟨[],World.ownsRow_made w #[] 0 (aj _) (by unfold maxLen;omega) (by simp),by simp⟩
 have j:=ae d;have k:=d.size;have l:(([]:List Rp)).length+n<=1000000:=by simp;omega
 clear g d;go_enter func100,ntmps100
 go_wp2_with (at_builtin;refine Ny (w:=w.alloc (cells #[] 65)) rfl _ _ rfl underlying66 vJ rfl (by decide) (by decide) f.o k l i.o rfl rfl ?_)
 intro v m d e o;have p:PH (OwnS m w.heap.size 65 4 (λa=>F a/\a<w.heap.size) v (L.map bQ)):=ae (by simpa using d);have a:=ae (j.o.trans e);clear d e o;go_wp2_with fail;go_ret;exact⟨_,rfl,p.o,a.o⟩
theorem IU{w:World}{C:Nat}{v:Value}{l:PI}(b:OwnI w C v l):(rI l).ok w (λa=>Ty 3 w a/\C<=a) [v]:=by
 have e:=b.ty;obtain⟨f,g,rfl,h,i,j,c,d⟩:=dB (k:=1) b;rw[Nat.mul_one] at c d;refine⟨f,l.length,g,rfl,i,j,h,c,λm=> ?_⟩;obtain⟨a,n,o,⟨p,_⟩,q,r⟩:=d m;exact⟨a,n,o,⟨e a q,p⟩,r⟩
def xp(a c d:Nat)(b:PI):PI:=cellL 2 (bU a 4++[c,d,b.length]++b)
theorem numB4(n:Nat):bU n 4=[n/16777216%256,n/65536%256,n/256%256,n%256]:=by
 simp[bU]
theorem OwnB.ofBlk{w:World}{C g:Nat}{l:PI}(a:Blk w g 5 (bK l))(b:C<=g)(c:l.length<=maxLen):OwnB w C (slice (some ⟨g,0,none⟩) l.length l.length) l:=
 ⟨by rw[bG,Nat.mul_one],.inr ⟨g,l.length,bK l,rfl,b,a,aj _,c,by simp[bK,bG],by simp[bK,bG,aJ]⟩⟩
theorem J7(l d e:Nat)(b:PI)(a:PK)(n c:Nat)(w:World)(hs:l<4294967296)(X:d<=255)(Y:e<=255)(m:Rd w w.heap.size a n (bF b))(r:By b)(Z:n<=48)(F:a=none->c=0):
 Calls prog 125 #[int i64 l,int i64 d,int i64 e,slice a n c] w λs f=>∃g,s=returned (slice (some ⟨g,0,none⟩) 64 64)/\w.heap.size<=g/\Blk f g 5 (bK (xp l d e b))/\Below w.heap.size w f:=by
 have p:b.length=n:=by have:=m.len;rwa [bG] at this
 obtain⟨f,t⟩:∃f,f=l/16777216:=⟨_,rfl⟩;obtain⟨i,u⟩:∃i,i=l/65536%256:=⟨_,rfl⟩;obtain⟨j,v⟩:∃j,j=l/256%256:=⟨_,rfl⟩;obtain⟨k,x⟩:∃k,k=l%256:=⟨_,rfl⟩;have G:PH (xp l d e b=cellL 2 ([f,i,j,k,d,e,n]++b)):=ae (by unfold xp;rw[numB4,p,show l/16777216%256=l/16777216 by omega,t,u,v,x];rfl);have H:(l:Int)/16777216=(f:Int):=by omega
 have I:(l:Int)/65536%256=(i:Int):=by omega
 have J:(l:Int)/256%256=(j:Int):=by omega
 have K:(l:Int)%256=(k:Int):=by omega
 have L:(d:Int)%256=(d:Int):=by omega
 have M:(e:Int)%256=(e:Int):=by omega
 have N:(n:Int)%256=(n:Int):=by omega
 have O:PH (By [f,i,j,k,d,e,n]):=ae (by intro q m;simp at m;omega);have o:=(az w.heap.size w).alloc (aj _) (cells (bK [f,i,j,k,d,e,n]) 5);have y:=ae o;have z:=ae (m.below o (aj _));have A:PH (OwnB (w.alloc (cells (bK [f,i,j,k,d,e,n]) 5)) w.heap.size (slice (some ⟨w.heap.size,0,none⟩) 7 7) [f,i,j,k,d,e,n]):=ae (OwnB.ofBlk (Blk.new w _ (bK [f,i,j,k,d,e,n])) (aj _) (by simp[maxLen]));have D:[f,i,j,k,d,e,n].length+n<=1000000:=by simp;omega
 have E:=o.size;have P:=ae r;have Q:=ae p;clear t u v x m r o p;go_enter func125,ntmps125
 go_wp2_with (at_builtin;refine ni (w:=w.alloc (cells (bK [f,i,j,k,d,e,n]) 5)) (C:=w.heap.size) (xs:=[f,i,j,k,d,e,n]) (ys:=b) rfl _ _ rfl A.o E D rfl rfl F z.o ?_)
 intro v2 R p t S T;have u:([f,i,j,k,d,e,n]++b).length=n+7:=by rw[aH,Q.o];simp;omega
 obtain⟨U,V,rfl,v,W⟩:=p.rd2 u;have o:=ae (y.o.trans t);have x:=ae (ug 2 ([f,i,j,k,d,e,n]++b) U (n+7) V R (by omega) (by omega) v (λq m=>(bz.1 m).elim (O.o q) (P.o q)) (by omega));clear p t S T u v W A z y H I J K L M N D E;generalize [f,i,j,k,d,e,n]++b=A at*;go_wp2_with fail;refine x.o.mono ?_;rintro s D ⟨g,rfl,p,t,u⟩;have v:=ae t;have y:=ae (o.o.trans (u.mono o.o.size));have z:=ae (aP o.o.size p);clear p t u x;go_wp2_with fail;go_ret;exact⟨g,rfl,z.o,by rw[G.o];exact v.o,y.o⟩
theorem uV:(prog.info? 165).map (λa=>(a.zero,a.size,a.bytes))=some (some (.agg #[int i64 0,slice none 0 0]),2,32):=by kernel_rfl
theorem Fu.fd{w:World}{b:Nat}(a:Fu w b):Fd w b:=λc=>a (c.elim .inl λa=>.inr (.inl a))
theorem BB(L:PI)(F:Nat->Prop)(a:PK)(n c:Nat)(w:World)(k:(rI L).ok w F [slice a n c])(l:L.length=n)(M:n<=64)(N:0<n)(m:∀x∈L,1<=x/\x<=512):
 Calls prog 87 #[slice a n c] w λd b=>∃v,d=returned (.tuple #[v,bool true])/\OwnI b w.heap.size v (range n)/\Below w.heap.size w b:=by
 have z:PH (Sx w w [eR F (slice a n c) (rI L)]):=ae ((Sx.nil w).add (eR F (slice a n c) (rI L)) k);have o:=ae l;have A:=ae m;have p:PH (OwnI w w.heap.size (slice none 0 0) (range 0)):=ae (OwnI.nil _ _);have q:=ae (az w.heap.size w);have O:(n:Int)<=64:=by omega
 clear k l m;go_enter func87,ntmps87;go_wp2_with fail;go_loopw [4,9] (λv b wr=>∃e:Nat,e<=n/\b=int i64 e/\PH (OwnI wr w.heap.size v (range e))/\PH (Below w.heap.size w wr)) (λ_ b _=>n-(intOf b).toNat)
 case atStart=>exact⟨0,by omega,rfl,p,q⟩
 case round=>
  clear p q;obtain⟨e,P,rfl,g,f⟩:=hrel;have D:=ae (z.o.step f.o)
  obtain⟨Q,b,R,j,E⟩:∃a n c,_=Value.slice a n c/\n=e:=by
   obtain⟨r,s,d⟩:=g.o.lenA;exact⟨r,_,s,d,aZ⟩
  subst j;subst E;by_cases G:b<n
  ·have S:(b:Int)<(n:Int):=by omega
   have i:b<L.length:=(by rw[o.o];exact G);obtain⟨r,s,d,t,-⟩:=dI (D.o.rep 0 rfl) o.o;injection d with j T H;subst j H;obtain⟨U,V,rfl,W,u⟩:=t.2 (by omega);have X:=u b (int i64 (L.getD b 0:Nat)) (bT i);have I:=A.o (L.getD b 0) (by rw[af,ah i];exact aQ i);generalize L.getD b 0=x at*;have Y:¬(512:Int)<(x:Int):=(by omega);have Z:(0:Int)<(x:Int):=(by omega);have J:(range b).length<=1000000:=(by rw[aZ];omega);have K:=f.o.size;clear u t I i
   go_wp2_with (at_builtin;refine kQ (w:=wr) (C:=w.heap.size) (y:=b) rfl _ _ rfl rfl g.o K J rfl rfl ?_)
   intro v2 w2 i t;rw[<-range_succ] at i;have u:=ae i;have I:=ae (f.o.trans t);clear i t g f;go_wp2_with fail;go_roundw
   case rel=>exact⟨b+1,by omega,by go_num,u,I⟩
   case measure=>simp[intOf];omega
  ·obtain rfl:b=n:=by omega
   have i:(0:Int)<(b:Int):=(by omega);go_wp2_with fail;go_ret2;exact⟨_,rfl,g.o,f.o⟩
section
variable {B:Nat}
end
section
variable {B:Nat}
theorem ChgT.ofD{w w':World}(a:ChgD B w w'):ChgT w w':=Chg.mono a λ_ _ b=>b.2.elim .inl λa=>.inr (.inl a)
end
section
variable {B:Nat}
structure Fl where
 p:Nat
 n:Nat
 D:Nat->Nat
 room:Nat->Nat
 Z:Nat->Bool
def drL(p a:Nat):Array Value:=#[pointer (some ⟨p,0,none⟩),int i64 a,slice none 0 0,int i64 0,slice none 0 0,bool false,bool true]
def DrW(w:World)(g p c:Nat)(R:List PI)(b:Nat)(o:Option Nat):Prop:=∃a,DrB w g p c a b/\OwnS w 0 30 1 (Ty 5 w) a (R.map rB)/\b<=R.length/\a.ownBlock=o/\∀a∈R,a.length=64
theorem DrW.r{w:World}{g p b c:Nat}{R:List PI}{o:Option Nat}(a:DrW w g p b R c o):DrR w g p b R o:=by obtain⟨d,a⟩:=a;exact⟨d,c,a⟩
theorem DrW.chg{w w':World}{g p a c:Nat}{R:List PI}{o:Option Nat}{M:Nat->Prop}(f:DrW w g p a R c o)(d:Chg M w w')(h:¬M g)(i:∀b,o=some b->¬M b)(j:∀b,M b->¬Ty 5 w b):DrW w' g p a R c o:=by
 obtain⟨k,l,m,n,e,q⟩:=f;exact⟨k,Blk.chg l d h,m.chg d (λb r=>i b (e.symm.trans r)) j,n,e,q⟩
def DrX(w:World)(g p a:Nat)(z:Bool)(R:List PI)(b:Nat)(o:Option Nat):Prop:=(z=true/\Blk w g 88 (drL p a)/\o=none)\/(z=false/\DrW w g p a R b o)
theorem DrX.ty{w:World}{g p b c:Nat}{z:Bool}{R:List PI}{o:Option Nat}(a:DrX w g p b z R c o):Ty 88 w g:=by
 rcases a with⟨-,a,-⟩ | ⟨-,a⟩
 ·exact Blk.ty a
 ·exact a.r.ty
theorem DrX.oty{w:World}{g p d e:Nat}{z:Bool}{R:List PI}{o:Option Nat}(a:DrX w g p d z R e o):∀b,o=some b->Ty 30 w b:=by
 rcases a with⟨-,a,f⟩ | ⟨-,a⟩
 ·intro b c;rw[f] at c;cases c
 ·exact a.r.oty
theorem DrX.chg{w w':World}{g p d e:Nat}{z:Bool}{R:List PI}{o:Option Nat}{M:Nat->Prop}(a:DrX w g p d z R e o)(f:Chg M w w')(h:¬M g)(i:∀b,o=some b->¬M b)(j:∀b,M b->¬Ty 5 w b):DrX w' g p d z R e o:=by
 rcases a with⟨c,a,k⟩ | ⟨c,a⟩
 ·exact .inl ⟨c,Blk.chg a f h,k⟩
 ·exact .inr ⟨c,a.chg f h i j⟩
theorem DrX.below{w w':World}{g p b c:Nat}{z:Bool}{R:List PI}{o:Option Nat}(a:DrX w g p b z R c o)(d:Below w.heap.size w w'):DrX w' g p b z R c o:=
 a.chg (M:=λ_=>False) (Chg.of d) (λa=>a) (λ_ _ a=>a) λ_ a=>a.elim
structure Drz (B:Nat) (w:World) (f:Fl) (R:Nat->List PI) (W:Nat->Nat):Prop where
 pw:PwS w f.p
 dr:∃o:Nat->Option Nat,(∀i,i<f.n->DrX w (f.D i) f.p (f.room i) (f.Z i) (R i) (W i) (o i))/\(∀i j b,i<f.n->j<f.n->i≠j->o i=some b->o j≠some b)/\∀i b,i<f.n->o i=some b->B<=b
 ne:∀i j,i<f.n->j<f.n->i≠j->f.D i≠f.D j
 lo:∀i,i<f.n->B<=f.D i
theorem Drz.below{w w':World}{f:Fl}{R:Nat->List PI}{W:Nat->Nat}(c:Drz B w f R W)(a:Below w.heap.size w w'):Drz B w' f R W:=by
 obtain⟨b,⟨d,e,g,h⟩,i,j⟩:=c;exact⟨Blk.below b a (Blk.lt b),⟨d,λk l=>(e k l).below a,g,h⟩,i,j⟩
theorem Drz.chgTy{w w':World}{f:Fl}{R:Nat->List PI}{W:Nat->Nat}{M:Nat->Prop}{t:TypeId}(k:Drz B w f R W)(i:Chg M w w')(c:∀b,M b->Ty t w b)(d:t≠88/\t≠30/\t≠5/\t≠138):Drz B w' f R W:=by
 obtain⟨j,⟨l,e,m⟩,n,o⟩:=k;exact⟨Blk.chg j i λa=>(c _ a).ne (Blk.ty j) d.2.2.2,⟨l,λg h=>(e g h).chg i (λa=>(c _ a).ne (e g h).ty d.1) (λb p a=>(c _ a).ne ((e g h).oty b p) d.2.1) (λb a g=>(c _ a).ne g d.2.2.1),m⟩,n,o⟩
def oC(m:cQ)(a b:Value)(p:Nat)(x:Nat->Value):Array Value:=#[int i64 m.seq,int i64 m.next,int i64 m.K,int i64 m.H,int i64 m.Z,int i64 m.extra,a,b,pointer (some ⟨p,0,none⟩),int i64 0]++((range 64).map x).toArray
theorem qG(m:cQ)(a b:Value)(p:Nat)(x:Nat->Value){i:Nat}(c:i<64):(oC m a b p x)[10+i]? =some (x i):=by
 unfold oC;rw[Array.getElem?_append_right (by simp)];simp[c]
theorem MV(m:cQ)(b c:Value)(p:Nat)(x:Nat->Value)(y:Value){k:Nat}(g:k<64):(oC m b c p x).setIfInBounds (10+k) y=oC m b c p (λa=>if a=k then y else x a):=by
 unfold oC;rw[Array.setIfInBounds_append_right (by simp)];congr 1;apply Array.ext';apply ext_getElem
 ·simp
 ·intro d e f
  simp at e f;simp[getElem_set];by_cases a:k=d
  ·subst a;simp
  ·simp[a,Ne.symm a]
theorem fS{w:World}{g p:Nat}{m:cQ}{b c:Value}{x:Nat->Value}(a:Blk w g 96 (oC m b c p x)):
 w.cell? ⟨g,0,none⟩=some (int i64 m.seq)/\w.cell? ⟨g,1,none⟩=some (int i64 m.next)/\w.cell? ⟨g,2,none⟩=some (int i64 m.K)/\w.cell? ⟨g,3,none⟩=some (int i64 m.H)/\w.cell? ⟨g,4,none⟩=some (int i64 m.Z)/\w.cell? ⟨g,5,none⟩=some (int i64 m.extra)/\
 w.cell? ⟨g,6,none⟩=some b/\w.cell? ⟨g,7,none⟩=some c/\w.cell? ⟨g,8,none⟩=some (pointer (some ⟨p,0,none⟩))/\w.cell? ⟨g,9,none⟩=some (int i64 0):=
 ⟨(Blk.cell a 0).trans (by simp[oC]),(Blk.cell a 1).trans (by simp[oC]),(Blk.cell a 2).trans (by simp[oC]),(Blk.cell a 3).trans (by simp[oC]),(Blk.cell a 4).trans (by simp[oC]),(Blk.cell a 5).trans (by simp[oC]),
  (Blk.cell a 6).trans (by simp[oC]),(Blk.cell a 7).trans (by simp[oC]),(Blk.cell a 8).trans (by simp[oC]),(Blk.cell a 9).trans (by simp[oC])⟩
def yS(n:Nat)(D:Nat->Nat)(i:Nat):Value:=if i<n then pointer (some ⟨D i,0,none⟩) else pointer none
def dpt(f:Fl):Nat->Value:=yS f.n f.D
theorem yT(f:Fl){s:Nat}(a:s<f.n):dpt f s=pointer (some ⟨f.D s,0,none⟩):=by unfold dpt yS;rw[bg a]
structure Stq (B:Nat) (w:World) (g:Nat) (f:Fl) (m:cQ) (R:Nat->List PI):Prop where
 drs:Drz B w f R (fun _=>0)
 st:∃vd vo,Blk w g 96 (oC m vd vo f.p (dpt f))/\(rI m.drives).ok w (Fu w) [vd]/\(rS 4 (m.objs.map bQ)).ok w (Fu w) [vo]
 dv:m.drives=range f.n
 n0:0<f.n/\f.n<=64
theorem Stq.below{w w':World}{g:Nat}{f:Fl}{m:cQ}{R:Nat->List PI}(c:Stq B w g f m R)(a:Below w.heap.size w w'):Stq B w' g f m R:=by
 obtain⟨d,⟨e,h,b,i,j⟩,k,l⟩:=c;exact⟨d.below a,⟨e,h,Blk.below b a (Blk.lt b),(rI _).fu i a,(rS 4 _).fu j a⟩,k,l⟩
theorem Stq.chgD{w w':World}{g:Nat}{f:Fl}{m:cQ}{R Q:Nat->List PI}(c:Stq B w g f m R)(a:ChgD B w w')(d:Drz B w' f Q (λ_=>0)):Stq B w' g f m Q:=by
 obtain⟨o,⟨e,h,b,i,j⟩,k,l⟩:=c;exact⟨d,⟨e,h,Blk.chg b a λn=>Md.not (Blk.ty b) (by decide) (by decide) n.2,(rI _).chgT i a.toT,(rS 4 _).chgT j a.toT⟩,k,l⟩
def StB(w:World)(g:Nat)(f:Fl):Prop:=∃a b c,Blk w g 96 (oC a b c f.p (dpt f))
theorem Stq.sb{w:World}{g:Nat}{f:Fl}{m:cQ}{R:Nat->List PI}(a:Stq B w g f m R):StB w g f:=by obtain⟨-,⟨b,c,a,-⟩,-⟩:=a;exact⟨m,b,c,a⟩
theorem StB.below{w w':World}{g:Nat}{f:Fl}(a:StB w g f)(b:Below w.heap.size w w'):StB w' g f:=by obtain⟨c,d,e,a⟩:=a;exact⟨c,d,e,a.below b a.lt⟩
theorem StB.chgD{w w':World}{g:Nat}{f:Fl}(a:StB w g f)(b:ChgD B w w'):StB w' g f:=by obtain⟨c,d,e,a⟩:=a;exact⟨c,d,e,Blk.chg a b λh=>Md.not (Blk.ty a) (by decide) (by decide) h.2⟩
def jW(B g:Nat)(f:Fl)(m:cQ)(R:Nat->List PI):wH:=⟨λa=>Stq B a g f m R,λ_ _ a b=>a.below b⟩
theorem Sx.stq{w0 w:World}{L:List wH}(a:Sx w0 w L)(i:Nat){g:Nat}{f:Fl}{m:cQ}{R:Nat->List PI}(b:L[i]? =some (jW B g f m R)):Stq B w g f m R:=a.get i b
theorem Ki(g p a:Nat)(w:World)(h:Blk w g 88 (drL p a)):Calls prog 90 #[pointer (some ⟨g,0,none⟩)] w λb c=>b=returned (bool true)/\c=w:=by
 have b:w.cell? ⟨g,6,none⟩=some (bool true):=Blk.cell h 6;go_enter func90,ntmps90;go_wp2_with fail;go_ret;exact⟨rfl,rfl⟩
theorem MW(g p b c:Nat)(z:Bool)(R:List PI)(o:Option Nat)(w:World)(a:DrX w g p b z R c o):Calls prog 90 #[pointer (some ⟨g,0,none⟩)] w λd e=>d=returned (.bool z)/\e=w:=by
 rcases a with⟨rfl,a,-⟩ | ⟨rfl,d,a,-⟩
 ·exact Ki g p b w a
 ·exact zf g p b c d w a
theorem tC(s g:Nat)(f:Fl)(w:World)(h:StB w g f)(hs:s<f.n)(c:f.n<=64):Calls prog 38 #[pointer (some ⟨g,0,none⟩),int i64 s] w λa b=>a=returned (pointer (some ⟨f.D s,0,none⟩))/\b=w:=by
 obtain⟨d,e,i,a⟩:=h;have b:s<64:=by omega
 have j:¬(s:Int)<0:=by omega
 have k:(s:Int)<64:=by omega
 have l:¬(64:Int)<=(s:Int):=by omega
 have m:w.cell? ⟨g,10+s,none⟩=some (pointer (some ⟨f.D s,0,none⟩)):=(Blk.cell a (10+s)).trans (by rw[qG _ _ _ _ _ b];rw[yT f hs]);generalize f.D s=n at*;clear a;go_enter func38,ntmps38;go_wp2_with fail;go_ret;exact⟨rfl,rfl⟩
theorem Kj(g:Nat)(f:Fl)(m:cQ)(R:Nat->List PI)(w:World)(h:Stq B w g f m R):Calls prog 55 #[pointer (some ⟨g,0,none⟩)] w λe b=>e=returned (bool false)/\Below w.heap.size w b:=by
 obtain⟨d,⟨s,t,a,-⟩,-⟩:=h;obtain⟨j,k,l,n,o,p,q,r,u,v⟩:=fS a;have i:=ae a;have c:=ae d.pw;clear a j k l n o p q r d;generalize f.p=j at*;go_enter func55,ntmps55;go_upto_region 1 with fail;refine bL (by kernel_rfl) (by kernel_rfl) ?_
 iterate 23 (
  with_reducible refine wpQuiet_step (λl d=> ?_)
  go_simp
  first
  | refine d _ ?_
  | refine⟨_,λ_ _=>rfl,d _ ?_⟩
  | (apply Exists.intro
     refine⟨λb a=> ?_,d _ ?_⟩
     ·obtain⟨n,o,p,q,r,x,y,z,A,C⟩:=fS (i.o.below a i.o.lt)
      first
      | (go_simp
         first | exact rfl | exact⟨rfl,rfl⟩)
      | (go_at_call 81
         refine(Bd j b (c.o.below a (Blk.lt c.o))).mono ?_;rintro e k ⟨rfl,rfl⟩;exact⟨rfl,a⟩)
      | (go_at_call 89
         refine(EN j b (c.o.below a (Blk.lt c.o))).mono ?_;rintro e k ⟨rfl,rfl⟩;exact⟨rfl,a⟩))
  clear d l)
 with_reducible refine wpQuiet_nil ?_
 intro k d;go_wp2_with fail;go_ret;exact⟨rfl,d⟩
theorem AK(g:Nat)(f:Fl)(m:cQ)(R:Nat->List PI)(w:World)(h:Stq B w g f m R):Calls prog 110 #[pointer (some ⟨g,0,none⟩)] w λa b=>a=returned (bool false)/\Below w.heap.size w b:=by
 have b:=ae (Kj g f m R w h);clear h;go_enter func110,ntmps110;go_wp2_with fail;refine b.o.mono ?_;rintro a e ⟨rfl,c⟩;have d:=ae c;clear c b;go_wp2_with fail;go_ret;exact⟨rfl,d.o⟩
def bI(f:Fl):PI:=(range f.n).filter λa=> !f.Z a
theorem gZ{f:Fl}{x:Nat}(a:x∈bI f):x<f.n/\f.Z x=false:=by
 unfold bI at a;rw[mem_filter] at a;exact⟨bA.1 a.1,by simpa using a.2⟩
theorem Kk{f:Fl}(b:f.n<=64):∀x∈bI f,x<64:=λx a=>by have:=(gZ a).1;omega
theorem fT(f:Fl):(bI f).Nodup:=List.Nodup.sublist filter_sublist nodup_range
theorem nG{f:Fl}(a:f.n<=64):(bI f).length<=64:=aP (length_filter_le _ _) (by rw[aZ];exact a)
theorem xA(L:PI)(F:Nat->Prop)(a:PK)(n c:Nat)(g:Nat)(f:Fl)(R:Nat->List PI)(W:Nat->Nat)(w:World)(h:Drz B w f R W)(q:StB w g f)(r:(rI L).ok w F [slice a n c])(s:L.length=n)(V:n<=64)(t:∀x∈L,x<f.n)(H:f.n<=64):
 Calls prog 44 #[.func (.func 38) #[pointer (some ⟨g,0,none⟩)] #[],slice a n c] w λi m=>∃v,i=returned v/\OwnI m w.heap.size v (L.filter λd=> !f.Z d)/\Below w.heap.size w m:=by
 have I:PH (Sx w w [eR F (slice a n c) (rI L)]):=ae ((Sx.nil w).add (eR F (slice a n c) (rI L)) r);have J:=ae h;have K:=ae q;have o:=ae s;have M:=ae t;have u:PH (OwnI w w.heap.size (slice none 0 0) ((L.take 0).filter λd=> !f.Z d)):=ae (OwnI.nil _ _);have z:=ae (az w.heap.size w);clear h q r s t;go_enter func44,ntmps44;go_wp2_with fail;go_loopw [5,11] (λv d wr=>∃b:Nat,b<=n/\d=int i64 b/\PH (OwnI wr w.heap.size v ((L.take b).filter λd=> !f.Z d))/\PH (Below w.heap.size w wr)) (λ_ d _=>n-(intOf d).toNat)
 case atStart=>exact⟨0,by omega,rfl,u,z⟩
 case round=>
  clear u z;obtain⟨b,X,rfl,j,e⟩:=hrel;have N:=ae (I.o.step e.o);obtain⟨Y,Z,cv,rfl⟩:=j.o.sl;by_cases O:b<n
  ·have aa:(b:Int)<(n:Int):=by omega
   have k:b<L.length:=(by rw[o.o];exact O);obtain⟨a',c',i,A,-⟩:=dI (N.o.rep 0 rfl) o.o;injection i with P e2 Q;subst P Q;obtain⟨ab,S,rfl,hb,D⟩:=A.2 (by omega);have cq:=D b (int i64 (L.getD b 0:Nat)) (bT k);have p:=M.o (L.getD b 0) (by rw[af,ah k];exact aQ k)
   have l:PH ((L.take (b+1)).filter (λd=> !f.Z d)=(L.take b).filter (λd=> !f.Z d)++(if f.Z (L.getD b 0)=true then [] else [L.getD b 0])):=ae (by
    rw[aN k,af,ah k,filter_append];congr 1;cases hz:f.Z L[b] <;> simp[hz])
   have T:((L.take b).filter λd=> !f.Z d).length<=1000000:=aP (length_filter_le _ _) (by rw[aG];omega);have U:=e.o.size;generalize L.getD b 0=x at*;have E:=ae (tC x g f wr (K.o.below e.o) p H)
   have G:PH (Calls prog 90 #[pointer (some ⟨f.D x,0,none⟩)] wr λi m=>i=returned (bool (f.Z x))/\m=wr):=ae (by
    obtain⟨-,⟨S,m,-⟩,-⟩:=J.o.below e.o;exact MW _ _ _ _ _ _ _ _ (m x p))
   generalize (L.take b).filter (λd=> !f.Z d)=LL at*;generalize f.D x=dx at*;clear D A p k;go_wp2_with fail;refine E.o.mono ?_;rintro i wx ⟨rfl,rfl⟩;go_wp2_with fail;refine G.o.mono ?_;rintro i p ⟨rfl,rfl⟩;clear E G;cases hz:f.Z x with
   | true=>
     rw[hz,bg rfl,append_nil] at l;rw[<-l.o] at j;clear l;go_wp2_with fail;go_roundw
     case rel=>exact⟨b+1,by omega,by go_num,j,e⟩
     case measure=>simp[intOf];omega
   | false=>
     rw[hz,bh (by decide)] at l
     go_wp2_with (at_builtin;refine kQ (w:=p) (C:=w.heap.size) (y:=x) rfl _ _ rfl rfl j.o U T rfl rfl ?_)
     intro E G d k;rw[<-l.o] at d;have A:=ae d;have D:=ae (e.o.trans k);clear d k j e l;go_wp2_with fail;go_roundw
     case rel=>exact⟨b+1,by omega,by go_num,A,D⟩
     case measure=>simp[intOf];omega
  ·obtain rfl:b=n:=by omega
   rw[aJ (by rw[o.o];exact aj _)] at j;go_wp2_with fail;go_ret;exact⟨_,rfl,j.o,e.o⟩
theorem vq(g:Nat)(f:Fl)(m:cQ)(R:Nat->List PI)(w:World)(h:Stq B w g f m R):
 Calls prog 22 #[pointer (some ⟨g,0,none⟩)] w λi a=>∃v,i=returned v/\OwnI a w.heap.size v (bI f)/\Below w.heap.size w a:=by
 have j:=h.sb;obtain⟨k,⟨F,G,a,c,n⟩,b,o,l⟩:=h;obtain⟨p,q,r,s,t,u,H,x,y,z⟩:=fS a;have d:m.drives.length=f.n:=by rw[b,aZ]
 obtain⟨A,C,rfl,-⟩:=dI c d;have e:=ae (xA m.drives (Fu w) A f.n C g f R _ w k j c d l (by rw[b];intro I D;exact bA.1 D) l);rw[b,show(range f.n).filter (λE=> !f.Z E)=bI f from rfl] at e;clear k a c n p q r s t u x y z j d b o;generalize f.n=j at*;go_enter func22,ntmps22;go_wp2_with fail;refine e.o.mono ?_;rintro i k ⟨v,rfl,b,a⟩;have c:=ae b;have d:=ae a;clear b a e;go_wp2_with fail;go_ret;exact⟨_,rfl,c.o,d.o⟩
end
section
variable {B:Nat}
def upd{α:Type}(f:Nat->α)(s:Nat)(v:α):Nat->α:=λa=>if a=s then v else f a
theorem upd_same{α:Type}(f:Nat->α)(s:Nat)(v:α):upd f s v s=v:=by unfold upd;rw[bg rfl]
theorem upd_ne{α:Type}(f:Nat->α){s i:Nat}(v:α)(a:i≠s):upd f s v i=f i:=by unfold upd;rw[bh a]
def eu(P:List (Nat×PI))(i:Nat):List PI:=(P.filter λa=>a.1 == i).map Prod.snd
def gX(P:List (Nat×PI))(R:Nat->List PI):Nat->List PI:=λa=>R a++eu P a
def nU(P:List (Nat×PI))(W:Nat->Nat):Nat->Nat:=λa=>W a+(eu P a).length
theorem kY(P Q:List (Nat×PI))(i:Nat):eu (P++Q) i=eu P i++eu Q i:=by unfold eu;rw[filter_append,aU]
theorem vH(x:Nat×PI)(i:Nat):eu [x] i=if i=x.1 then [x.2] else []:=by
 unfold eu;by_cases a:x.1=i
 ·rw[bg a.symm,filter_cons_of_pos (by simpa using a)];rfl
 ·rw[bh (Ne.symm a),filter_cons_of_neg (by simpa using a)];rfl
theorem KJ(P:List (Nat×PI))(i:Nat):(eu P i).length<=P.length:=by unfold eu;rw[aC];exact length_filter_le _ _
theorem Hh(P:List (Nat×PI))(i k:Nat):(eu (P.take k) i).length<=(eu P i).length:=by
 have a:=kY (P.take k) (P.drop k) i;rw[take_append_drop] at a;rw[a,aH];omega
theorem Nr(P:List (Nat×PI)){k:Nat}(a:k<P.length):(eu (P.take k) (P.getD k (0,[])).1).length<(eu P (P.getD k (0,[])).1).length:=by
 have b:=Hh P (P.getD k (0,[])).1 (k+1);rw[aN a,kY,aH] at b;have c:P.getD k (0,[])=P[k]:=by rw[af,ah a];rfl
 rw[c,vH,bg rfl,length_singleton] at b;rw[c];omega
theorem Hj(P:List (Nat×PI))(R:Nat->List PI)(x:Nat×PI):gX (P++[x]) R=upd (gX P R) x.1 (gX P R x.1++[x.2]):=by
 funext b;unfold upd gX;rw[kY,vH];by_cases a:b=x.1
 ·subst a;rw[bg rfl,bg rfl,append_assoc]
 ·rw[bh a,bh a,append_nil]
theorem Hk(P:List (Nat×PI))(W:Nat->Nat)(x:Nat×PI):nU (P++[x]) W=upd (nU P W) x.1 (nU P W x.1+1):=by
 funext b;unfold upd nU;rw[kY,vH,aH];by_cases a:b=x.1
 ·subst a;rw[bg rfl,bg rfl];simp;omega
 ·rw[bh a,bh a];simp
theorem DC(s:Nat)(f:Fl)(R:Nat->List PI)(W:Nat->Nat)(r:PI)(a:PK)(c:Nat)(w:World)(hs:s<f.n)(F:f.Z s=false)(j:Drz B w f R W)(G:Rd w w.heap.size a 64 (bF r))(P:a=none->c=0)(Q:(R s).length<f.room s)(S:f.room s<=512):
 Calls prog 136 #[pointer (some ⟨f.D s,0,none⟩),slice a 64 c] w λb x=>b=returned (int i64 0)/\Drz B x f (upd R s (R s++[r])) (upd W s (W s+1))/\ChgD B w x:=by
 obtain⟨y,⟨H,o,p,z⟩,I,A⟩:=j;have q:=λd g=>(o d g).ty;have m:=λd g=>(o d g).oty
 obtain⟨J,K,L,X,k,T⟩:DrW w (f.D s) f.p (f.room s) (R s) (W s) (H s):=by
  rcases o s hs with⟨b,-⟩ | ⟨-,j⟩
  ·rw[F] at b;cases b
  ·exact j
 refine(FW (f.D s) f.p (f.room s) (W s) J (R s) r a c w K L y G P Q S (by omega)).mono ?_;rintro b x ⟨rfl,M,U,V,C,D⟩;have E:∀h,(h=f.D s\/some h=J.ownBlock)->Md w h:=λh t=>t.elim (λb=>.inl (b▸q s hs)) λb=>.inr (m s hs h (k.symm.trans b.symm));refine⟨rfl,⟨Blk.chg y C λl=>Md.not (Blk.ty y) (by decide) (by decide) (E _ l),⟨upd H s M.ownBlock,λd g=> ?_,λd n h g u v e i=> ?_,λd h g e=> ?_⟩,I,A⟩,C.mono λN _ O=>⟨O.elim (λb=>by rw[b];exact A s hs) λb=>z s N hs (k.symm.trans b.symm),E N O⟩⟩
 ·by_cases b:d=s
  ·subst b
   rw[upd_same,upd_same,upd_same];refine .inr ⟨F,M,U,V,by rw[aH,length_singleton];omega,rfl,λN O=> ?_⟩;rcases bz.1 O with j | j
   ·exact T N j
   ·rw[mem_singleton.1 j]
    have:=G.len
    rwa [bG] at this
  ·rw[upd_ne _ _ b,upd_ne _ _ b,upd_ne _ _ b]
   refine(o d g).chg C (λl=> ?_) (λh t l=> ?_) λh l N=>Md.not N (by decide) (by decide) (E h l)
   ·rcases l with e | e
    ·exact I d s g hs b e
    ·exact(q d g).ne (m s hs _ (k.symm.trans e.symm)) (by decide)
   ·rcases l with e | e
    ·subst e;exact(q s hs).ne (m d g _ t) (by decide)
    ·exact p d s h g hs b t (k.symm.trans e.symm)
 ·by_cases l:d=s
  ·subst l
   rw[upd_same] at e;rw[upd_ne _ _ (Ne.symm v)] at i;rcases D with b | ⟨t,b,N⟩
   ·exact p d n h g u v (k.symm.trans (b▸e)) i
   ·rw[e] at b
    injection b with b;have:=(m n u h i).lt;omega
  ·rw[upd_ne _ _ l] at e
   by_cases O:n=s
   ·subst O
    rw[upd_same] at i;rcases D with b | ⟨t,b,N⟩
    ·exact p d n h g u v e (k.symm.trans (b▸i))
    ·rw[i] at b
     injection b with b;have:=(m d g h e).lt;omega
   ·rw[upd_ne _ _ O] at i
    exact p d n h g u v e i
 ·by_cases l:d=s
  ·subst l
   rw[upd_same] at e;rcases D with b | ⟨t,b,N⟩
   ·exact z d h g (k.symm.trans (b▸e))
   ·rw[e] at b
    injection b with b;have K:=(q d g).lt;have L:=A d g;omega
  ·rw[upd_ne _ _ l] at e
   exact z d h g e
theorem KM(s:Nat)(f:Fl)(R:Nat->List PI)(W:Nat->Nat)(w:World)(hs:s<f.n)(n:f.Z s=false)(k:Drz B w f R W):
 Calls prog 204 #[pointer (some ⟨f.D s,0,none⟩)] w λa l=>a=returned (int i64 0)/\Drz B l f R (upd W s 0)/\ChgD B w l:=by
 obtain⟨m,⟨o,i,u,v⟩,p,q⟩:=k;have d:=λb c=>(i b c).ty;have x:=λb c=>(i b c).oty
 obtain⟨r,y,t,D,z,A⟩:DrW w (f.D s) f.p (f.room s) (R s) (W s) (o s):=by
  rcases i s hs with⟨a,-⟩ | ⟨-,k⟩
  ·rw[n] at a;cases a
  ·exact k
 refine(ND (f.D s) f.p (f.room s) (W s) r w y m).mono ?_;rintro a l ⟨rfl,C,j⟩;refine⟨rfl,⟨Blk.chg m j λa=>(Blk.ty m).ne (a▸d s hs) (by decide),⟨o,λb c=> ?_,u,v⟩,p,q⟩,j.mono λe _ a=>⟨by rw[a];exact q s hs,.inl (a▸d s hs)⟩⟩;by_cases a:b=s
 ·subst a
  rw[upd_same];exact .inr ⟨n,r,C,t.chg j (λe g a=>(t.ownTy e g).ne (a▸d b c) (by decide)) (λe a g=>g.ne (a▸d b c) (by decide)),bu _,z,A⟩
 ·rw[upd_ne _ _ a]
  exact(i b c).chg j (λh=>p b s c hs a h) (λe g h=>(x b c e g).ne (h▸d s hs) (by decide)) (λe h g=>g.ne (h▸d s hs) (by decide))
def iD(L:PI)(W:Nat->Nat):Nat->Nat:=λa=>if a∈L then 0 else W a
theorem DD(L:PI)(W:Nat->Nat)(x:Nat):iD (L++[x]) W=upd (iD L W) x 0:=by
 funext c;unfold upd iD;by_cases b:c=x
 ·subst b;rw[bg rfl,bg (by simp)]
 ·rw[bh b]
  by_cases a:c∈L
  ·rw[bg a,bg (by simp[a])]
  ·rw[bh a,bh (by simp[a,b])]
theorem Hl(W:Nat->Nat):iD [] W=W:=by funext a;unfold iD;rw[bh (by simp)]
theorem Hm{L a:PI}(b:∀x,x∈L↔x∈a)(W:Nat->Nat):iD L W=iD a W:=by
 funext c;unfold iD;simp only[b c]
theorem Pq(L:PI)(F:Nat->Prop)(a:PK)(n c:Nat)(g:Nat)(f:Fl)(R:Nat->List PI)(W:Nat->Nat)(w:World)(h:Drz B w f R W)(A:StB w g f)(i:(rI L).ok w F [slice a n c])(s:L.length=n)(C:0<n)(t:n<=100000)(D:∀x∈L,x<f.n/\f.Z x=false)(N:f.n<=64):
 Calls prog 137 #[.func (.func 38) #[pointer (some ⟨g,0,none⟩)] #[],slice a n c] w λj b=>j=returned (int i64 0)/\Drz B b f R (iD L W)/\ChgD B w b:=by
 have b:=ae (ll L F a n c w i s t);have q:=ae s;have r:=ae D;have k:=ae h;have E:=ae A;clear h i s D A;go_enter func137,ntmps137;go_wp2_with fail;refine b.o.mono ?_;rintro j O ⟨v1,rfl,l,e⟩;obtain⟨u,v,rfl⟩:=l.lenA;rw[q.o] at l ⊢;have d:=ae (Ga L w.heap.size n v u O l e.size C t);have m:=ae e;clear l e b;go_wp2_with fail;refine d.o.mono ?_;rintro j P ⟨rfl,l,e⟩;have b:=ae (m.o.trans e);have G:=ae (yu (L.mergeSort leB) w.heap.size n v u P l b.o.size C t);clear l e d m;go_wp2_with fail;refine G.o.mono ?_;rintro j m ⟨d,o,rfl,H,aa,p,I,J,e⟩;have y:=ae (b.o.trans e);have K:PH (Drz B m f R (iD (d.take 0) W)):=ae (by rw[take_zero,Hl];exact k.o.below y.o);have Q:=ae (E.o.below y.o);have S:PH ((rI d).ok m (Fd m) [slice u o v]):=ae ((rI d).more J λT e _=>Md.not e (by decide) (by decide));have U:PH (∀x∈d,x<f.n/\f.Z x=false):=ae λx i=>r.o x ((fG L).mem_iff.1 (p x i));have V:PH (iD d W=iD L W):=ae (Hm (λx=>⟨λi=>(fG L).mem_iff.1 (p x i),λi=>I x ((fG L).mem_iff.2 i)⟩) W);have M:PH (ChgD B m m):=ae (Chg.refl _ _);have z:=ae H;clear H p I J e G b k r q E;go_wp2_with fail;go_loopw [15] (λp wr=>∃b:Nat,b<=o/\p=int i64 b/\PH (Drz B wr f R (iD (d.take b) W))/\PH (ChgD B m wr)) (λp _=>o-(intOf p).toNat)
 case atStart=>exact⟨0,by omega,rfl,K,M⟩
 case round=>
  clear K M;obtain⟨b,ab,rfl,k,q⟩:=hrel;by_cases X:b<o
  ·have ac:(b:Int)<(o:Int):=by omega
   have p:b<d.length:=(by rw[z.o];exact X);obtain⟨a',c',j,E,-⟩:=dI ((rI d).chgD S.o q.o) z.o;injection j with Y e2 Z;subst Y Z;obtain⟨T,ad,rfl,e,G⟩:=E.2 (by omega);have cq:=G b (int i64 (d.getD b 0:Nat)) (bT p);have r:=U.o (d.getD b 0) (by rw[af,ah p];exact aQ p)
   have H:PH (iD (d.take (b+1)) W=upd (iD (d.take b) W) (d.getD b 0) 0):=ae (by
    rw[aN p,DD,af,ah p];rfl)
   generalize d.getD b 0=x at*;have I:=ae (tC x g f wr (Q.o.chgD q.o) r.1 N);have J:=ae (KM x f R (iD (d.take b) W) wr r.1 r.2 k.o);generalize f.D x=dx at*;clear G E r p;go_wp2_with fail;refine I.o.mono ?_;rintro j wx ⟨rfl,rfl⟩;go_wp2_with fail;refine J.o.mono ?_;rintro j w5 ⟨rfl,p,r⟩;rw[<-H.o] at p;have E:=ae p;have G:=ae (q.o.trans r);clear p r I J k q H;go_wp2_with fail;go_roundw
   case rel=>exact⟨b+1,by omega,by go_num,E,G⟩
   case measure=>simp[intOf];omega
  ·obtain rfl:b=o:=by omega
   rw[aJ (by rw[z.o];exact aj _),V.o] at k;go_wp2_with fail;go_ret;exact⟨rfl,k.o,(ChgD.below y.o).trans q.o⟩
theorem KN(P:List (Nat×PI))(a:PK)(n c:Nat)(g:Nat)(f:Fl)(m:cQ)(R:Nat->List PI)(w:World)(h:Stq B w g f m R)(p:(rS 2 (P.map cZ)).ok w (Fd w) [slice a n c])(Q:P.length=n)(h0:0<n)(hn:n<=100000)
 (S:∀x∈P,(x.1<f.n/\f.Z x.1=false)/\x.2.length=64)(T:∀i,i<f.n->(R i).length+(eu P i).length<=f.room i/\f.room i<=512):
 Calls prog 72 #[.func (.func 38) #[pointer (some ⟨g,0,none⟩)] #[],slice a n c] w λe o=>e=returned (int i64 0)/\Stq B o g f m (gX P R)/\ChgD B w o:=by
 have r:=ae Q;have U:=ae S;have HX:=ae p;have an:=ae T;have ao:=ae h;have V:=ae h.sb;have W:=h.n0.2
 have X:PH (Drz B w f (gX (P.take 0) R) (nU (P.take 0) (λ_=>0))):=ae (by
  have z:gX (P.take 0) R=R:=(by funext i;unfold gX eu;simp);have s:nU (P.take 0) (λ_=>0)=λ_=>0:=(by funext i;unfold nU eu;simp);rw[z,s];exact h.drs)
 have Y:PH (ChgD B w w):=ae (Chg.refl _ _);have Z:PH (OwnI w w.heap.size (slice none 0 0) ((P.take 0).map Prod.fst)):=ae (OwnI.nil _ _);clear h p Q S T;go_enter func72,ntmps72;go_wp2_with fail;go_loopw [5,11] (λd i wr=>∃b:Nat,b<=n/\i=int i64 b/\PH (Drz B wr f (gX (P.take b) R) (nU (P.take b) (λ_=>0)))/\PH (ChgD B w wr)/\PH (OwnI wr w.heap.size d ((P.take b).map Prod.fst))) (λ_ i _=>n-(intOf i).toNat)
 case atStart=>exact⟨0,by omega,rfl,X,Y,Z⟩
 case round=>
  clear X Y Z;obtain⟨b,aF,rfl,A,t,j⟩:=hrel;obtain⟨bv,nv,cv,rfl⟩:=j.o.sl;by_cases aa:b<n
  ·have aK:(b:Int)<(n:Int):=by omega
   have d:b<P.length:=(by rw[r.o];exact aa);obtain⟨D,aL,k,l,rfl,v,u,G,F,E⟩:=zM ((rS 2 _).chgD HX.o t.o) r.o aa;have ab:=U.o (P.getD b uu) (by rw[af,ah d];exact aQ d);have q:P.take (b+1)=P.take b++[P.getD b uu]:=(by rw[aN d,af,ah d];rfl);have ap:PH (gX (P.take (b+1)) R=upd (gX (P.take b) R) (P.getD b uu).1 (gX (P.take b) R (P.getD b uu).1++[(P.getD b uu).2])):=ae (by rw[q,Hj]);have aq:PH (nU (P.take (b+1)) (λ_=>0)=upd (nU (P.take b) (λ_=>0)) (P.getD b uu).1 (nU (P.take b) (λ_=>0) (P.getD b uu).1+1)):=ae (by rw[q,Hk]);have ar:PH ((P.take (b+1)).map Prod.fst=(P.take b).map Prod.fst++[(P.getD b uu).1]):=ae (by rw[q,aU];rfl);have au:((P.take b).map Prod.fst).length<=1000000:=by rw[aC,aG];omega
   have H:PH ((gX (P.take b) R (P.getD b uu).1).length<f.room (P.getD b uu).1/\f.room (P.getD b uu).1<=512):=ae (by
    have h1:=an.o _ ab.1.1;have h2:=Nr P d;unfold gX;rw[aH];unfold uu at h1 ⊢;exact⟨by omega,h1.2⟩)
   clear d q v u;generalize (P.take b).map Prod.fst=LF at*;generalize gX (P.take b) R=I at*;generalize nU (P.take b) (λ_=>0)=J at*;generalize P.getD b uu=x at*;obtain⟨d,K⟩:=x;simp only at*;obtain⟨⟨ac,av⟩,ad⟩:=ab;rw[ad] at F E;have q:=(az wr.heap.size wr).alloc (aj _) (cells #[int i64 d,slice k 64 l] 165);have v:=ae (Blk.new wr 165 #[int i64 d,slice k 64 l]);have ag:=ae (A.o.below q);have L:=ae (t.o.trans (ChgD.below q));have ai:=ae (j.o.below q);have ak:=ae ((rB K).fd E q);go_upto_region 5 with fail;clear q E A t j G F;generalize wr.alloc (cells #[int i64 d,slice k 64 l] 165)=q at*;generalize wr.heap.size=E at*;have x0:q.cell? ⟨E,0,none⟩=some (int i64 d):=Blk.cell v.o 0;have x1:q.cell? ⟨E,1,none⟩=some (slice k 64 l):=Blk.cell v.o 1;have CD:=ae (tC d g f q.drew (V.o.chgD (L.o.trans (ChgD.below ((az _ _).drew)))) ac W)
   have CA:PH (Calls prog 136 #[pointer (some ⟨f.D d,0,none⟩),slice k 64 l] q.drew λe o=>e=returned (int i64 0)/\Drz B o f (upd I d (I d++[K])) (upd J d (J d+1))/\ChgD B q.drew o):=ae (by
    obtain⟨a3,c3,e,aw,ax,-⟩:=fC ak.o ad;injection e with z s e3;subst z e3;exact DC d f I J K k l q.drew ac av (ag.o.below ((az _ _).drew)) (aw.below ((az _ _).drew) (aj _)) ax H.o.1 H.o.2)
   generalize f.D d=dx at*
   go_region_law (first
    | (have aM:=ay
       go_simp;go_at_call 136;refine CA.o.mono ?_;rintro e F ⟨rfl,N,o⟩;have al:=ae N;have M:=ae (L.o.trans ((ChgD.below ((az _ _).drew)).trans o));have G:=ae ((ai.o.below ((az _ _).drew)).chgD o);have am:PH (Blk F E 165 #[int i64 d,slice k 64 l]):=ae (Blk.chg v.o ((ChgD.below ((az _ _).drew)).trans o) (λO=>Md.not (Blk.ty v.o) (by decide) (by decide) O.2));clear N o;go_simp)
    | (go_simp
       go_at_call 38;refine CD.o.mono ?_;rintro e wx ⟨rfl,rfl⟩;have ay:=True.intro;go_simp))
   all_goals(
    clear CD CA x0 x1 ag L ai ak v H;have y0:F.cell? ⟨E,0,none⟩=some (int i64 d):=Blk.cell am.o 0;have aA:w.heap.size<=F.heap.size:=M.o.size
    go_wp2_with (at_builtin;refine Gh (w:=F) (C:=w.heap.size) (y:=d) rfl _ _ rfl rfl G.o aA au rfl rfl ?_)
    intro v4 w4 N O;rw[<-ar.o] at N;have aB:=ae N;have aD:PH (Drz B w4 f (gX (P.take (b+1)) R) (nU (P.take (b+1)) (λ_=>0))):=ae (by rw[ap.o,aq.o];exact al.o.chgTy O (λD u=>G.o.ty D u.symm) (by decide));have aE:=ae (M.o.newer O λD u=>(G.o.ltA D u.symm).1);clear N O al M G am y0;go_wp2_with fail;go_roundw
    case rel=>exact⟨b+1,by omega,by go_num,aD,aE,aB⟩
    case measure=>simp[intOf];omega)
  ·obtain rfl:b=n:=by omega
   have k:PH (P.take b=P):=ae (aJ (by rw[r.o];exact aj _));rw[k.o] at A j;have l:nv=b:=by obtain⟨E,F,e⟩:=j.o.lenA;injection e with z s e3;rw[aC,r.o] at s;exact s
   have d:=ae (Pq (P.map Prod.fst) (Fr w.heap.size) bv nv cv g f (gX P R) (nU P (λ_=>0)) wr A.o (V.o.chgD t.o) (gH j.o) (by rw[aC,r.o,l]) (by omega) (by omega)
    (λx p=>by obtain⟨y,q,rfl⟩:=aY.1 p;exact(U.o y q).1) W)
   have u:PH (iD (P.map Prod.fst) (nU P (λ_=>0))=λ_=>0):=ae (by
    funext i;unfold iD;split
    ·rfl
    ·rename_i v
     unfold nU eu
     rw[filter_eq_nil_iff.2 λx p D=>v (by have:x.1=i:=by simpa using D
                                          rw[<-this];exact mem_map_of_mem p)]
     rfl)
   rw[u.o] at d;clear j k l;go_wp2_with fail;refine d.o.mono ?_;rintro e D ⟨rfl,k,o⟩;have l:=ae (t.o.trans o);have v:=ae k;clear k o d;go_wp2_with fail;go_ret;exact⟨rfl,ao.o.chgD l.o v.o,l.o⟩
end
section
variable {B:Nat}
def uY(n:Nat):Nat:=(n+47)/48
def kR(m:cQ)(i:Nat):PI:=xp m.seq i (uY (eF m).length) (((eF m).drop (48*i)).take 48)
def bJ(m:cQ):List PI:=(range (uY (eF m).length)).map (kR m)
def jV(m:cQ):Prop:=1<=(eF m).length/\(eF m).length<=12000/\By (eF m)
theorem eM(m:cQ):(bJ m).length=uY (eF m).length:=by unfold bJ;rw[aC,aZ]
theorem jK(m:cQ)(i:Nat):(kR m i).length=64:=by
 unfold kR xp;refine gA ?_;rw[aH,aH,cH];simp;omega
def lN(m:cQ)(L:PI):List (Nat×PI):=(L.map λa=>(bJ m).map λb=>(a,b)).flatten
theorem J4(m:cQ)(L:PI)(s:Nat):lN m (L++[s])=lN m L++(bJ m).map λa=>(s,a):=by
 unfold lN;rw[aU,flatten_append];simp
theorem Av(m:cQ)(L:PI):(lN m L).length=L.length*uY (eF m).length:=by
 unfold lN
 induction L with
 | nil=>simp
 | cons b L a=>rw[map_cons,flatten_cons,aH,a,aC,eM,length_cons,Nat.succ_mul,Nat.add_comm]
theorem jo{m:cQ}(a:jV m):1<=uY (eF m).length/\uY (eF m).length<=250:=by
 have b:=a.1;have c:=a.2.1;unfold uY;omega
theorem ED{m:cQ}(b:jV m)(L:PI):L.length<=(lN m L).length/\(lN m L).length<=L.length*250:=by
 have a:=jo b;rw[Av];exact⟨Nat.le_mul_of_pos_right _ a.1,Nat.mul_le_mul_left _ a.2⟩
theorem J5{m:cQ}(g:jV m)(L:PI):∀x∈lN m L,x.1∈L/\x.2.length=64:=by
 intro x a;obtain⟨h,b,c⟩:=mem_flatten.1 a;obtain⟨i,d,rfl⟩:=aY.1 b;obtain⟨j,e,rfl⟩:=aY.1 c;obtain⟨f,_,rfl⟩:=aY.1 e;exact⟨d,jK m f⟩
theorem nz(m:cQ){L:PI}(f:L.Nodup)(i:Nat):eu (lN m L) i=if i∈L then bJ m else []:=by
 induction L with
 | nil=>rfl
 | cons b L g=>
   obtain⟨h,j⟩:=nodup_cons.1 f;have d:lN m (b :: L)=((bJ m).map λc=>(b,c))++lN m L:=(by unfold lN;rw[map_cons,flatten_cons]);rw[d,kY,g j]
   have k:eu ((bJ m).map λc=>(b,c)) i=if i=b then bJ m else []:=by
    unfold eu;by_cases a:i=b
    ·subst a
     rw[bg rfl,filter_eq_self.2 (λl e=>by obtain⟨c,_,rfl⟩:=aY.1 e;simp),map_map];exact map_id _
    ·rw[bh a,filter_eq_nil_iff.2 (λl e=>by obtain⟨c,_,rfl⟩:=aY.1 e;simpa using Ne.symm a)];rfl
   rw[k];by_cases a:i=b
   ·subst a
    rw[bg rfl,bh h,bg (mem_cons_self ..),append_nil]
   ·rw[bh a,nil_append]
    by_cases c:i∈L
    ·rw[bg c,bg (mem_cons_of_mem _ c)]
    ·rw[bh c,bh (λd=>(mem_cons.1 d).elim a c)]
theorem nC(m:cQ)(l o:PK)(j p k q:Nat)(F:Nat->Prop)(w:World)(D:(rI m.drives).ok w F [slice l j p])(S:m.drives.length=j)(E:(rS 4 (m.objs.map bQ)).ok w F [slice o k q])(T:m.objs.length=k)(M:il m)(x:jV m):
 Calls prog 69 #[.agg (bV m (slice l j p) (slice o k q))] w λd i=>∃v,d=returned v/\OwnS i w.heap.size 30 1 (Ty 5 i) v ((bJ m).map rB)/\Below w.heap.size w i:=by
 have r:PH (Sx w (w.alloc (cells (bV m (slice l j p) (slice o k q)) 68)) [bS w.heap.size 68 (bV m (slice l j p) (slice o k q)),eR F (slice l j p) (rI m.drives),eR F (slice o k q) (rS 4 (m.objs.map bQ))]):=
  ae (((((Sx.nil w).add (eR F (slice o k q) (rS 4 (m.objs.map bQ))) E).add (eR F (slice l j p) (rI m.drives)) D).alloc _).add (bS _ _ _) (Blk.new w _ _))
 have t:=ae λw (D:(rI m.drives).ok w F [slice l j p]) (E:(rS 4 (m.objs.map bQ)).ok w F [slice o k q])=>GN m l o j p k q F w D S E T M;have u:m.seq<4294967296:=by have:=M.1;omega
 have ak:=ae u;obtain⟨g,b⟩:∃g,(eF m).length=g:=⟨_,rfl⟩;have al:=x.2.1;have am:=x.1;have f:=jo x;have s:=eM m;rw[b] at al am f s;obtain⟨c,e⟩:∃c,uY g=c:=⟨_,rfl⟩;have y:c=(g+47)/48:=e.symm;rw[e] at f s;have an:PH (∀a,kR m a=xp m.seq a c (((eF m).drop (48*a)).take 48)):=ae λa=>by unfold kR;rw[b,e]
 have ao:PH (bJ m=(range c).map (kR m)):=ae (by unfold bJ;rw[b,e]);have aq:=ae x.2.2;have G:=ae b;have A:PH (((g:Int)+47)/48=(c:Int)):=ae (by omega);have z:PH (((g:Int)+48-1)/48=(c:Int)):=ae (by omega);have ar:=ae (And.intro y f);have aT:(c:Int)<=250:=by omega
 have aV:(0:Int)<=(c:Int):=by omega
 have aX:wrap64 (c:Int)=(c:Int):=by unfold wrap64;omega
 unfold bV at*;clear D E M b T S u x e y s f;go_enter func69,ntmps69;go_wp2_with fail;generalize w.alloc (cells #[int i64 m.seq,int i64 m.next,int i64 m.K,int i64 m.H,int i64 m.Z,int i64 m.extra,slice l j p,slice o k q] 68)=w0 at*;refine(t.o _ (r.o.rep 1 rfl) (r.o.rep 2 rfl)).mono ?_;rintro d f ⟨v1,rfl,b,N⟩;have O:=ae (r.o.step N);obtain⟨P,y,d,s,u⟩:=b.form (by rw[G.o];omega);rw[G.o] at d;subst d;obtain⟨-,au,-⟩:=b.caps;have av:=ae b;generalize e:w.heap.size=U at*;have HG:=ae e;clear e N b r t s u;have Q:f.cell? ⟨U,0,none⟩=some (int i64 m.seq):=(O.o.blk 0 rfl).cell 0;have V:PH (OwnS f f.heap.size 30 1 (Ty 5 f) (slice none 0 0) (((range 0).map (kR m)).map rB)):=ae (OwnS.nil _ _ _ _ _);have W:=ae (az f.heap.size f);go_wp2_with fail;clear Q;rw[z.o];clear A z;go_loopw [5,16] (λv a wr=>∃b:Nat,b<=c/\a=int i64 b/\PH (OwnS wr f.heap.size 30 1 (Ty 5 wr) v (((range b).map (kR m)).map rB))/\PH (Below f.heap.size f wr)) (λ_ a _=>c-(intOf a).toNat)
 case atStart=>exact⟨0,by omega,rfl,V,W⟩
 case round=>
  clear V W;obtain⟨b,a0,rfl,z,A⟩:=hrel;obtain⟨H,I,J,rfl⟩:=z.o.sl;have X:=ae (O.o.step A.o);by_cases a3:b<c
  ·have a5:(b:Int)<(c:Int):=by omega
   have u:=ar.o;obtain⟨a,s⟩:∃a,a=48*b:=⟨_,rfl⟩;obtain⟨e,K⟩:∃e,e=min g (48*b+48):=⟨_,rfl⟩;have ac:a<=e/\e<=g/\e-a<=48:=(by omega);have aw:IntKind.i64.wrap ((b:Int)*48)=(a:Int):=(by rw[IntKind.wrap_i64];omega);have a6:IntKind.i64.wrap (a:Int)=(a:Int):=(by rw[IntKind.wrap_i64];omega);have a7:(b:Int)*48=(a:Int):=(by omega);have ax:min (g:Int) (((b:Int)+1)*48)=(e:Int):=(by omega);have ay:min (g:Int) ((b:Int)*48+48)=(e:Int):=(by omega);have N:(a:Int)<=(e:Int):=(by omega);have a8:(e:Int)<=(y:Int):=(by omega);have r:(0:Int)<=(a:Int):=(by omega);have aA:¬y=a:=(by omega);have a9:¬(y:Int)=(a:Int):=by omega
   have Y:PH (Calls prog 125 #[int i64 m.seq,int i64 b,int i64 c,slice (some ⟨P,a,none⟩) (e-a) (y-a)] wr.drew λd i=>∃t,d=returned (slice (some ⟨t,0,none⟩) 64 64)/\wr.drew.heap.size<=t/\Blk i t 5 (bK (kR m b))/\Below wr.drew.heap.size wr.drew i):=ae (by
    obtain⟨ap,bb,d,aB,-⟩:=av.o.rd2 G.o;injection d with e1 _ e3;subst e1 e3;have Z:=KI (aB.below A.o (aj _)) au (lo:=a) (n:=e-a) (by omega);rw[bh aA,show(Option.map (λi:Addr=>i.add a) (some ⟨P,0,none⟩))=some ⟨P,a,none⟩ by simp[Addr.add_lit]] at Z
    rw[an.o,show((eF m).drop (48*b)).take 48=((eF m).drop a).take (e-a) by
     rw[<-s];have h1:((eF m).drop a).length=g-a:=(by rw[length_drop,G.o]);rcases bq (g-a) 48 with h | h
     ·rw[aJ (by omega),aJ (by omega)]
     ·congr 1;omega]
    exact J7 m.seq b c (((eF m).drop a).take (e-a)) _ (e-a) (y-a) wr.drew ak.o (by omega) (by omega) (Z.more A.o.size) (λi hx=>aq.o i (mem_of_mem_drop (bD hx))) (by omega) (λd=>by cases d))
   have aD:PH (((range (b+1)).map (kR m)).map rB=((range b).map (kR m)).map rB++[rB (kR m b)]):=ae (by rw[range_succ,aU,aU];rfl);have aE:(((range b).map (kR m)).map rB).length<=1000000:=(by rw[aC,aC,aZ];omega);have aa:=ae A.o.size;have Q:wr.cell? ⟨U,0,none⟩=some (int i64 m.seq):=(X.o.blk 0 rfl).cell 0;have ab:=ae (jK m b);clear s K ac u;generalize kR m b=ac at*;generalize ((range b).map (kR m)).map rB=LL at*;go_upto_region 8 with fail
   go_region_law (first
    | (change (if _=true then Oper.wp _ (Oper.mk (some 37) _ _ _ _ _) _ _ _ _ else _)
       refine mR (w:=s) (C:=f.heap.size) (F:=Ty 5 s) (v:=slice H I J) (L:=LL) (R:=rB ac) rfl _ _ rfl underlying45 dA rfl (by decide) (by decide) ad.o aF aE aK.o rfl rfl rfl ?_;intro v4 w4 K ag aL ai aM;obtain⟨a4,n4,c4,rfl⟩:=K.sl;rw[<-aD.o] at K;have aO:PH (OwnS w4 f.heap.size 30 1 (Ty 5 w4) (slice a4 n4 c4) (((range (b+1)).map (kR m)).map rB)):=ae (K.reTy λi u=>ai i u.lt λd=>u.ne (ad.o.ownTy i d.symm) (by decide));have aR:=ae (aS.o.trans ag);clear K ag aL ai aM)
    | (go_simp
       go_at_call 125;refine Y.o.mono ?_;rintro d s ⟨t,rfl,hg,K,r⟩;replace r:=bP r;have aF:f.heap.size<=s.heap.size:=aP aa.o r.size;have aS:=ae (A.o.trans (r.mono aa.o));have ad:PH (OwnS s f.heap.size 30 1 (Ty 5 s) (slice H I J) LL):=ae ((z.o.new r).reTy λi u=>r.block i u.lt)
       have aK:PH ((rB ac).ok s (λi=>Ty 5 s i/\some i≠(Value.slice H I J).ownBlock) [slice (some ⟨t,0,none⟩) 64 64]):=ae (by
        have h:=mq (F:=λi=>Ty 5 s i/\some i≠(Value.slice H I J).ownBlock) K ⟨Blk.ty K,λd=>by have h1:=(z.o.lt t d.symm).2;have h2:wr.heap.size<=t:=hg;omega⟩ (by rw[ab.o];unfold maxLen;omega);rw[ab.o] at h;exact h)
       clear hg K r;go_simp))
   all_goals(
    clear Y Q ax ay aw;go_wp2_with fail;go_roundw
    case rel=>exact⟨b+1,by omega,by go_num,aO,aR⟩
    case measure=>simp[intOf];omega)
  ·obtain rfl:b=c:=by omega
   rw[<-ao.o] at z;go_wp2_with fail;go_ret;exact⟨_,rfl,z.o.base O.o.1.size λi u=>u,X.o.1⟩
theorem MJ{w:World}{C:Nat}{e:TypeId}{F:Nat->Prop}{v:Value}{L:List Rp}(a:OwnS w C e 1 F v L){i:Nat}{R:Rp}(b:L[i]? =some R):∃g c u,v=slice (some ⟨g,0,none⟩) L.length c/\g<w.heap.size/\w.cell? ⟨g,i,none⟩=some u/\R.ok w (λd=>F d/\some d≠v.ownBlock) [u]:=by
 have k:=a.lt
 have p:i<L.length:=by
  rcases bq i L.length with a | a
  ·exact a
  ·rw[List.getElem?_eq_none a] at b;cases b
 obtain⟨d,f,l⟩:=a;have q:d.length=L.length:=by have:=f.1;omega
 have h:=(l i R b);rw[Nat.mul_one] at h
 have m:(d.drop i).take 1=[d[i]'(by omega)]:=by
  rw[drop_eq_getElem_cons (by omega)];rfl
 rw[m] at h;rcases f.2 with⟨_,n⟩ | ⟨g,o,r,rfl,_,s,_⟩
 ·exact absurd n (by omega)
 ·have j:=f.cells (g:=g) rfl i _ (ah (by omega))
  rw[Addr.add_lit,Nat.zero_add] at j;exact⟨g,o,_,rfl,(k g rfl).2,j,h⟩
theorem EE(m:cQ)(o q:PK)(g r j s:Nat)(F:Nat->Prop)(w:World)(E:(rI m.drives).ok w F [slice o g r])(W:m.drives.length=g)(G:(rS 4 (m.objs.map bQ)).ok w F [slice q j s])(X:m.objs.length=j)(Y:il m)(z:jV m)
 (L:PI)(a:PK)(n c:Nat)(Z:(rI L).ok w F [slice a n c])(aa:L.length=n)(hn:n<=64):
 Calls prog 73 #[.agg (bV m (slice o g r) (slice q j s)),slice a n c] w λt b=>∃v,t=returned v/\(rS 2 ((lN m L).map cZ)).ok b (Fu b) [v]/\Below w.heap.size w b:=by
 have d:PH (Sx w (w.alloc (cells (bV m (slice o g r) (slice q j s)) 68)) [bS w.heap.size 68 (bV m (slice o g r) (slice q j s)),eR F (slice o g r) (rI m.drives),eR F (slice q j s) (rS 4 (m.objs.map bQ)),eR F (slice a n c) (rI L)]):=
  ae ((((((Sx.nil w).add (eR F (slice a n c) (rI L)) Z).add (eR F (slice q j s) (rS 4 (m.objs.map bQ))) G).add (eR F (slice o g r) (rI m.drives)) E).alloc _).add (bS _ _ _) (Blk.new w _ _))
 have f:=ae λw (E:(rI m.drives).ok w F [slice o g r]) (G:(rS 4 (m.objs.map bQ)).ok w F [slice q j s])=>nC m o q g r j s F w E W G X Y z;have J:=ae aa;obtain⟨x,e⟩:∃x,(bJ m).length=x:=⟨_,rfl⟩;have al:x<=250:=by rw[<-e,eM];exact(jo z).2
 have H:=ae e
 have am:PH (∀b∈bJ m,b.length=64):=ae λb k=>by
  obtain⟨i,_,rfl⟩:=aY.1 k;exact jK m i
 have an:PH (∀b,(lN m (L.take b)).length=(L.take b).length*x):=ae λb=>by rw[Av,<-e,eM]
 unfold bV at*;clear E G Y X W Z aa z e;go_enter func73,ntmps73;go_wp2_with fail;generalize w.alloc (cells #[int i64 m.seq,int i64 m.next,int i64 m.K,int i64 m.H,int i64 m.Z,int i64 m.extra,slice o g r,slice q j s] 68)=w0 at*;refine(f.o _ (d.o.rep 1 rfl) (d.o.rep 2 rfl)).mono ?_;rintro t w1 ⟨v1,rfl,e,k⟩;have S1:=ae ((d.o.step k).cut [eR F (slice a n c) (rI L)] (by simp));obtain⟨ax,ay,rfl,-⟩:=e.val;rw[aC,H.o] at e ⊢;have ao:=ae e;have aA:w.heap.size<=w1.heap.size:=S1.o.1.size;clear k d f e;have A:PH (OwnS w1 w1.heap.size 165 2 (Ty 5 w1) (slice none 0 0) ((lN m (L.take 0)).map cZ)):=ae (OwnS.nil _ _ _ _ _);have ab:=ae (az w1.heap.size w1);go_wp2_with fail;go_loopw [6,15] (λv i wr=>∃b:Nat,b<=n/\i=int i64 b/\PH (OwnS wr w1.heap.size 165 2 (Ty 5 w1) v ((lN m (L.take b)).map cZ))/\PH (Below w1.heap.size w1 wr)) (λ_ i _=>n-(intOf i).toNat)
 case atStart=>exact⟨0,by omega,rfl,A,ab⟩
 case round=>
  clear A ab;obtain⟨b,aB,rfl,e,f⟩:=hrel;have K:=ae (S1.o.step f.o);obtain⟨M,N,O,rfl⟩:=e.o.sl;by_cases ap:b<n
  ·have aD:(b:Int)<(n:Int):=by omega
   have d:b<L.length:=(by rw[J.o];exact ap);obtain⟨a',c',t,D,-⟩:=dI (K.o.rep 0 rfl) J.o;injection t with P e2 Q;subst P Q;obtain⟨b',o',rfl,aE,I⟩:=D.2 (by omega);have S:=I b (int i64 (L.getD b 0:Nat)) (bT d)
   have HT:PH (lN m (L.take (b+1))=lN m (L.take b)++(bJ m).map λc=>(L.getD b 0,c)):=ae (by
    rw[aN d,J4,af,ah d];rfl)
   have aq:PH ((lN m (L.take b)).length<=64*250):=ae (by rw[an.o,aG];exact bn (by omega) al);have A:PH (OwnS wr w1.heap.size 165 2 (Ty 5 w1) (slice M N O) ((lN m (L.take b)++((bJ m).take 0).map λc=>(L.getD b 0,c)).map cZ)):=ae (by rw[take_zero,map_nil,append_nil];exact e.o);generalize L.getD b 0=k at*;generalize lN m (L.take b)=C at*;clear I D d e;go_wp2_with fail;clear S;go_loopw [6,21] (λv i wr=>∃d:Nat,d<=x/\i=int i64 d/\PH (OwnS wr w1.heap.size 165 2 (Ty 5 w1) v ((C++((bJ m).take d).map λc=>(k,c)).map cZ))/\PH (Below w1.heap.size w1 wr)) (λ_ i _=>x-(intOf i).toNat)
   case atStart=>exact⟨0,by omega,rfl,A,f⟩
   case round=>
    clear A f K;obtain⟨d,aF,rfl,e,f⟩:=hrel;obtain⟨M,N,O,rfl⟩:=e.o.sl;by_cases ar:d<x
    ·have aK:(d:Int)<(x:Int):=by omega
     have I:d<(bJ m).length:=(by rw[H.o];exact ar);obtain⟨gr,cr,u,t,ac,ad,S⟩:=MJ ao.o (i:=d) (R:=rB ((bJ m)[d])) (by rw[List.getElem?_map,ah I];rfl);rw[aC,H.o] at t;injection t with P _ Q;subst P Q;have ag:=am.o _ (aQ I)
     have ai:PH ((C++((bJ m).take (d+1)).map λc=>(k,c)).map cZ=(C++((bJ m).take d).map λc=>(k,c)).map cZ++[cZ (k,(bJ m)[d])]):=ae (by
      rw[aN I,aU (l:=(bJ m).take d),<-append_assoc,aU];rfl)
     have ak:((C++((bJ m).take d).map λc=>(k,c)).map cZ).length<=1000000:=(by have:=aq.o;rw[aC,aH,aC,aG];omega);generalize (bJ m)[d]=T at*;obtain⟨U,V,rfl,-⟩:=fC S ag;have av:wr.cell? ⟨gr,d,none⟩=some (slice U 64 V):=(f.o.cell (p:=⟨gr,d,none⟩) ac).trans ad;have HR:PH ((cZ (k,T)).ok wr (λD=>Ty 5 w1 D/\some D≠(Value.slice M N O).ownBlock) [int i64 k,slice U 64 V]):=ae (rY (B:=rB T) (rZ (u:=int i64 (k:Nat)) rfl) (y:=[slice U 64 V]) ((rB _).keep S λD hb hl=>⟨f.o.block D hl,hb.1,λt=>by have h1:=(e.o.lt D t.symm).1;omega⟩));have aw:=f.o.size;generalize (C++((bJ m).take d).map λc=>(k,c)).map cZ=LL at*;clear ac ad S ag I
     go_wp2_with (at_builtin;refine gT (w:=wr) (w1:=wr) rfl _ _ rfl underlying120 uV rfl (by decide) (by decide) e.o (az _ _) aw ak (R:=cZ (k,T)) HR.o rfl rfl rfl ?_)
     intro v6 w6 D I;rw[<-ai.o] at D;have S:=ae D;have ac:=ae (f.o.trans I);clear D I e HR ai f av ak;obtain⟨D,I,ad,rfl⟩:=S.o.sl;go_wp2_with fail;go_roundw
     case rel=>exact⟨d+1,by omega,by go_num,S,ac⟩
     case measure=>simp[intOf];omega
    ·obtain rfl:d=x:=by omega
     have D:PH ((bJ m).take d=bJ m):=ae (aJ (by rw[H.o];exact aj _));rw[D.o,<-HT.o] at e;go_wp2_with fail;go_roundw
     case rel=>exact⟨b+1,by omega,by go_num,e,f⟩
     case measure=>simp[intOf];omega
  ·obtain rfl:b=n:=by omega
   have D:PH (L.take b=L):=ae (aJ (by rw[J.o];exact aj _));rw[D.o] at e;go_wp2_with fail;go_ret;refine⟨_,rfl,?_,K.o.1⟩;exact(e.o.base (aj _) λd z=>Mt.not (Ty.keep z (f.o.block d z.lt)) (by decide) (by decide) (by decide)).repU (by decide)
end
section
variable {B:Nat}
theorem KR{w:World}{g p:Nat}{m:cQ}{d e b c:Value}{x:Nat->Value}{a:cQ}(f:Blk w g 96 (((((((((oC m d e p x).setIfInBounds 0 (int i64 a.seq)).setIfInBounds 1 (int i64 a.next)).setIfInBounds 2 (int i64 a.K)).setIfInBounds 3 (int i64 a.H)).setIfInBounds 4 (int i64 a.Z)).setIfInBounds 5 (int i64 a.extra)).setIfInBounds 6 b).setIfInBounds 7 c)):Blk w g 96 (oC a b c p x):=by
 have h:((((((((oC m d e p x).setIfInBounds 0 (int i64 a.seq)).setIfInBounds 1 (int i64 a.next)).setIfInBounds 2 (int i64 a.K)).setIfInBounds 3 (int i64 a.H)).setIfInBounds 4 (int i64 a.Z)).setIfInBounds 5 (int i64 a.extra)).setIfInBounds 6 b).setIfInBounds 7 c=oC a b c p x:=by
  unfold oC;apply Array.ext';simp
 rw[h] at f;exact f
theorem Stq.other{w w':World}{g:Nat}{f:Fl}{m c:cQ}{R:Nat->List PI}{d e:Value}(o:Stq B w g f m R)(h:Chg (·=g) w w')(b:Blk w' g 96 (oC c d e f.p (dpt f)))(p:(rI c.drives).ok w (Fu w) [d])(q:(rS 4 (c.objs.map bQ)).ok w (Fu w) [e])(r:c.drives=range f.n):Stq B w' g f c R:=by
 obtain⟨s,⟨v,x,j,-⟩,-,u⟩:=o;have k:∀a,Fu w a->a≠g:=λa b i=>b (.inr (.inr (i▸Blk.ty j)));have l:∀a,Fu w a->a<w.heap.size->w'.heap[a]? =w.heap[a]? /\Fu w' a:=λa b n=>⟨h.block a n (k a b),b.keep (h.block a n (k a b))⟩;exact⟨s.chgTy (t:=96) h (λa i=>i▸Blk.ty j) (by decide),⟨d,e,b,(rI _).keep p l,(rS 4 _).keep q l⟩,r,u⟩
end
section
variable {B:Nat}
theorem Br:zeroCells96= #[int i64 0,int i64 0,int i64 0,int i64 0,int i64 0,int i64 0,slice none 0 0,slice none 0 0,pointer none,int i64 0]++Array.replicate 64 (pointer none):=by kernel_rfl
theorem Iu{j k l m n o p q s t a b c d b4 e f g h i:Value}{r:Array Value}:
 ((((((((((#[j,k,l,m,n,o,p,q,s,t]++r).setIfInBounds 0 a).setIfInBounds 1 b).setIfInBounds 2 c).setIfInBounds 3 d).setIfInBounds 4 b4).setIfInBounds 5 e).setIfInBounds 6 f).setIfInBounds 7 g).setIfInBounds 8 h).setIfInBounds 9 i= #[a,b,c,d,b4,e,f,g,h,i]++r:=by
 apply Array.ext';simp
theorem xR(k:Nat)(w:World)(F:Nat->Prop):(rS k (([]:List cN).map bQ)).ok w F [slice none 0 0]:=
 ⟨none,0,0,rfl,aj _,bu _,λ_=>rfl,rfl,[],by simp,λa=>absurd a (by omega),λb c a=>by simp at a⟩
end
section
variable {B:Nat}
theorem Gc(q:Nat)(D:Nat->Nat)(x:Nat):(λa=>if a=q then Value.pointer (some ⟨x,0,none⟩) else yS q D a)=yS (q+1) (upd D q x):=by
 funext a;unfold yS upd;by_cases b:a=q
 ·subst b;rw[bg rfl,bg (by omega),bg rfl]
 ·rw[bh b]
  by_cases c:a<q
  ·rw[bg c,bg (by omega),bh b]
  ·rw[bh c,bh (by omega)]
theorem lm{n k:Nat}(a:k<n):(range n).getD k 0=k:=by
 rw[af,ah (by rw[aZ];exact a),getElem_range];rfl
def ed(K H Z ex n:Nat):cQ:=⟨1,0,K,H,Z,ex,range n,[]⟩
theorem uP{n:Nat}(d:n<=64):xx 63 (range n)=true:=by
 unfold xx;rw[all_eq_true];intro b a;rw[aZ] at a;have a:=bA.1 a;rw[lm a,Bool.and_eq_true];refine⟨bf (by omega),?_⟩;by_cases c:b=0
 ·subst c;rfl
 ·rw[Bool.or_eq_true]
  exact .inr (bf (by rw[lm (show b-1<n by omega)];omega))
theorem iy{a b:PI}(d:By a)(e:By b):By (a++b):=λc f=>(bz.1 f).elim (d c) (e c)
theorem O1{K H Z ex n:Nat}(b:fB K H Z=true)(c:ex<=16)(a:n<=64):il (ed K H Z ex n):=
 ⟨⟨aj _,by show(1:Nat)<=2147483647;omega⟩,by show(0:Nat)<=16777216;omega,b,c,⟨uP a,by show(range n).length<=64;rw[aZ];exact a⟩,by show(0:Nat)<=12;omega,λe d=>(by simp[ed] at d),λd e=>(by simp[ed] at e),λd f _ e=>(by simp[ed] at e)⟩
theorem Ac(m:cQ):(eF m).length=14+m.drives.length+(m.objs.map kx).flatten.length:=by
 unfold eF;simp[cH];omega
theorem Ad{n:Nat}(b:n<=64):By (range n):=λc a=>by have:=bA.1 a;omega
theorem okPgN{K H Z ex n:Nat}(c:fB K H Z=true)(e:ex<=16)(d:n<=64):jV (ed K H Z ex n):=by
 have f:=ba c;have g:=Ac (ed K H Z ex n);have h:(ed K H Z ex n).drives.length=n:=aZ;have i:((ed K H Z ex n).objs.map kx).flatten.length=0:=rfl;refine⟨by omega,by omega,?_⟩;unfold eF;refine iy (iy (iy (iy (iy (eY _ _) (eY _ _)) ?_) (Ad d)) ?_) ?_
 ·intro b a
  simp only[mem_cons,not_mem_nil,or_false] at a;have:(ed K H Z ex n).K=K/\(ed K H Z ex n).H=H/\(ed K H Z ex n).Z=Z/\(ed K H Z ex n).extra=ex:=⟨rfl,rfl,rfl,rfl⟩;omega
 ·intro b a
  have:b=0:=mem_singleton.1 a;omega
 ·intro b a
  simp[ed] at a
theorem JO(K H Z ex j:Nat)(L:PI)(F:Nat->Prop)(a:PK)(n c:Nat)(w:World)(Q:fB K H Z=true)(ar:ex<=16)(ak:0<n)(R:n<=64)(hL:∀x∈L,(bJ (ed K H Z ex n)).length<=x/\1<=x/\x<=512)(hp:PwS w j)(q:(rI L).ok w F [slice a n c])(hl:L.length=n):
 Calls prog 43 #[dD K H Z,int i64 ex,pointer (some ⟨j,0,none⟩),slice a n c] w λe d=>∃g D,e=returned (.tuple #[pointer (some ⟨g,0,none⟩),int i64 0])/\w.heap.size<=g/\Stq w.heap.size d g ⟨j,n,D,λb=>L.getD b 0,λ_=>false⟩ (ed K H Z ex n) (λb=>if b<n then bJ (ed K H Z ex n) else [])/\d.cell? ⟨g,7,none⟩=some (slice none 0 0)/\Below w.heap.size w d:=by
 have f:PH (Sx w (w.alloc (cells #[int i64 K,int i64 H,int i64 Z] 25)) [bS w.heap.size 25 #[int i64 K,int i64 H,int i64 Z],bS j 138 pwC,eR F (slice a n c) (rI L)]):=
  ae (((((Sx.nil w).add (eR F (slice a n c) (rI L)) q).add (bS j 138 pwC) hp).alloc _).add (bS _ _ _) (Blk.new w _ _))
 have o:=ae λw (h:(rI L).ok w F [slice a n c])=>BB L F a n c w h hl R ak (λx q=>(hL x q).2);have i:=ae λw=>fK K H Z w;rw[Q] at i;have a4:¬(16:Int)<(ex:Int):=by omega
 have t:=ae Q;have au:=ae (O1 Q ar R);have ag:=ae (okPgN Q ar R);have S:=ae hl;have al:=ae hL;have a6:¬(n:Int)=0:=by omega
 have a7:¬n=0:=by omega
 have aR:=ae ((rI _).bl q);unfold dD at i ⊢;clear q hp Q hl hL;go_enter func43,ntmps43;go_wp2_with fail;generalize w.alloc (cells #[int i64 K,int i64 H,int i64 Z] 25)=w0 at*;refine(o.o w0 (f.o.rep 2 rfl)).mono ?_;rintro e w1 ⟨v1,rfl,k,r⟩;have av:=ae (show w.heap.size<=w0.heap.size from f.o.1.size);have l:=ae (f.o.step r);have m:=ae k;obtain⟨N,u,rfl⟩:=k.lenA;rw[aZ] at m ⊢;obtain⟨p0,p1,p2⟩:=lQ (l.o.blk 0 rfl);clear k r f o;go_wp2_with fail;refine(i.o w1).mono ?_;rintro e z ⟨rfl,f⟩;have S2:=ae (l.o.step f);have am:=ae (m.o.below f);clear f l m p0 p1 p2 i;obtain⟨p0,p1,p2⟩:=lQ (S2.o.blk 0 rfl);have CF:=ae (EN j z.drew (S2.o.blk 1 rfl))
 have aw:PH ((((((((((zeroCells96.setIfInBounds 0 (Value.int .i64 1)).setIfInBounds 1 (Value.int .i64 0)).setIfInBounds 2 (Value.int .i64 K)).setIfInBounds 3 (Value.int .i64 H)).setIfInBounds 4 (Value.int .i64 Z)).setIfInBounds 5 (Value.int .i64 ex)).setIfInBounds 6 (Value.slice N n u)).setIfInBounds 7 (Value.slice none 0 0)).setIfInBounds 8 (Value.pointer (some ⟨j,0,none⟩))).setIfInBounds 9 (Value.int .i64 0)=oC (ed K H Z ex n) (slice N n u) (slice none 0 0) j (λ_=>pointer none)):=ae (by
  rw[Br,Iu];unfold oC ed;apply Array.ext';simp;rfl)
 go_wp2_with fail;go_cut [12] (λi f=>i=pointer (some ⟨z.heap.size,0,none⟩)/\PH (Blk f z.heap.size 96 (oC (ed K H Z ex n) (slice N n u) (slice none 0 0) j (λ_=>pointer none)))/\PH (Below z.heap.size z f))
 case first=>
  go_region_law (go_simp
                 go_at_call 89;refine CF.o.mono ?_;rintro e T ⟨rfl,rfl⟩;go_simp)
  all_goals(
   go_simp;refine ‹∀(a':Act) (d:World),Met _ a' d->_› _ _ ?_;go_meet;refine⟨rfl,ae ?_,ae (((az _ z).alloc (aj _) _).drew)⟩;rw[<-aw.o];exact Blk.drew (Blk.new z _ _))
 case rest=>
  obtain⟨rfl,i,d⟩:=hcut;rename World=>T;have S3:=ae ((S2.o.step d.o).add (bS z.heap.size 96 (oC (ed K H Z ex n) (slice N n u) (slice none 0 0) j (λ_=>pointer none))) i.o);have ay:=ae (am.o.below d.o);have aA:PH (w0.heap.size<=z.heap.size):=ae (by obtain⟨g',e',E,h2⟩:=am.o.formA aZ (by omega);omega);have CS:=ae λf (k:(rI (range n)).ok f Any [slice N n u])=>nC (ed K H Z ex n) N none n u 0 0 Any f k aZ (xR 4 f Any) rfl au.o ag.o;clear S2 am i CF aw p0 p1 p2 d;generalize a8:z.heap.size=i at*;have aB:=ae (az T.heap.size T);go_wp2_with fail;go_loopw [53] (λb wr=>∃f:Nat,f<=n/\b=int i64 f/\PH (Below T.heap.size T wr)) (λb _=>n-(intOf b).toNat)
  case atStart=>exact⟨0,by omega,rfl,aB⟩
  case round=>
   clear aB;obtain⟨f,a9,rfl,U⟩:=hrel;have r:=ae (S3.o.step U.o);have G:=ae (ay.o.below U.o);obtain⟨V,W,X,Y,k4,k5,k6,k7,-⟩:=fS (r.o.blk 0 rfl);by_cases J:f<n
   ·have aS:(f:Int)<(n:Int):=by omega
    obtain⟨O,rfl,-⟩:=G.o.formA aZ (by omega);have cs:=(G.o.cellA aZ J).1;rw[lm J] at cs;obtain⟨ax,cx,e,aa,-⟩:=dI (r.o.rep 3 rfl) S.o;injection e with e1 e2 e3;subst e1 e3;obtain⟨bx,ox,rfl,an,ab⟩:=aa.2 (by omega);have s:f<L.length:=(by rw[S.o];exact J);have cq:=ab f (int i64 (L.getD f 0:Nat)) (bT s);have ac:=al.o (L.getD f 0) (by rw[af,ah s];exact aQ s);have k:PH ((bJ (ed K H Z ex n)).length<=L.getD f 0):=ae ac.1;clear s ac;generalize L.getD f 0=P at*;have o:=ae (CS.o wr.drew (Rp.any _ (gH G.o)));unfold bV at o;clear aa ab;go_upto_region 8 with fail
    go_region_law (go_simp
                   go_at_call 69;refine o.o.mono ?_;rintro e l ⟨v5,rfl,d,m⟩;obtain⟨y,c5,rfl,-⟩:=d.val;rw[aC];clear d;obtain⟨d,v⟩:∃d,d=(bJ (ed K H Z ex n)).length:=⟨_,rfl⟩;rw[<-v];have A:¬(P:Int)<(d:Int):=(by have:=k.o;omega);have I:¬P<d:=(by have:=k.o;omega);clear v;have C:=ae (U.o.trans ((bP m).mono U.o.size));have ao:l.cell? ⟨bx,ox+f,none⟩=some (int i64 P):=((bP m).cell (p:=⟨bx,ox+f,none⟩) an).trans cq;clear m;go_simp)
    all_goals(
     clear o k V W X Y k4 k5 k6 k7 cs cq ao;go_wp2_with fail;go_roundw
     case rel=>exact⟨f+1,by omega,by go_num,C⟩
     case measure=>simp[intOf];omega)
   ·obtain rfl:f=n:=by omega
    clear V W X Y k4 k5 k6 k7;obtain⟨O,rfl,-⟩:=G.o.formA aZ (by omega);go_wp2_with fail;rename World=>v;have aD:=ae (r.o.blk 0 rfl);clear U S3 ay CS;have aE:PH (Blk v i 96 (oC (ed K H Z ex f) (slice (some ⟨O,0,none⟩) f u) (slice none 0 0) j (yS 0 λ_=>0))):=ae aD.o;have aF:PH (∀b,b<0->DrB v ((λ_:Nat=>0) b) j (L.getD b 0) (slice none 0 0) 0/\v.heap.size<=(λ_:Nat=>0) b):=ae λb A=>(by omega);have aK:PH (∀b k,b<0->k<0->b≠k->(λ_:Nat=>0) b≠(λ_:Nat=>0) k):=ae λb k A=>(by omega);have aL:PH (Chg (·=i) v v):=ae (Chg.refl _ _);go_loopw [71] (λb wr=>∃(d:Nat) (D:Nat->Nat),d<=f/\b=int i64 d/\PH (Blk wr i 96 (oC (ed K H Z ex f) (slice (some ⟨O,0,none⟩) f u) (slice none 0 0) j (yS d D)))/\PH (∀b,b<d->DrB wr (D b) j (L.getD b 0) (slice none 0 0) 0/\v.heap.size<=D b)/\PH (∀b k,b<d->k<d->b≠k->D b≠D k)/\PH (Chg (·=i) v wr)) (λb _=>f-(intOf b).toNat)
    case atStart=>exact⟨0,_,by omega,rfl,aE,aF,aK,aL⟩
    case round=>
     clear aE aF aK aL;obtain⟨d,D,bb,rfl,t,M,HN,I⟩:=hrel;have ad:=ae (G.o.keepO λo y=>I.o.block o (G.o.ltA o y).2 λe=>Ty.ne2 e (G.o.ty o y) (Blk.ty (r.o.blk 0 rfl)) (by decide));by_cases J:d<f
     ·have aS:(d:Int)<(f:Int):=by omega
      have bc:(d:Int)<64:=(by omega);have aM:d<64:=(by omega);obtain⟨ax,cx,e,aa,-⟩:=dI ((rI _).keep aR.o λo y _=>⟨(I.o.block o (aW y r.o.1.size) λe=>by have E:o<w.heap.size:=y;have:=aA.o;have:=av.o;omega).trans (r.o.1.block o y),y⟩) S.o;injection e with e1 e2 e3;subst e1 e3;obtain⟨bx,ox,rfl,an,ab⟩:=aa.2 (by omega);have cs:=(ad.o.cellA aZ J).1;rw[lm J] at cs;have s:d<L.length:=(by rw[S.o];exact J);have cq:=ab d (int i64 (L.getD d 0:Nat)) (bT s);have ac:=al.o (L.getD d 0) (by rw[af,ah s];exact aQ s);have CN:=ae (Pw (L.getD d 0) j wr.drew ac.2);have aT:PH (∀b,b=d->L.getD b 0=L.getD d 0):=ae λb e=>(by rw[e]);clear aa ab s ac;generalize L.getD d 0=P at*;go_upto_region 14 with fail
      go_region_law (go_simp
                     go_at_call 61;refine CN.o.mono ?_;rintro e l ⟨rfl,aq,m⟩;replace m:=bP m;have ai:=ae (t.o.below m t.o.lt);have aO:PH (DrB l wr.heap.size j P (slice none 0 0) 0):=ae aq;have C:=ae m;have f5:l.frozen? ⟨i,10+d,none⟩=false:=ai.o.frozen (10+d);have c5:l.cell? ⟨i,10+d,none⟩=some (pointer none):=(ai.o.cell (10+d)).trans (by rw[qG _ _ _ _ _ aM];unfold yS;rw[bh (Nat.lt_irrefl _)]);have ao:l.cell? ⟨bx,ox+d,none⟩=some (int i64 P):=(m.cell (p:=⟨bx,ox+d,none⟩) an).trans cq;clear aq m;go_simp)
      all_goals(
       have q:=ai.o.set (10+d) (pointer (some ⟨wr.heap.size,0,none⟩));have aV:PH (Blk (l.setCell ⟨i,10+d,none⟩ (pointer (some ⟨wr.heap.size,0,none⟩))) i 96 (oC (ed K H Z ex f) (slice (some ⟨O,0,none⟩) f u) (slice none 0 0) j (yS (d+1) (upd D d wr.heap.size)))):=ae (by rw[MV _ _ _ _ _ _ aM,Gc] at q;exact q);have aX:∀o,o≠i->(l.setCell ⟨i,10+d,none⟩ (pointer (some ⟨wr.heap.size,0,none⟩))).heap[o]? =l.heap[o]? :=λo y=>bE _ _ _ o y;have a0:v.heap.size<=wr.heap.size:=I.o.size
       have a2:PH (∀b,b<d+1->DrB (l.setCell ⟨i,10+d,none⟩ (pointer (some ⟨wr.heap.size,0,none⟩))) (upd D d wr.heap.size b) j (L.getD b 0) (slice none 0 0) 0/\v.heap.size<=upd D d wr.heap.size b):=ae λb A=>by
        by_cases e:b=d
        ·rw[aT.o b e]
         subst e;rw[upd_same];exact⟨Blk.far aO.o (p:=⟨i,10+b,none⟩) (show wr.heap.size≠i from λe=>by have:=t.o.lt;omega) _,a0⟩
        ·rw[upd_ne _ _ e]
         have h:=M.o b (by omega);exact⟨Blk.far (Blk.below h.1 C.o (Blk.lt h.1)) (p:=⟨i,10+d,none⟩) (show D b≠i from λe=>Ty.ne2 e (Blk.ty h.1) (Blk.ty t.o) (by decide)) _,h.2⟩
       have a3:PH (∀b k,b<d+1->k<d+1->b≠k->upd D d wr.heap.size b≠upd D d wr.heap.size k):=ae λb k A hj aq=>by
        by_cases ei:b=d
        ·subst ei
         rw[upd_same,upd_ne _ _ (Ne.symm aq)];have:=Blk.lt (M.o k (by omega)).1;omega
        ·by_cases ej:k=d
         ·subst ej
          rw[upd_same,upd_ne _ _ aq];have:=Blk.lt (M.o b (by omega)).1;omega
         ·rw[upd_ne _ _ ei,upd_ne _ _ ej]
          exact HN.o b k (by omega) (by omega) aq
       have k:PH (Chg (·=i) v (l.setCell ⟨i,10+d,none⟩ (pointer (some ⟨wr.heap.size,0,none⟩)))):=ae (I.o.trans ((Chg.of C.o).set ⟨i,10+d,none⟩ _ λ_=>rfl));clear q ai aO C f5 c5 ao cq cs CN aX t M HN I;go_wp2_with fail;go_roundw
       case rel=>exact⟨d+1,_,by omega,by go_num,aV,a2,a3,k⟩
       case measure=>simp[intOf];omega)
     ·obtain rfl:d=f:=by omega
      have ai:w.heap.size<=v.heap.size:=r.o.1.size;have an:w.heap.size<=i:=aP av.o aA.o;have ao:PH (Stq w.heap.size wr i ⟨j,d,D,λb=>L.getD b 0,λ_=>false⟩ (ed K H Z ex d) (λ_=>[])):=ae ⟨⟨Blk.chg (r.o.blk 2 rfl) I.o (λe=>Ty.ne2 e (Blk.ty (r.o.blk 2 rfl)) (Blk.ty (r.o.blk 0 rfl)) (by decide)),⟨λ_=>none,λb A=>.inr ⟨rfl,_,(M.o b A).1,OwnS.nil _ _ _ _ _,aj _,rfl,by simp⟩,by simp,by simp⟩,HN.o,λb A=>aP ai (M.o b A).2⟩,⟨_,_,t.o,qg ad.o,xR 4 wr _⟩,rfl,ak,R⟩;have P:=ae (EE (ed K H Z ex d) (some ⟨O,0,none⟩) none d u 0 0 Any wr (Rp.any _ (gH ad.o)) aZ (xR 4 wr _) rfl au.o ag.o (range d) (some ⟨O,0,none⟩) d u (Rp.any _ (gH ad.o)) aZ R);have aa:PH (Below w.heap.size w wr):=ae (r.o.1.trans (I.o.below ai λf e=>by rw[e];exact an));have aS:=ae (ED ag.o (range d));have aq:=ae (J5 ag.o (range d));have aT:=ae an;obtain⟨V,W,X,Y,k4,k5,k6,k7,-⟩:=fS t.o;unfold bV at P;unfold ed at V W X Y k4 k5;simp only[ed] at P;clear I M HN r G ad aD;go_wp2_with fail;refine P.o.mono ?_;rintro e l ⟨v5,rfl,ab,m⟩;obtain⟨ap,k,cp,rfl⟩:=kO ab;have ac:(rS 2 ((lN (ed K H Z ex d) (range d)).map cZ)).ok l (Fu l) [slice ap k cp]:=ab
      have aM:(lN (ed K H Z ex d) (range d)).length=k:=by
       obtain⟨a',n',c',e',_,_,_,h4,_⟩:=ac;injection e' with e' _;injection e' with _ e2 _;rw[aC] at h4;omega
      have aO:0<k/\k<=100000:=by have E:=aS.o;rw[aM,aZ] at E;exact⟨aW ak E.1,aP E.2 (by omega)⟩
      have CA:=ae (KN (B:=w.heap.size) (lN (ed K H Z ex d) (range d)) ap k cp i ⟨j,d,D,λb=>L.getD b 0,λ_=>false⟩ (ed K H Z ex d) (λ_=>[]) l (ao.o.below m) ((rS 2 _).more ac λo y _=>y.fd) aM aO.1 aO.2 (λx q=>⟨⟨bA.1 (aq.o x q).1,rfl⟩,(aq.o x q).2⟩) (λb A=>by
       have E:=al.o (L.getD b 0) (by have s:b<L.length:=by rw[S.o];exact A
                                     rw[af,ah s];exact aQ s)
       rw[nz _ nodup_range,bg (bA.2 A)];simp only[length_nil,Nat.zero_add];exact⟨E.1,E.2.2⟩))
      have C:=ae (aa.o.trans (m.mono aa.o.size));have A:=ae (t.o.below m t.o.lt);clear ab ac m ao P aa t V W X Y k4 k5 k6 k7;go_wp2_with fail;refine CA.o.mono ?_;rintro e P ⟨rfl,o,y⟩
      have aa:PH (Stq w.heap.size P i ⟨j,d,D,λb=>L.getD b 0,λ_=>false⟩ (ed K H Z ex d) (λb=>if b<d then bJ (ed K H Z ex d) else [])):=ae (by
       have e0:gX (lN (ed K H Z ex d) (range d)) (λ_=>[])=λb=>if b<d then bJ (ed K H Z ex d) else []:=by
        funext b;unfold gX;rw[nz _ nodup_range,nil_append];by_cases h:b<d
        ·rw[bg h,bg (bA.2 h)]
        ·rw[bh h,bh (λe=>h (bA.1 e))]
       rw[e0] at o;exact o)
      have ab:=ae (C.o.trans (y.lo C.o.size));have ac:PH (P.cell? ⟨i,7,none⟩=some (slice none 0 0)):=ae ((fS (A.o.chg y λhm=>Md.not (Blk.ty A.o) (by decide) (by decide) hm.2)).2.2.2.2.2.2.2.1);clear o y CA C;go_wp2_with fail;go_ret2;exact⟨i,D,rfl,aT.o,aa.o,ac.o,ab.o⟩
end
section
variable {B:Nat}
def su(p g:Nat):Array Value:=#[pointer (some ⟨p,0,none⟩),pointer (some ⟨g,0,none⟩)]++Array.replicate 64 (pointer none)
theorem Ho:zeroCells80= #[pointer none,pointer none]++Array.replicate 64 (pointer none):=by kernel_rfl
theorem KO{c d a b:Value}{r:Array Value}:((#[c,d]++r).setIfInBounds 0 a).setIfInBounds 1 b= #[a,b]++r:=by
 apply Array.ext';simp
end
section
variable {B:Nat}
def rz(a:ByteArray)(e:cN):Bool:=e.name.toList == a.toList
theorem Gq(b:ByteArray)(y:cN)(a:PK)(n c G:Nat)(w:World)(e:Blk w G 9 #[.string b]):
 Calls prog 168 (#[.agg (d9 y (slice a n c))]++#[pointer (some ⟨G,0,none⟩)]) w λd f=>d=returned (bool (rz b y))/\Below w.heap.size w f:=by
 show Calls prog 168 #[.agg (d9 y (slice a n c)),pointer (some ⟨G,0,none⟩)] w _
 have d:PH (Sx w (w.alloc (cells (d9 y (slice a n c)) 65)) [bS w.heap.size 65 (d9 y (slice a n c)),bS G 9 #[.string b]]):=
  ae ((((Sx.nil w).add (bS G _ _) e).alloc _).add (bS _ _ _) (Blk.new w _ _))
 clear e;obtain⟨f,g,i,j⟩:=y;unfold d9 at*;simp only at*;obtain⟨k,l,m,o⟩:=eB (d.o.blk 0 rfl);have p:(w.alloc (cells #[.string f,int i64 g,int i64 i,slice a n c] 65)).cell? ⟨G,0,none⟩=some (.string b):=(d.o.blk 1 rfl).cell 0;go_enter func168,ntmps168;go_wp2_with fail;go_ret;exact⟨rfl,d.o.1⟩
end
section
variable {B:Nat}
def ia(o b t:Nat):Nat:=128*o+16*b+t
def rH(K H Z o b t:Nat):Prop:=t<16/\dK K H Z (ia o b t:Nat) (range K)=true/\∀a,a<t->dK K H Z (ia o b a:Nat) (range K)=false
theorem Nv(K H Z o b t:Nat)(w:World)(s:fB K H Z=true)(u:o<=16777215)(v:b<=8)(m:rH K H Z o b t):
 Calls prog 155 #[dD K H Z,int i64 o,int i64 b] w λa e=>a=returned (.tuple #[int i64 t,bool true])/\Below w.heap.size w e:=by
 have I:PH (Sx w (w.alloc (cells #[int i64 K,int i64 H,int i64 Z] 25)) [bS w.heap.size 25 #[int i64 K,int i64 H,int i64 Z]]):=
  ae ((((Sx.nil w).alloc _).add (bS _ _ _) (Blk.new w 25 #[int i64 K,int i64 H,int i64 Z])))
 have J:=ae λ(a:Nat) (c:a<=16) w=>kU o b a w u v c;have x:=ae λ(a:Nat) (c:a<=16) w=>lH K H Z (ia o b a:Nat) w s (by omega) (by unfold ia;omega);have y:=ae m;have P:=m.1;clear s u v m;unfold dD at x ⊢;go_enter func155,ntmps155;go_wp2_with fail;generalize w.alloc (cells #[int i64 K,int i64 H,int i64 Z] 25)=i at*;have z:=ae (az i.heap.size i);go_loopw [9] (λc wr=>∃a:Nat,a<=t/\c=int i64 a/\PH (Below i.heap.size i wr)) (λc _=>16-(intOf c).toNat)
 case atStart=>exact⟨0,by omega,rfl,z⟩
 case round=>
  clear z;obtain⟨a,Q,rfl,n⟩:=hrel;have j:=ae (I.o.step n.o);have R:(a:Int)<16:=(by omega);have A:=ae (J.o a (by omega));have f:=ae (x.o a (by omega));obtain⟨C,D,E⟩:=lQ (j.o.blk 0 rfl);have L:a=t\/a<t:=(by omega);rcases L with F | k
  ·have G:=ae F
   clear F;rw[show dK (K:Nat) H Z (ia o b a:Nat) (range K)=true from by rw[G.o];exact y.o.2.1] at f;unfold ia at f;go_upto_region 4 with fail;clear C D E;refine bL (by kernel_rfl) (by kernel_rfl) ?_
   iterate 6 (
    with_reducible refine wpQuiet_step (λp c=> ?_)
    go_simp
    first
    | refine c _ ?_
    | refine⟨_,λ_ _=>rfl,c _ ?_⟩
    | (apply Exists.intro
       refine⟨λe d=> ?_,c _ ?_⟩
       ·obtain⟨M,N,O⟩:=lQ ((j.o.step d).blk 0 rfl)
        first
        | (go_simp
           first | exact rfl | exact⟨rfl,rfl⟩)
        | (go_at_call 114
           refine(A.o e).mono ?_;rintro q g ⟨rfl,rfl⟩;exact⟨rfl,d⟩)
        | (go_at_call 214
           refine(f.o e).mono ?_;rintro q g ⟨rfl,r⟩;exact⟨rfl,d.trans (r.mono d.size)⟩))
    clear c p)
   with_reducible refine wpQuiet_nil ?_
   intro g l;go_wp2_with fail;go_ret2;exact⟨by rw[G.o];rfl,(j.o.step l).1⟩
  ·rw[show dK (K:Nat) H Z (ia o b a:Nat) (range K)=false from y.o.2.2 a k] at f
   have G:=ae k;clear k;unfold ia at f;go_upto_region 4 with fail;clear C D E;refine bL (by kernel_rfl) (by kernel_rfl) ?_
   iterate 6 (
    with_reducible refine wpQuiet_step (λp c=> ?_)
    go_simp
    first
    | refine c _ ?_
    | refine⟨_,λ_ _=>rfl,c _ ?_⟩
    | (apply Exists.intro
       refine⟨λe d=> ?_,c _ ?_⟩
       ·obtain⟨M,N,O⟩:=lQ ((j.o.step d).blk 0 rfl)
        first
        | (go_simp
           first | exact rfl | exact⟨rfl,rfl⟩)
        | (go_at_call 114
           refine(A.o e).mono ?_;rintro q g ⟨rfl,rfl⟩;exact⟨rfl,d⟩)
        | (go_at_call 214
           refine(f.o e).mono ?_;rintro q g ⟨rfl,r⟩;exact⟨rfl,d.trans (r.mono d.size)⟩))
    clear c p)
   with_reducible refine wpQuiet_nil ?_
   intro g l;have q:=ae (n.o.trans (l.mono n.o.size));clear l;go_wp2_with fail;have k:=G.o;go_roundw
   case rel=>exact⟨a+1,by omega,by go_num,q⟩
   case measure=>simp[intOf];omega
end
section
variable {B:Nat}
def Fm(w:World)(b:Nat):Prop:=Fu w b/\¬Ty 68 w b
theorem Fm.keep{w w':World}{b:Nat}(a:Fm w b)(c:w'.heap[b]? =w.heap[b]?):Fm w' b:=⟨a.1.keep c,λd=>a.2 (d.keep c.symm)⟩
theorem Rp.fm(R:Rp){w w':World}{a:List Value}(e:R.ok w (Fm w) a)(b:Below w.heap.size w w'):R.ok w' (Fm w') a:=
 R.keep e λc f d=>⟨b.block c d,f.keep (b.block c d)⟩
theorem Rp.fmU(R:Rp){w:World}{a:List Value}(b:R.ok w (Fm w) a):R.ok w (Fu w) a:=R.more b λd c _=>c.1
theorem pM{w:World}{C:Nat}{v:Value}{l:PI}(a:OwnI w C v l):(rI l).ok w (Fm w) [v]:=by
 obtain⟨f,g,rfl,h,i,j,b,c⟩:=dB (k:=1) a;rw[Nat.mul_one] at b c;refine⟨f,l.length,g,rfl,i,j,h,b,λm=> ?_⟩;obtain⟨d,n,o,⟨s,_⟩,p,q⟩:=c m;refine⟨d,n,o,?_,q⟩;have e:=a.ty d p;exact⟨Mt.not e (by decide) (by decide) (by decide),λr=>e.ne r (by decide)⟩
end
section
variable {B:Nat}
theorem eT{w:World}{g:Nat}{t:TypeId}{a:Array Value}(b:Blk w g t a):w.setRow g a=w:=by
 have h:=b.lt;have c:w.heap[g]=.cells a t (0,0):=(Array.getElem?_eq_some_iff.1 (show w.heap[g]? =some (.cells a t (0,0)) from b)).2
 have d:(w.heap.modify g fun
  | .cells _ e f=>.cells a e f
  | o=>o)=w.heap:=by
  refine Array.ext (by simp) λf i j=> ?_;rw[Array.getElem_modify];split
  ·rename_i e
   subst e;rw[c]
  ·rfl
 unfold World.setRow;exact congrArg (λb=>({ w with heap:=b }:World)) d
theorem lf{w:World}{g i:Nat}{t:TypeId}{a:Array Value}{v:Value}(b:Blk w g t a)(c:a.setIfInBounds i v=a):w.setCell ⟨g,i,none⟩ v=w:=by
 rw[setCell_eq_setRow w g i a t (0,0) v b,c];exact eT b
def ji(k:Int)(a:ByteArray)(v:Value):Array Value:=#[int i64 k,.string a,v,int i64 0,int i64 0,int i64 0,.int .u32 0,slice none 0 0,slice none 0 0]
theorem rL{w:World}{g:Nat}{t:TypeId}{a b c d e f i j k:Value}(h:Blk w g t #[a,b,c,d,e,f,i,j,k]):w.cell? ⟨g,0,none⟩=some a/\w.cell? ⟨g,1,none⟩=some b/\w.cell? ⟨g,2,none⟩=some c/\w.cell? ⟨g,3,none⟩=some d/\
 w.cell? ⟨g,4,none⟩=some e/\w.cell? ⟨g,5,none⟩=some f/\w.cell? ⟨g,6,none⟩=some i/\w.cell? ⟨g,7,none⟩=some j/\w.cell? ⟨g,8,none⟩=some k:=⟨h.cell 0,h.cell 1,h.cell 2,h.cell 3,h.cell 4,h.cell 5,h.cell 6,h.cell 7,h.cell 8⟩
end
section
variable {B:Nat}
end
section
variable {B:Nat}
theorem Drz.lower{D:Nat}{w:World}{f:Fl}{R:Nat->List PI}{W:Nat->Nat}(d:Drz D w f R W)(c:B<=D):Drz B w f R W:=by
 obtain⟨e,⟨g,h,i,j⟩,k,l⟩:=d;exact⟨e,⟨g,h,i,λa m b n=>aP c (j a m b n)⟩,k,λa b=>aP c (l a b)⟩
theorem Stq.lower{D:Nat}{w:World}{g:Nat}{f:Fl}{m:cQ}{R:Nat->List PI}(a:Stq D w g f m R)(b:B<=D):Stq B w g f m R:=⟨a.drs.lower b,a.st,a.dv,a.n0⟩
def eH(E:Int)(v:Value):Array Value:=#[int i64 E,v,slice none 0 0,int i64 0,int i64 0,int i64 0,slice none 0 0,int i64 0]
theorem Px{w:World}{g:Nat}{t:TypeId}(a:Blk w g t (eH 0 (slice none 0 0)))(v:Value)(E:Int):Blk ((w.setCell ⟨g,1,none⟩ v).setCell ⟨g,0,none⟩ (int i64 E)) g t (eH E v):=by
 have:=(a.set 1 v).set 0 (int i64 E);simpa[eH] using this
theorem Py{w:World}{g:Nat}{t:TypeId}(a:Blk w g t (eH 0 (slice none 0 0)))(v:Value)(E:Int):Blk ((w.setCell ⟨g,0,none⟩ (int i64 E)).setCell ⟨g,1,none⟩ v) g t (eH E v):=by
 have:=(a.set 0 (int i64 E)).set 1 v;simpa[eH] using this
end
