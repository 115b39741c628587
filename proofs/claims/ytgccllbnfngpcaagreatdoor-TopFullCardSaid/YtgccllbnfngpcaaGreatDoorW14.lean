import Derived.Test.YtgccllbnfngpcaaGreatDoorW13
import Derived.Laws.FloatArith
import Derived.Laws.ComplexArith
import Derived.Shelf.Pu.Clone
set_option linter.unusedVariables false
set_option maxRecDepth 100000
set_option maxHeartbeats 400000000
namespace Go.Proofs.YtgccllbnfngpcaaGreatDoor
open Go.RowKit _root_.Go.Proofs.Tryz List
open Value (int slice pointer bool)
open IntKind (i64)
open Ending (returned)
open Obj (cells)
section
variable {B:Nat}
theorem BV(a:ByteArray)(g:Nat)(f:Fl)(m:cQ)(R:Nat->List PI)(w:World)(h:Stq B w g f m R)(H:m.objs.length<=100):
 Calls prog 111 #[pointer (some ⟨g,0,none⟩),.string a] w λi w'=>i=returned (int i64 (mE (rz a) m.objs))/\Below w.heap.size w w':=by
 have c:=(az w.heap.size w).alloc (aj _) (cells #[.string a] 9);have d:=Blk.new w 9 #[.string a];obtain⟨-,⟨I,J,j,-,b⟩,-⟩:=h.below c;generalize l:w.alloc (cells #[.string a] 9)=n at*;obtain⟨s,o,t,rfl⟩:=kO b
 have p:m.objs.length=o:=by
  obtain⟨K,M,N,e,_,_,_,u,_⟩:=b;injection e with e _;injection e with _ O _;rw[aC] at u;omega
 have q:=ae (Ed (rz a) 168 #[pointer (some ⟨w.heap.size,0,none⟩)] m.objs (Fu n) s o t n b p (by omega) (enters_of func168 (by kernel_rfl) rfl) (λr D x y z A E=>Gq a r z _ A w.heap.size x (d.below y d.lt)));have r:=ae c;have x:=ae l;obtain⟨y,z,A,D,E,F,G,P,-⟩:=fS j;clear j b d c l y z A D E F G h p;go_enter func111,ntmps111;go_upto_region 1 with fail;rw[x.o];go_wp2_with fail;refine q.o.mono ?_;rintro i d ⟨rfl,b⟩;have c:=ae (r.o.trans (b.mono r.o.size));clear b q;go_wp2_with fail;go_ret;exact⟨rfl,c.o⟩
theorem FI(j:ByteArray)(g:Nat)(f:Fl)(m:cQ)(R:Nat->List PI)(a:PK)(n c:Nat)(w:World)(h:Stq B w g f m R)(x:jG j)(l:∀e∈m.objs,rz j e=false)(E:m.objs.length<12)(r:0<(bI f).length)
 (y:fB m.K m.H m.Z=true)(z:n<=m.K*m.Z*8)(F:m.next<=16777215)(G:m.seq<2147483647):
 Calls prog 101 #[pointer (some ⟨g,0,none⟩),.string j,slice a n c] w λe w'=>e=returned (int i64 0)/\Below w.heap.size w w':=by
 have o:PH (Sx w w [jW B g f m R]):=ae ((Sx.nil w).add (jW B g f m R) h);have t:=ae λw (h:Stq B w g f m R)=>AK g f m R w h;have u:=ae λw=>wU j w x;have p:=ae λw (h:Stq B w g f m R)=>BV j g f m R w h (by omega);rw[qB l] at p;have A:=ae λw (h:Stq B w g f m R)=>vq g f m R w h;have s:=ba y;obtain⟨d,b⟩:∃d:Nat,d=m.K*m.Z:=⟨_,rfl⟩;have D:d<=16*24:=by rw[b];exact bn (by omega) (by omega)
 have q:(m.K:Int)*(m.Z:Int)=(d:Int):=by rw[b,Int.natCast_mul]
 have H:IntKind.i64.wrap ((m.K:Int)*(m.Z:Int))=(d:Int):=by rw[q,IntKind.wrap_i64];omega
 obtain⟨i,I⟩:∃i:Nat,i=d*8:=⟨_,rfl⟩;have J:IntKind.i64.wrap ((d:Int)*8)=(i:Int):=by rw[IntKind.wrap_i64];omega
 rw[<-b] at z;have Z:¬(i:Int)<(n:Int):=by omega
 have aa:n<=i:=by omega
 have ab:decide (i<n)=false:=decide_eq_false (by omega);have K:¬(12:Int)<=(m.objs.length:Int):=by omega
 have ac:¬(((bI f).length:Int)=0):=by omega
 have ad:¬((bI f).length=0):=by omega
 have ag:(((bI f).length:Int) == 0)=false:=by rw[beq_eq_false_iff_ne];omega
 have ai:bI f≠[]:=λe=>by rw[e] at r;simp at r
 have ak:¬(16777215:Int)<(m.next:Int):=by omega
 have al:¬(2147483647:Int)<=(m.seq:Int):=by omega
 clear h x l E r z F G I q b D s y;go_enter func101,ntmps101;go_wp2_with fail;refine(t.o w (o.o.stq 0 rfl)).mono ?_;rintro e I ⟨rfl,b⟩;have D:=ae (o.o.step b);clear b;go_wp2_with fail;refine(u.o I).mono ?_;rintro e M ⟨rfl,b⟩;have q:=ae (D.o.step b);clear b;go_wp2_with fail;refine(p.o M (q.o.stq 0 rfl)).mono ?_;rintro e w3 ⟨rfl,b⟩;have s:=ae (q.o.step b);clear b t u p o D q;obtain⟨-,⟨N,O,o,-,q⟩,-⟩:=s.o.stq 0 rfl;obtain⟨ao,p,co,rfl⟩:=kO q
 have l:m.objs.length=p:=by
  obtain⟨a',n',c',t,_,_,_,P,_⟩:=q;injection t with t _;injection t with _ e2 _;rw[aC] at P;omega
 rw[l] at K;have am:p<12:=by omega
 have an:decide (12<=p)=false:=decide_eq_false (by omega);have ap:decide ((12:Int)<=(p:Int))=false:=decide_eq_false (by omega);have u:=ae o;clear q l o;go_upto_region 7 with fail;refine bL (by kernel_rfl) (by kernel_rfl) ?_
 iterate 27 (
  with_reducible refine wpQuiet_step (λD q=> ?_)
  go_simp
  first
  | refine q _ ?_
  | refine⟨_,λ_ _=>rfl,q _ ?_⟩
  | (apply Exists.intro
     refine⟨λw' Q=> ?_,q _ ?_⟩
     ·obtain⟨S,T,U,V,W,X,Y,aq,-⟩:=fS (u.o.below Q u.o.lt)
      first
      | (go_simp
         first | exact rfl | exact⟨rfl,rfl⟩))
  clear q D)
 with_reducible refine wpQuiet_nil ?_
 intro S D;have q:=ae (s.o.step D);clear D s u;go_wp2_with fail;refine(A.o S (q.o.stq 0 rfl)).mono ?_;rintro e w5 ⟨v5,rfl,u,b⟩;have s:=ae (q.o.step b);obtain⟨a5,c5,rfl⟩:=u.lenA;obtain⟨-,⟨N,O,o,-,-⟩,-⟩:=s.o.stq 0 rfl;obtain⟨k0,k1,D,T,U,V,W,X,-⟩:=fS o;have Y:=ae s.o.1;clear b u o q A s D T U V W X H J;generalize ((m.next:Nat):Int)=q at*;generalize ((m.seq:Nat):Int)=s at*;go_wp2_with fail;go_ret;exact⟨rfl,Y.o⟩
end
theorem Cs{k:Nat}{L:List Rp}{w:World}{F:Nat->Prop}{a:PK}{n c:Nat}(d:(rS k L).ok w F [slice a n c]):L.length=n:=by
 obtain⟨g,h,i,b,_,_,_,e,_⟩:=d;injection b with b _;injection b with _ f _;rw[e,f]
section
variable {B:Nat}
end
section
open Go Ieee
theorem ve(a P:Nat)(b:a≠0):(a*2 ^ P).log2=a.log2+P:=by
 have c:=(Nat.log2_eq_iff (n:=a*2 ^ P) (k:=a.log2+P) (by have:=Nat.pow_pos (n:=P) (show 0<2 by omega);exact Nat.mul_ne_zero b (by omega))).2;refine c ⟨?_,?_⟩
 ·rw[Nat.pow_add];exact Nat.mul_le_mul_right _ (Nat.log2_self_le b)
 ·rw[show a.log2+P+1=(a.log2+1)+P by omega,Nat.pow_add]
  exact Nat.mul_lt_mul_of_pos_right Nat.lt_log2_self (Nat.pow_pos (by omega))
theorem xq(s:Bool)(K d:Nat)(a:K≠0):Toward.even.cut s (K*2 ^ d) d=K:=by
 have b:=ve K d a;have c:=Nat.pow_pos (n:=d) (show 0<2 by omega)
 have e:(1<<<min d ((K*2 ^ d).log2+2):Nat)=2 ^ d:=by
  rw[b,Nat.min_eq_left (by omega),Nat.one_shiftLeft]
 unfold Toward.cut;simp only[e,Nat.mul_div_cancel _ c,Nat.mul_mod_left];have f:decide (2 ^ d<2*0)=false:=decide_eq_false (by omega);have g:((2:Nat) ^ d == 2*0)=false:=by rw[beq_eq_false_iff_ne];omega
 rw[f,g];rfl
theorem xu(s:Bool):double.read (double.word s 0)=.number s 0 (-1074):=by cases s <;> decide +kernel
theorem Gy(s:Bool)(a K:Nat)(i:a<=1074)(j:4503599627370496<=K)(l:K<9007199254740992):
 double.read (double.word s (a*4503599627370496+K))=.number s K ((a:Int)-1074):=by
 have b:double.signWeight=9223372036854775808:=by decide
 have c:double.binade=4503599627370496:=by decide
 have d:double.infRung=9218868437227405312:=by decide
 have e:double.leastPlace= -1074:=by decide
 have f:double.word s (a*4503599627370496+K)/9223372036854775808%2=s.toNat:=by
  unfold Format.word;rw[b];cases s <;> simp <;> omega
 have g:double.word s (a*4503599627370496+K)%9223372036854775808=a*4503599627370496+K:=by
  unfold Format.word;rw[b];cases s <;> simp <;> omega
 unfold Format.read;simp only[b,c,d,e,f,g];rw[bh (by omega),bg (by omega)];have h:(s.toNat == 1)=s:=by cases s <;> rfl
 rw[h,show 4503599627370496+(a*4503599627370496+K)%4503599627370496=K by omega,show(a*4503599627370496+K)/4503599627370496-1=a by omega];congr 1
 all_goals omega
theorem yP(s:Bool)(b P:Nat)(e:b<9007199254740992):
 ∃Q:Nat,double.read (double.nearest s (b*2 ^ P) (-(P:Int)))=.number s (b*2 ^ Q) (-(Q:Int)):=by
 by_cases d:b=0
 ·subst d
  obtain⟨Q,a⟩:∃Q:Nat,Q=1074:=⟨_,rfl⟩;refine⟨Q,?_⟩;unfold Format.nearest;rw[bg (Nat.zero_mul _),xu,Nat.zero_mul,a];rfl
 ·have y:=Nat.pow_pos (n:=P) (show 0<2 by omega)
  have f:=ve b P d
  have z:b.log2<=52:=by
   have:=(Nat.log2_lt d (k:=53)).2 (by simpa using e);omega
  have g:b*2 ^ P≠0:=Nat.mul_ne_zero d (by omega);refine⟨52-b.log2,?_⟩;have h:=Nat.log2_self_le d;have i:=Nat.lt_log2_self (n:=b);generalize b.log2=c at*;obtain⟨a,j⟩:∃a,a=52-c:=⟨_,rfl⟩;rw[<-j]
  have l:4503599627370496<=b*2 ^ a:=by
   have:2 ^ c*2 ^ a<=b*2 ^ a:=Nat.mul_le_mul_right _ h;rw[<-Nat.pow_add,show c+a=52 by omega] at this;simpa using this
  have m:b*2 ^ a<9007199254740992:=by
   have:b*2 ^ a<2 ^ (c+1)*2 ^ a:=Nat.mul_lt_mul_of_pos_right i (Nat.pow_pos (by omega));rw[<-Nat.pow_add,show c+1+a=53 by omega] at this;simpa using this
  have o:double.binade=4503599627370496:=(by decide);have p:double.infRung=9218868437227405312:=(by decide);have q:double.leastPlace= -1074:=(by decide);have r:double.fractionBits=52:=rfl;unfold Format.nearest;rw[bh g];simp only[f,o,p,q,r];have t:max (-(P:Int)+((c+P:Nat):Int)-((52:Nat):Int)) (-1074)= -(a:Int):=(by omega);rw[t]
  have u:Toward.even.cut s ((b*2 ^ P)<<<(-(P:Int)- -(a:Int)).toNat) (-(a:Int)- -(P:Int)).toNat=b*2 ^ a:=by
   rcases Nat.le_total P a with x | x
   ·rw[show(-(P:Int)- -(a:Int)).toNat=a-P by omega,show(-(a:Int)- -(P:Int)).toNat=0 by omega,Nat.shiftLeft_eq,Nat.mul_assoc,<-Nat.pow_add,show P+(a-P)=a by omega]
    have:=xq s (b*2 ^ a) 0 (by omega);simpa using this
   ·rw[show(-(P:Int)- -(a:Int)).toNat=0 by omega,show(-(a:Int)- -(P:Int)).toNat=P-a by omega,Nat.shiftLeft_zero,show b*2 ^ P=(b*2 ^ a)*2 ^ (P-a) by rw[Nat.mul_assoc,<-Nat.pow_add,show a+(P-a)=P by omega]]
    exact xq s (b*2 ^ a) (P-a) (by omega)
  rw[u,show(-(a:Int)- -1074).toNat=1074-a by omega,Nat.min_eq_left (by omega),Gy s (1074-a) _ (by omega) l m];congr 1;omega
def Fz(b:Nat)(n:Int):Prop:=∃(c:Bool) (a d:Nat),double.read b=.number c (a*2 ^ d) (-(d:Int))/\n=if c then-(a:Int) else a
theorem Ay{s:Bool}{a P:Nat}(b:a<9007199254740992):Fz (double.write (.number s (a*2 ^ P) (-(P:Int)))) (if s then-(a:Int) else a):=by
 obtain⟨c,d⟩:=yP s a P b;exact⟨s,a,c,d,rfl⟩
theorem nE(s:Bool)(a P M:Nat)(c:P<=M):signed s (a*2 ^ P) (M-P)=(if s then-(a:Int) else a)*2 ^ M:=by
 have b:(a*2 ^ P)<<<(M-P)=a*2 ^ M:=by rw[Nat.shiftLeft_eq,Nat.mul_assoc,<-Nat.pow_add,show P+(M-P)=M by omega]
 unfold signed;rw[b];cases s <;> simp[Int.neg_mul]
theorem Dc(n:Int)(M:Nat):(n*2 ^ M).natAbs=n.natAbs*2 ^ M:=by
 rw[Int.natAbs_mul,Int.natAbs_pow];rfl
theorem O8(M:Nat):(2:Int) ^ M≠0:=by
 have:0<(2:Int) ^ M:=Int.pow_pos (by omega);omega
theorem xw{s t:Bool}{d P L Q:Nat}{a b:Int}(m:a=if s then-(d:Int) else d)(n:b=if t then-(L:Int) else L)(o:(a+b).natAbs<9007199254740992):
 ∃r,(((Datum.number s (d*2 ^ P) (-(P:Int))).sum (.number t (L*2 ^ Q) (-(Q:Int)))).map double.write)=some r/\Fz r (a+b):=by
 obtain⟨c,x⟩:∃c,c=max P Q:=⟨_,rfl⟩;have p:min (-(P:Int)) (-(Q:Int))= -(c:Int):=by omega
 have q:signed s (d*2 ^ P) (-(P:Int)- -(c:Int)).toNat+signed t (L*2 ^ Q) (-(Q:Int)- -(c:Int)).toNat=(a+b)*2 ^ c:=by
  rw[show(-(P:Int)- -(c:Int)).toNat=c-P by omega,show(-(Q:Int)- -(c:Int)).toNat=c-Q by omega,nE s d P c (by omega),nE t L Q c (by omega),<-m,<-n,Int.add_mul]
 unfold Datum.sum;simp only[p,q,Dc,Option.map_some];refine⟨_,rfl,?_⟩;have h:=λe=>Ay (s:=e) (P:=c) o;have i:0<(2:Int) ^ c:=Int.pow_pos (by omega);by_cases j:a+b=0
 ·have:=h (if (a+b)*2 ^ c=0 then s && t else decide ((a+b)*2 ^ c<0))
  have g:(if (if (a+b)*2 ^ c=0 then s && t else decide ((a+b)*2 ^ c<0))=true then-(((a+b).natAbs:Nat):Int) else ((a+b).natAbs:Int))=a+b:=by
   rw[j];simp
  rw[g] at this;exact this
 ·have u:(a+b)*2 ^ c≠0:=Int.mul_ne_zero j (O8 c)
  rw[bh u];have:=h (decide ((a+b)*2 ^ c<0))
  have l:(a+b)*2 ^ c<0↔a+b<0:=by
   constructor
   ·intro e
    rcases Int.lt_or_le (a+b) 0 with f | f
    ·exact f
    ·have:=Int.mul_nonneg f (Int.le_of_lt i);omega
   ·intro e
    exact Int.mul_neg_of_neg_of_pos e i
  have g:(if decide ((a+b)*2 ^ c<0)=true then-(((a+b).natAbs:Nat):Int) else ((a+b).natAbs:Int))=a+b:=by
   by_cases e:a+b<0
   ·rw[bg (bf (l.2 e))];omega
   ·rw[bh (by rw[decide_eq_true_eq];exact λf=>e (l.1 f))];omega
  rw[g] at this;exact this
theorem yQ{x y:Nat}{a b:Int}(c:Fz x a)(d:Fz y b)(e:(a+b).natAbs<9007199254740992):∃r,floatBits .add .f64 x y=some r/\Fz r (a+b):=by
 obtain⟨j,l,m,f,g⟩:=c;obtain⟨n,L,o,h,i⟩:=d;show ∃r,((double.read x).sum (double.read y)).map double.write=some r/\_;rw[f,h];exact xw g i e
theorem Df{x y:Nat}{a b:Int}(d:Fz x a)(e:Fz y b)(c:(a-b).natAbs<9007199254740992):∃r,floatBits .sub .f64 x y=some r/\Fz r (a-b):=by
 obtain⟨j,l,m,f,g⟩:=d;obtain⟨t,L,n,h,i⟩:=e;show ∃r,((double.read x).sum (double.read y).opposite).map double.write=some r/\_;rw[f,h];rw[Int.sub_eq_add_neg] at c ⊢;exact xw (t:= !t) g (by rw[i];cases t <;> simp) c
theorem rD{x y:Nat}{a b:Int}(h:Fz x a)(i:Fz y b)(q:(a*b).natAbs<9007199254740992):∃r,floatBits .mul .f64 x y=some r/\Fz r (a*b):=by
 obtain⟨s,c,P,j,f⟩:=h;obtain⟨e,L,d,l,g⟩:=i;show ∃r,((double.read x).product (double.read y)).map double.write=some r/\_;rw[j,l];unfold Datum.product;simp only[Option.map_some];refine⟨_,rfl,?_⟩;have m:c*2 ^ P*(L*2 ^ d)=(c*L)*2 ^ (P+d):=by rw[Nat.pow_add,Nat.mul_mul_mul_comm]
 have n: -(P:Int)+ -(d:Int)= -((P+d:Nat):Int):=by omega
 have o:c*L<9007199254740992:=by
  have:(a*b).natAbs=c*L:=by
   rw[Int.natAbs_mul,f,g];cases s <;> cases e <;> simp
  omega
 rw[m,n];have:=Ay (s:=s ^^ e) (P:=P+d) o
 have p:(if (s ^^ e)=true then-((c*L:Nat):Int) else ((c*L:Nat):Int))=a*b:=by
  rw[f,g];cases s <;> cases e <;> simp[Int.neg_mul,Int.mul_neg]
 rw[p] at this;exact this
theorem Az{x y:Nat}{a b:Int}(h:Fz x a)(i:Fz y b):FloatKind.f64.format.order x y=some (compare a b):=by
 obtain⟨j,l,e,m,n⟩:=h;obtain⟨o,L,f,g,p⟩:=i;show(double.read x).order (double.read y)=_;rw[m,g];obtain⟨c,r⟩:∃c,c=max e f:=⟨_,rfl⟩;have q:min (-(e:Int)) (-(f:Int))= -(c:Int):=by omega
 unfold Datum.order;simp only[q];rw[show(-(e:Int)- -(c:Int)).toNat=c-e by omega,show(-(f:Int)- -(c:Int)).toNat=c-f by omega,nE j l e c (by omega),nE o L f c (by omega),<-n,<-p];have g:0<(2:Int) ^ c:=Int.pow_pos (by omega);congr 1;rcases Int.lt_trichotomy a b with d | d | d
 ·rw[Int.compare_eq_lt.2 d,Int.compare_eq_lt.2 (Int.mul_lt_mul_of_pos_right d g)]
 ·subst d;rw[Int.compare_eq_eq.2 rfl,Int.compare_eq_eq.2 rfl]
 ·rw[Int.compare_eq_gt.2 d,Int.compare_eq_gt.2 (Int.mul_lt_mul_of_pos_right d g)]
theorem iO:Fz 0 0:=by
 obtain⟨a,b⟩:∃a:Nat,a=1074:=⟨_,rfl⟩;refine⟨false,0,a,?_,rfl⟩;rw[Nat.zero_mul,b];exact xu false
theorem Dg:Fz 4607182418800017408 1:=⟨false,1,52,by decide +kernel,rfl⟩
def Cz(r i:Nat)(x y:Int):Prop:=Fz r x/\Fz i y
theorem O9{a b c d:Nat}{x y u v:Int}(e:Cz a b x y)(f:Cz c d u v)(g:(x+u).natAbs<9007199254740992)(h:(y+v).natAbs<9007199254740992):
 ∃r i,cSumBits .add .f64 a b c d=some (r,i)/\Cz r i (x+u) (y+v):=by
 obtain⟨r,j,l⟩:=yQ e.1 f.1 g;obtain⟨i,m,n⟩:=yQ e.2 f.2 h;exact⟨r,i,by unfold cSumBits;rw[j,m];rfl,l,n⟩
theorem Pb{a b c d:Nat}{x y u v:Int}(e:Cz a b x y)(f:Cz c d u v)(g:(x-u).natAbs<9007199254740992)(h:(y-v).natAbs<9007199254740992):
 ∃r i,cSumBits .sub .f64 a b c d=some (r,i)/\Cz r i (x-u) (y-v):=by
 obtain⟨r,j,l⟩:=Df e.1 f.1 g;obtain⟨i,m,n⟩:=Df e.2 f.2 h;exact⟨r,i,by unfold cSumBits;rw[j,m];rfl,l,n⟩
theorem MN{a b:Nat}{x y:Int}(c:Cz a b x y)(u:x.natAbs<9007199254740992)(z:y.natAbs<9007199254740992):
 ∃r i,cMulBits a b 0 4607182418800017408=some (r,i)/\Cz r i (-y) x:=by
 obtain⟨A,f,g⟩:=rD c.1 iO (by omega);obtain⟨D,h,j⟩:=rD c.2 Dg (by omega);obtain⟨l,m,d⟩:=Df g j (by omega);obtain⟨E,n,o⟩:=rD c.1 Dg (by omega);obtain⟨F,p,q⟩:=rD c.2 iO (by omega);obtain⟨s,t,e⟩:=yQ o q (by omega);refine⟨l,s,?_,?_,?_⟩
 ·unfold cMulBits
  rw[f,h,Option.bind_some,Option.bind_some,m,Option.bind_some,n,p,Option.bind_some,Option.bind_some,t];rfl
 ·rw[show x*0-y*1= -y by omega] at d;exact d
 ·rw[show x*1+y*0=x by omega] at e;exact e
end
section
def tN:Nat->Int×Int->Int×Int | 0,p=>p | k+1,p=>(-(tN k p).2,(tN k p).1)
theorem IG(k:Nat)(x y:Int):((tN k (x,y)).1.natAbs=x.natAbs/\(tN k (x,y)).2.natAbs=y.natAbs)\/((tN k (x,y)).1.natAbs=y.natAbs/\(tN k (x,y)).2.natAbs=x.natAbs):=by
 induction k with
 | zero=>exact .inl ⟨rfl,rfl⟩
 | succ k b=>simp only[tN,Int.natAbs_neg];rcases b with a | a;exact .inr ⟨a.2,a.1⟩;exact .inl ⟨a.2,a.1⟩
theorem mod4(n:Int):(n.tmod 4+4).tmod 4=n%4:=by
 have b:=Int.emod_nonneg n (show(4:Int)≠0 by omega);have c:=Int.emod_lt_of_pos n (show(0:Int)<4 by omega);rw[Int.tmod_eq_emod (a:=n)];split
 ·rw[Int.tmod_eq_emod_of_nonneg (by omega)];omega
 ·rw[Int.tmod_eq_emod_of_nonneg (by omega)];omega
theorem Bu(r i:Nat)(x y n:Int)(s: -9223372036854775808<=n/\n<=9223372036854775807)(w:World)(h:Cz r i x y)(t:x.natAbs<9007199254740992)(u:y.natAbs<9007199254740992):
 Calls prog 340 #[.complex .f64 r i,int i64 n] w λc w'=>∃a b,c=returned (.complex .f64 a b)/\Cz a b (tN (n%4).toNat (x,y)).1 (tN (n%4).toNat (x,y)).2/\w=w':=by
 have z:=mod4 n;have j:=Int.emod_nonneg n (show(4:Int)≠0 by omega);have b:=Int.emod_lt_of_pos n (show(0:Int)<4 by omega);generalize n%4=a at*;obtain⟨a,rfl⟩:=Int.eq_ofNat_of_zero_le j;rw[Int.toNat_natCast]
 have A: -4<n.tmod 4/\n.tmod 4<4:=by
  rw[Int.tmod_eq_emod];have D:=Int.emod_nonneg n (show(4:Int)≠0 by omega);have E:=Int.emod_lt_of_pos n (show(0:Int)<4 by omega);split <;> omega
 have F:a<4:=by omega
 have l:=ae h;clear h b;generalize G:n.tmod 4=c at*;go_enter func340,ntmps340;go_wp2_with fail
 go_loop [0,9] (λd b=>∃(k r i:Nat),k<=a/\b=int i64 k/\d=.complex .f64 r i/\PH (Cz r i (tN k (x,y)).1 (tN k (x,y)).2)) (λ_ b=>a-(intOf b).toNat)
 case atStart=>exact⟨0,r,i,by omega,rfl,rfl,l⟩
 case round=>
  obtain⟨k,b,d,H,rfl,rfl,e⟩:=hrel;have I:=IG k x y;by_cases J:k<a
  ·obtain⟨f,g,m,o⟩:=MN e.o (by omega) (by omega)
   have p:=λc w=>run_complex_mul (P:=prog) w c b d 0 4607182418800017408 f g m;have q:=ae o
   go_wp2_with (simp only[p])
   go_round
   case rel=>exact⟨k+1,f,g,by omega,by go_num,rfl,q⟩
   case measure=>simp[intOf] <;> omega
  ·obtain rfl:k=a:=by omega
   go_wp2_with fail;go_ret;exact⟨b,d,rfl,e.o,rfl⟩
structure Sp where
 x:Int
 y:Int
 dx:Int
 dy:Int
 left:Int
 leg:Int
 sec:Bool
def Sp.start:Sp:=⟨0,0,1,0,1,1,false⟩
def Sp.leg'(s:Sp):Int:=if s.sec then s.leg+1 else s.leg
def Sp.on(s:Sp):Sp:=
 if 0<s.left-1 then ⟨s.x+s.dx,s.y+s.dy,s.dx,s.dy,s.left-1,s.leg,s.sec⟩
 else ⟨s.x+s.dx,s.y+s.dy,-s.dy,s.dx,s.leg',s.leg',!s.sec⟩
def Sp.small(s:Sp):Prop:=s.x.natAbs<1000000/\s.y.natAbs<1000000/\s.dx.natAbs<1000000/\s.dy.natAbs<1000000/\(0<=s.left/\s.left<1000000)/\(0<=s.leg/\s.leg<1000000)
def LI(w:World)(g:Nat)(s:Sp):Prop:=∃a b c d:Nat,Cz a b s.x s.y/\Cz c d s.dx s.dy/\
 Blk w g 341 #[.complex .f64 a b,.complex .f64 c d,int i64 s.left,int i64 s.leg,.bool s.sec]
theorem zy(w:World):
 Calls prog 278 #[] w λa w'=>∃g,a=returned (pointer (some ⟨g,0,none⟩))/\w.heap.size<=g/\LI w' g Sp.start/\Below w.heap.size w w':=by
 go_enter func278,ntmps278;go_wp2_with fail;go_ret;exact⟨_,rfl,aj _,⟨0,0,4607182418800017408,0,⟨iO,iO⟩,⟨Dg,iO⟩,Blk.new _ _ _⟩,(az _ _).alloc (aj _) _⟩
theorem vZ(P:Program)(w:World)(a:Addr)(m:Mode)(k:FloatKind)(x y:Nat):(store a (.complex k x y) m).run P w=stored P w a (.complex k x y) m:=run_store P w a _ m rfl
attribute [local go_sem] vZ
theorem dW{w w':World}{g:Nat}(a:w.grownBy w' (some g))(i:Nat)(v:Value):w.grownBy (w'.setCell ⟨g,i,none⟩ v) (some g):=
 ⟨a.os,a.tape,a.output,by have:=a.size;simpa using this,λb d c=>(heap_setCell_other w' ⟨g,i,none⟩ b _ (λe=>c (by simp[e]))).trans (a.block b d c)⟩
theorem II(g:Nat)(s:Sp)(w:World)(h:LI w g s)(hs:s.small):
 Calls prog 279 #[pointer (some ⟨g,0,none⟩)] w λu w'=>(∃v,u=returned v)/\LI w' g s.on/\w.grownBy w' (some g):=by
 obtain⟨S,T,x,y,left,J,z⟩:=s;obtain⟨A,D,c,d,E,e,b⟩:=h;obtain⟨K,M,N,b4,O,Q⟩:=hs;simp only at K M N b4 O Q E e b;obtain⟨f,i,a,p⟩:=O9 E e (by omega) (by omega);have q:=λj w=>run_complex_sum (P:=prog) w .add (Or.inl rfl) j .f64 A D c d f i a;have j:=b.cell 0;have l:=b.cell 1;have m:=b.cell 2;have n:=b.cell 3;have o:=b.cell 4;have F:=b.frozen 0;simp at j l m n o;go_enter func279,ntmps279
 go_wp2_with (simp only[q])
 go_still_tail 11,(by kernel_rfl)
 change wpList _ _ _ _ _ w.drew;clear j l m n o F q a;have a:Blk w.drew g 341 #[.complex .f64 A D,.complex .f64 c d,int i64 left,int i64 J,.bool z]:=b;have r:w.grownBy w.drew (some g):=⟨rfl,rfl,rfl,aj _,λ_ _ _=>rfl⟩;clear b;generalize w.drew=U at*;have F:=a.frozen 0;have V:=a.frozen 1;have W:=a.frozen 2;have X:=a.frozen 3;have Y:=a.frozen 4;have j:=a.cell 0;have l:=a.cell 1;have m:=a.cell 2;have n:=a.cell 3;have o:=a.cell 4;simp at j l m n o;have b:=ae a;have q:=ae r;clear a r;by_cases a:0<left-1
 ·go_wp2_with fail
  (try simp only[Exit.inBlock,Exit.then])
  refine bodyPost_ret (results_none rfl _ _ _) rfl ?_;refine⟨⟨_,rfl⟩,?_,dW (dW q.o _ _) _ _⟩;rw[Sp.on,bg a];exact⟨f,i,c,d,p,e,(b.o.set 0 _).set 2 _⟩
 ·have R:¬1<left:=by omega
  have Z:=ae R;go_wp2_with fail;refine(Bu c d x y 1 (by omega) _ e (by omega) (by omega)).mono ?_;rintro u w3 ⟨r,t,rfl,G,rfl⟩;have H:PH (Cz r t (-y) x):=ae G;clear G;have G:=ae p;have I:=ae a;clear p a;cases z
  ·go_wp2_with fail
   go_end0
   refine⟨⟨_,rfl⟩,?_,dW (dW (dW (dW (dW q.o _ _) _ _) _ _) _ _) _ _⟩;rw[Sp.on,bh (Int.not_lt.2 I.o)];exact⟨f,i,r,t,G.o,H.o,((((b.o.set 0 _).set 2 _).set 1 _).set 4 _).set 2 _⟩
  ·go_wp2_with fail
   go_end0
   refine⟨⟨_,rfl⟩,?_,dW (dW (dW (dW (dW (dW q.o _ _) _ _) _ _) _ _) _ _) _ _⟩;rw[Sp.on,bh (Int.not_lt.2 I.o)];exact⟨f,i,r,t,G.o,H.o,(((((b.o.set 0 _).set 2 _).set 1 _).set 3 _).set 4 _).set 2 _⟩
end
def Sp.it:Nat->Sp | 0=>Sp.start | n+1=>(Sp.it n).on
instance(s:Sp):Decidable s.small:=by unfold Sp.small;exact inferInstance
def Sp.chk:Nat->Sp->Bool | 0,s=>decide s.small | k+1,s=>decide s.small && Sp.chk k s.on
theorem PE:Sp.chk 4100 Sp.start=true:=by decide +kernel
theorem PF(n:Nat):∀(j k:Nat),k<=n->Sp.chk n (Sp.it j)=true->(Sp.it (j+k)).small:=by
 induction n with
 | zero=>intro j k b a;obtain rfl:k=0:=Nat.le_zero.1 b;exact ba a
 | succ n c=>
   intro j k b a;rw[Sp.chk,Bool.and_eq_true] at a;cases k with
   | zero=>exact ba a.1
   | succ k=>
     have:=c (j+1) k (by omega) a.2
     rwa [show j+1+k=j+(k+1) by omega] at this
theorem Lt{k:Nat}(a:k<=4100):(Sp.it k).small:=by
 have:=PF 4100 0 k a PE
 rwa [Nat.zero_add] at this
def Ip(n:Int):Int×Int:=if 0<=n/\n<4096 then ((Sp.it n.toNat).x,(Sp.it n.toNat).y) else (0,0)
theorem oG{P:Program}{Q:Exit->Act->World->Prop}{a:Act}{w:World}{h i j rest:Code}(l:Nat)(e:Nat->Act->World->Prop)(s:Nat)
 (u:findLabel (h.seq (i.seq (j.seq ((Code.label l).seq rest)))) l=some (Code.skip.seq rest))
 (first:h.wp P (Exit.then (λa w=>i.wp P (Exit.then (λa w=>j.wp P (Exit.then (e s) (Exit.jump l (λ_ _=>False) Q)) a w) (Exit.jump l (λ_ _=>False) Q)) a w) (Exit.jump l (λ_ _=>False) Q)) a w)
 (t:∀n a w,e n a w->rest.wp P (Exit.jump l (λg w'=>∃c,c<n/\e c g w') Q) a w):(Code.scope (h.seq (i.seq (j.seq ((Code.label l).seq rest))))).wp P Q a w:=by
 have m:∀ {o:Code} {p q:Act->World->Prop} {a:Act} {w:World},o.wp P (Exit.then p (Exit.jump l (λ_ _=>False) Q)) a w->(∀a w,p a w->q a w)->o.wp P (Exit.then q (Exit.jump l (λa w=>∃n,e n a w) Q)) a w:=by
  intro o p q a w d x;refine wp_mono d ?_;intro f g w' b;cases f with
  | normal=>exact x _ _ b
  | goto l'=>exact b.2.elim
  | exit id=>exact b
  | ret=>exact b
  | panic ch=>exact b
  | outgrown=>exact b
 refine wp_scope_jumps l (λa w=>∃n,e n a w) (λa w=>leastOf (λn=>e n a w)) u ?_ ?_
 ·refine wp_seq (m first λa w d=>wp_seq (m d λa w d=>wp_seq (m d λa w d=>wp_seq (wp_label ?_))))
  refine wp_mono (t s a w d) ?_;intro f g w' b;cases f with
  | goto l'=>exact⟨b.1,let ⟨c,_,r⟩:=b.2;⟨c,r⟩⟩
  | normal=>exact b
  | exit id=>exact b
  | ret=>exact b
  | panic ch=>exact b
  | outgrown=>exact b
 ·intro a w y
  refine wp_seq (wp_skip ?_);refine wp_mono (t _ a w (leastOf_spec y).1) ?_;intro f g w' b;cases f with
  | goto l'=>
    obtain⟨z,c,A,r⟩:=b;exact⟨z,⟨c,r⟩,Nat.lt_of_le_of_lt ((leastOf_spec ⟨c,r⟩).2 c r) A⟩
  | normal=>exact b
  | exit id=>exact b
  | ret=>exact b
  | panic ch=>exact b
  | outgrown=>exact b
theorem Lu(n:Int)(N: -9223372036854775808<=n/\n<=9223372036854775807)(w:World):
 Calls prog 219 #[int i64 n] w λg w'=>∃r i,g=returned (.complex .f64 r i)/\Cz r i (Ip n).1 (Ip n).2/\Below w.heap.size w w':=by
 by_cases c:0<=n/\n<4096
 ·have d:Ip n=((Sp.it n.toNat).x,(Sp.it n.toNat).y):=bg c
  rw[d];clear d;obtain⟨a,rfl⟩:=Int.eq_ofNat_of_zero_le c.1;rw[Int.toNat_natCast];have U:a<4096:=(by omega);clear N c;go_enter func219,ntmps219;go_wp2_with fail
  refine oG 0 (λn j w'=>∃(k b:Nat) (m o p u8 q s t u x y z A D E F G H I:Value),(k<=a/\n=a-k/\w.heap.size<=b/\PH (LI w' b (Sp.it k))/\PH (Below w.heap.size w w'))/\
   j= { tmps:=#[int i64 a,undef,.complex .f64 0 0,pointer (some ⟨b,0,none⟩),int i64 k,m,o,p,u8,q,s,t,u,x,y,z,A,D,E,F,G,H,I],defers:=[] }) a rfl ?_ ?_
  ·go_wp2_with fail
   refine(zy _).mono ?_;rintro g M ⟨b,rfl,l,J,K⟩;have f:=ae J;have e:=ae K;clear J K;go_wp2_with fail;exact⟨0,b,_,_,_,_,_,_,_,_,_,_,_,_,_,_,_,_,_,_,⟨by omega,by omega,l,f,e⟩,rfl⟩
  ·rintro n j wr ⟨k,b,m,o,p,u8,q,s,t,u,x,y,z,A,D,E,F,G,H,I,⟨V,rfl,l,f,e⟩,rfl⟩
   by_cases J:k=a
   ·have O:((k:Int) == (a:Int))=true:=by rw[J,beq_self_eq_true]
    obtain⟨P,Q,W,X,K,R,M⟩:=f.o;have S:=M.cell 0;simp at S;have T:=ae K;clear K R M;go_wp2_with fail;simp only[Exit.jump];go_ret;exact⟨P,Q,rfl,by rw[<-J];exact T.o,e.o⟩
   ·have O:((k:Int) == (a:Int))=false:=by rw[beq_eq_false_iff_ne];omega
    go_wp2_with fail;refine(II b (Sp.it k) _ f.o (Lt (by omega))).mono ?_;rintro g P ⟨⟨v,rfl⟩,K,M⟩;have Q:=ae K
    have R:PH (Below w.heap.size w P):=by
     refine e.o.trans ?_;exact((az _ wr).grown M e.o.size (λT S=>by simp at S;omega))
    clear K M;go_wp2_with fail;go_step3;exact⟨rfl,a-(k+1),by omega,k+1,b,_,_,_,_,_,_,_,_,_,_,_,_,_,_,_,_,_,_,⟨by omega,by omega,l,Q,R⟩,rfl⟩
 ·have d:Ip n=(0,0):=bh c
  rw[d];clear d;go_enter func219,ntmps219;go_wp2_with fail;refine oG 0 (λn j w'=>False) 0 rfl ?_ (λ_ _ _ h=>h.elim);by_cases a:n<0
  ·go_wp2_with fail
   simp only[Exit.jump];go_ret;exact⟨0,0,rfl,⟨iO,iO⟩,az _ _⟩
  ·have b:4096<=n:=by omega
   clear c;go_wp2_with fail;simp only[Exit.jump];go_ret;exact⟨0,0,rfl,⟨iO,iO⟩,az _ _⟩
def farI(x y u v:Int):Int:=(x-u)*(x-u)+(y-v)*(y-v)
theorem IJ{x:Int}(a:x.natAbs<=10000):0<=x*x/\x*x<=100000000:=by
 have b:0<=x*x:=by
  rcases Int.le_total 0 x with a | a
  ·exact Int.mul_nonneg a a
  ·exact Int.mul_nonneg_of_nonpos_of_nonpos a a
 refine⟨b,?_⟩;have c:(x*x).natAbs<=10000*10000:=by rw[Int.natAbs_mul];exact bn a a
 omega
theorem E0(d e f g:Nat)(x y u v:Int)(i:Cz d e x y)(j:Cz f g u v)(t:(x-u).natAbs<=10000)(z:(y-v).natAbs<=10000)(w:World):
 Calls prog 220 #[.complex .f64 d e,.complex .f64 f g] w λa w'=>∃r,a=returned (.float .f64 r)/\Fz r (farI x y u v)/\w=w':=by
 have A:=IJ t;have D:=IJ z;obtain⟨I,J,l,b,c⟩:=Pb i j (by omega) (by omega);obtain⟨K,m,n⟩:=rD b b (by omega);obtain⟨M,o,p⟩:=rD c c (by omega);obtain⟨N,q,s⟩:=yQ n p (by omega);have E:=λa w=>run_complex_sum (P:=prog) w .sub (Or.inr rfl) a .f64 _ _ _ _ _ _ l;have F:=λa w=>run_float_arith (P:=prog) w .mul a .f64 _ _ _ m;have G:=λa w=>run_float_arith (P:=prog) w .mul a .f64 _ _ _ o;have H:=λa w=>run_float_arith (P:=prog) w .add a .f64 _ _ _ q;have a:=ae s;clear i j b c n p s l m o q A D;go_enter func220,ntmps220
 go_wp2_with (simp only[E,F,G,H])
 go_ret;exact⟨_,rfl,a.o,rfl⟩
theorem EF(x:Nat)(a:Int)(w:World)(b:Fz x a):Calls prog 281 #[.float .f64 x] w λc w'=>c=returned (bool false)/\w'=w:=by
 have c:FloatKind.f64.format.order x x=some .eq:=by rw[Az b b];simp
 go_enter func281,ntmps281;go_wp2_with fail;go_ret;exact⟨by first | rfl | (simp[c]),rfl⟩
theorem O7(b o n c:Nat)(x:Int)(a:x≠0)(w:World)(e:0<n)(f:w.cell? ⟨b,o,none⟩=some (int i64 x)):Calls prog 223 #[slice (some ⟨b,o,none⟩) n c] w λd w'=>d=returned (int i64 x)/\w'=w:=by
 have g:(0:Int)<(n:Int):=by omega
 have i:(x == 0)=false:=by rw[beq_eq_false_iff_ne];exact a
 go_enter func223,ntmps223;go_wp2_with fail;go_loopw [8] (λd wr=>d=int i64 0/\PH (wr=w)) (λ_ _=>0)
 case atStart=>exact⟨rfl,ae rfl⟩
 case round=>
  obtain⟨rfl,d⟩:=hrel;obtain rfl:=d.o;go_wp2_with fail;go_ret;exact⟨rfl,rfl⟩
theorem Jl:(prog.info? 277).map (λa=>(a.zero,a.size,a.bytes))=some (some (.agg #[int i64 0,.float .f64 0]),2,16):=by kernel_rfl
def sH(s x:Nat):Rp:=rVs [int i64 s,.float .f64 x]
theorem OD(L:PI)(F:Nat->Prop)(a:PK)(n c id:Nat)(w:World)(e:(rI L).ok w F [slice a n c])(b:L.length=n)(f:0<n):
 Calls prog 161 #[slice a n c,int i64 id] w λd w'=>d=returned (int i64 (L.getD (id%n) 0:Nat))/\w'=w:=by
 obtain⟨p,q,d,g,-⟩:=dI e b;injection d with j r l;subst j l;obtain⟨s,t,rfl,u,i⟩:=g.2 f;have m:id%n<n:=Nat.mod_lt _ f;have x:=i (id%n) _ (bT (by rw[b];exact m));have y:Int.tmod (id:Int) (n:Int)=((id%n:Nat):Int):=by rw[Int.tmod_eq_emod_of_nonneg (by omega)];rfl
 have z:((n:Int) == 0)=false:=by rw[beq_eq_false_iff_ne];omega
 have A:¬n=0:=by omega
 have D:¬(n:Int)=0:=by omega
 generalize id%n=o at*;have E:(o:Int)<(n:Int):=by omega
 clear e g i b;go_enter func161,ntmps161;go_wp2_with fail;go_ret;exact⟨rfl,rfl⟩
section
variable {B:Nat}
theorem AY{w:World}{g:Nat}{T:TypeId}{j l m n o p q r:Value}(t:Blk w g T #[j,l,m,n,o,p,q,r])(a b c d e f h i:Value):
 Blk ((((((((w.setCell ⟨g,0,none⟩ a).setCell ⟨g,1,none⟩ b).setCell ⟨g,2,none⟩ c).setCell ⟨g,3,none⟩ d).setCell ⟨g,4,none⟩ e).setCell ⟨g,5,none⟩ f).setCell ⟨g,6,none⟩ h).setCell ⟨g,7,none⟩ i) g T #[a,b,c,d,e,f,h,i]:=by
 have u:((((((((#[j,l,m,n,o,p,q,r]:Array Value).setIfInBounds 0 a).setIfInBounds 1 b).setIfInBounds 2 c).setIfInBounds 3 d).setIfInBounds 4 e).setIfInBounds 5 f).setIfInBounds 6 h).setIfInBounds 7 i= #[a,b,c,d,e,f,h,i]:=by simp
 have s:=((((((((t.set 0 a).set 1 b).set 2 c).set 3 d).set 4 e).set 5 f).set 6 h).set 7 i);rw[u] at s;exact s
theorem vF{B g:Nat}{v w:World}(l:Below B v w)(a:B<=g)(b c d e f h i j:Value):
 Below B v ((((((((w.setCell ⟨g,0,none⟩ b).setCell ⟨g,1,none⟩ c).setCell ⟨g,2,none⟩ d).setCell ⟨g,3,none⟩ e).setCell ⟨g,4,none⟩ f).setCell ⟨g,5,none⟩ h).setCell ⟨g,6,none⟩ i).setCell ⟨g,7,none⟩ j):=
 (((((((l.setCell (p:=⟨g,0,none⟩) a b).setCell (p:=⟨g,1,none⟩) a c).setCell (p:=⟨g,2,none⟩) a d).setCell (p:=⟨g,3,none⟩) a e).setCell (p:=⟨g,4,none⟩) a f).setCell (p:=⟨g,5,none⟩) a h).setCell (p:=⟨g,6,none⟩) a i).setCell (p:=⟨g,7,none⟩) a j
theorem xH{g:Nat}(w:World)(c d e f h i j l:Value)(b:Nat)(a:b≠g):
 ((((((((w.setCell ⟨g,0,none⟩ c).setCell ⟨g,1,none⟩ d).setCell ⟨g,2,none⟩ e).setCell ⟨g,3,none⟩ f).setCell ⟨g,4,none⟩ h).setCell ⟨g,5,none⟩ i).setCell ⟨g,6,none⟩ j).setCell ⟨g,7,none⟩ l).heap[b]? =w.heap[b]? :=
 (bE _ _ _ b a).trans ((bE _ _ _ b a).trans ((bE _ _ _ b a).trans ((bE _ _ _ b a).trans ((bE _ _ _ b a).trans ((bE _ _ _ b a).trans ((bE _ _ _ b a).trans (bE _ _ _ b a)))))))
theorem Nn{v w:World}{a:PK}{d:PI}{q c:Nat}{vs:Array Value}(g:(rB d).ok w (λb=>Ty 5 w b) [slice a q c])(e:Below v.heap.size v w):
 Blk (w.alloc (.cells vs 178)) w.heap.size 178 vs/\(rB d).ok (w.alloc (.cells vs 178)) (λb=>Ty 5 (w.alloc (.cells vs 178)) b) [slice a q c]/\Below v.heap.size v (w.alloc (.cells vs 178)):=
 ⟨Blk.new w _ _,(rB _).keep g (λb e h=>by
   have f:=((az w.heap.size w).alloc (aj _) (.cells vs 178)).block b h;exact⟨f,e.keep f⟩),e.alloc e.size _⟩
theorem KE{v w:World}{G:Nat}{a:PK}{d:PI}{q c:Nat}{r s t u x y z A:Value}(D:(rB d).ok w (λm=>Ty 5 w m) [slice a q c])(n:Below v.heap.size v w)(o:Blk w G 178 #[r,s,t,u,x,y,z,A])(E:v.heap.size<=G)(b e f g h i j l:Value):
 Blk ((((((((w.setCell ⟨G,0,none⟩ b).setCell ⟨G,1,none⟩ e).setCell ⟨G,2,none⟩ f).setCell ⟨G,3,none⟩ g).setCell ⟨G,4,none⟩ h).setCell ⟨G,5,none⟩ i).setCell ⟨G,6,none⟩ j).setCell ⟨G,7,none⟩ l) G 178 #[b,e,f,g,h,i,j,l]/\
 (rB d).ok ((((((((w.setCell ⟨G,0,none⟩ b).setCell ⟨G,1,none⟩ e).setCell ⟨G,2,none⟩ f).setCell ⟨G,3,none⟩ g).setCell ⟨G,4,none⟩ h).setCell ⟨G,5,none⟩ i).setCell ⟨G,6,none⟩ j).setCell ⟨G,7,none⟩ l) (λm=>Ty 5 ((((((((w.setCell ⟨G,0,none⟩ b).setCell ⟨G,1,none⟩ e).setCell ⟨G,2,none⟩ f).setCell ⟨G,3,none⟩ g).setCell ⟨G,4,none⟩ h).setCell ⟨G,5,none⟩ i).setCell ⟨G,6,none⟩ j).setCell ⟨G,7,none⟩ l) m) [slice a q c]/\
 Below v.heap.size v ((((((((w.setCell ⟨G,0,none⟩ b).setCell ⟨G,1,none⟩ e).setCell ⟨G,2,none⟩ f).setCell ⟨G,3,none⟩ g).setCell ⟨G,4,none⟩ h).setCell ⟨G,5,none⟩ i).setCell ⟨G,6,none⟩ j).setCell ⟨G,7,none⟩ l):=
 ⟨AY o _ _ _ _ _ _ _ _,(rB _).keep D (λm n p=>by
   have p:=xH w b e f g h i j l m λm=>Ty.ne2 m n (Blk.ty o) (by decide);exact⟨p,n.keep p⟩),vF n E _ _ _ _ _ _ _ _⟩
end
section
variable {B:Nat}
def nW(P:List (Nat×PI))(x:Nat):Nat:=(P.filter λa=>a.1 == x).length
theorem Iq(y:Nat×PI)(x:Nat):([y].filter λa=>a.1 == x).length=if y.1=x then 1 else 0:=by
 by_cases a:y.1=x
 ·rw[bg a,filter_cons_of_pos (by simpa using a)];rfl
 ·rw[bh a,filter_cons_of_neg (by simpa using a)];rfl
theorem Ir(P:List (Nat×PI))(b x e f n c:Nat)(a:PK)(w:World)(l:Blk w e 3 #[int i64 b])(m:Blk w f 120 #[slice a n c])(u:(rS 2 (P.map cZ)).ok w (Fu w) [slice a n c])(y:P.length=n)(N:n<=1000)(O:b<=1000):
 Calls prog 106 (#[int i64 x]++#[pointer (some ⟨e,0,none⟩),pointer (some ⟨f,0,none⟩)]) w λd w'=>d=returned (int i64 (b+nW P x:Nat))/\Below w.heap.size w w':=by
 show Calls prog 106 #[int i64 x,pointer (some ⟨e,0,none⟩),pointer (some ⟨f,0,none⟩)] w _;have H:PH (Sx w w [bS e 3 #[int i64 b],bS f 120 #[slice a n c],eR (Fu w) (slice a n c) (rS 2 (P.map cZ))]):=ae ((((Sx.nil w).add (eR (Fu w) (slice a n c) (rS 2 (P.map cZ))) u).add (bS f _ _) m).add (bS e _ _) l);have o:=ae y;have Q:=l.cell 0;have R:=m.cell 0;have z:PH (b+nW (P.take 0) x=b):=ae rfl;clear l m u y;go_enter func106,ntmps106;go_wp2_with fail;have A:=ae (az w.heap.size w);go_loopw [5,11] (λv g wr=>∃k d:Nat,k<=n/\g=int i64 k/\v=int i64 d/\PH (b+nW (P.take k) x=d)/\PH (Below w.heap.size w wr)) (λ_ g _=>n-(intOf g).toNat)
 case atStart=>exact⟨0,b,by omega,rfl,rfl,z,A⟩
 case round=>
  clear z A;obtain⟨k,d,S,rfl,rfl,p,g⟩:=hrel;have D:=ae (H.o.step g.o);by_cases E:k<n
  ·have T:(k:Int)<(n:Int):=by omega
   have i:k<P.length:=(by rw[o.o];exact E);obtain⟨U,V,q,r,rfl,F,W,I,J,G⟩:=zM (D.o.rep 2 rfl) o.o E;have t:P.take (k+1)=P.take k++[P.getD k uu]:=by rw[aN i,af,ah i];rfl
   have j:PH (b+nW (P.take (k+1)) x=d+(if (P.getD k uu).1=x then 1 else 0)):=ae (by
    rw[t];unfold nW;rw[filter_append,aH,<-Nat.add_assoc];have h:=p.o;unfold nW at h;rw[h];rw[Iq])
   have X:d<=2000:=(by have h:=p.o;unfold nW at h;have K:=length_filter_le (λs:Nat×PI=>s.1 == x) (P.take k);rw[aG] at K;omega);clear i t F G;generalize P.getD k uu=s at*;obtain⟨i,t⟩:=s;simp only at*;have F:=(az wr.heap.size wr).alloc (aj _) (cells #[int i64 i,slice q t.length r] 165);have M:=ae (Blk.new wr 165 #[int i64 i,slice q t.length r]);have G:=ae (g.o.trans (F.mono g.o.size));clear F;go_upto_region 5 with fail;generalize wr.alloc (cells #[int i64 i,slice q t.length r] 165)=Y at*;have Z:=M.o.cell 0;clear I J g D;by_cases F:i=x
   ·subst F
    rw[bg rfl] at j;go_wp2_with fail;go_roundw
    case rel=>exact⟨k+1,d+1,by omega,by go_num,by go_num,j,G⟩
    case measure=>simp[intOf];omega
   ·rw[bh F,Nat.add_zero] at j
    have I:¬(i:Int)=(x:Int):=(by omega);go_wp2_with fail;go_roundw
    case rel=>exact⟨k+1,d,by omega,by go_num,rfl,j,G⟩
    case measure=>simp[intOf];omega
  ·obtain rfl:k=n:=by omega
   have i:PH (b+nW P x=d):=ae (by rw[<-p.o,aJ (by rw[o.o];exact aj _)]);go_wp2_with fail;go_ret;refine⟨?_,g.o⟩;rw[i.o];rfl
end
section
variable {B:Nat}
end
section
variable {B:Nat}
def OwnE(w:World)(C:Nat)(v:Value)(L:List cN)(k:Nat)(F1 F2:Nat->Prop):Prop:=
 ∃c,w.ownsRow C 65 4 v L.length c/\∀a b,L[a]? =some b->(bQ b).ok w (λb=>(if a<k then F1 b else F2 b)/\some b≠v.ownBlock) ((c.drop (a*4)).take 4)
theorem Ty.ne3{t t':TypeId}{w:World}{b a:Nat}(c:Ty t w b)(d:Ty t' w a)(e:t≠t'):b≠a:=λf=>Ty.ne2 f c d e
section
variable {w w':World} {C k:Nat} {v:Value} {L:List cN} {F1 F2 F3 F4:Nat->Prop}
theorem OwnE.of(d:OwnS w C 65 4 F2 v (L.map bQ)):OwnE w C v L 0 F1 F2:=by
 obtain⟨e,a,f⟩:=d;rw[aC] at a;refine⟨e,a,λb c g=>(bQ c).more (f b (bQ c) (by rw[List.getElem?_map,g];rfl)) λg c _=>⟨by rw[bh (Nat.not_lt_zero b)];exact c.1,c.2⟩⟩
theorem OwnE.own(f:OwnE w C v L k F1 F2)(j:L.length<=k):OwnS w C 65 4 F1 v (L.map bQ):=by
 obtain⟨g,h,i⟩:=f;refine⟨g,by rw[aC];exact h,λa l b=> ?_⟩;rw[List.getElem?_map,Option.map_eq_some_iff] at b;obtain⟨c,d,rfl⟩:=b;have m:a<L.length:=(List.getElem?_eq_some_iff.1 d).1;exact(bQ c).more (i a c d) λn e _=>⟨by have:=e.1;rwa [bg (by omega)] at this,e.2⟩
theorem OwnE.keep(h:OwnE w C v L k F1 F2)(i:∀b,v.ownBlock=some b->w'.heap[b]? =w.heap[b]?)(f:∀b,F1 b->some b≠v.ownBlock->b<w.heap.size->w'.heap[b]? =w.heap[b]? /\F3 b)(g:∀b,F2 b->some b≠v.ownBlock->b<w.heap.size->w'.heap[b]? =w.heap[b]? /\F4 b):OwnE w' C v L k F3 F4:=by
 obtain⟨j,l,m⟩:=h;refine⟨j,mX l i,λc a d=>(bQ a).keep (m c a d) λb a d=> ?_⟩;by_cases e:c<k
 ·have c:=a.1
  rw[bg e] at c;exact⟨(f b c a.2 d).1,by rw[bg e];exact(f b c a.2 d).2,a.2⟩
 ·have c:=a.1
  rw[bh e] at c;exact⟨(g b c a.2 d).1,by rw[bh e];exact(g b c a.2 d).2,a.2⟩
theorem OwnE.lt(a:OwnE w C v L k F1 F2):∀b,v.ownBlock=some b->C<=b/\b<w.heap.size:=by
 obtain⟨d,c,-⟩:=a;exact c.lt
theorem OwnE.ty(c:OwnE w C v L k F1 F2):∀b,v.ownBlock=some b->Ty 65 w b:=by
 obtain⟨f,d,-⟩:=c;intro b a;rcases d.2 with⟨rfl,-⟩ | ⟨g,h,i,rfl,_,e,_⟩
 ·simp[Value.ownBlock] at a
 ·simp[Value.ownBlock] at a
  subst a;exact⟨_,_,e⟩
theorem nI{e:cN}{F:Nat->Prop}{d:List Value}(f:(bQ e).ok w F d):∃a c,d=[.string e.name,int i64 e.obj,int i64 e.len,slice a e.tries.length c]/\(rI e.tries).ok w F [slice a e.tries.length c]:=by
 obtain⟨g,o,rfl,h,b⟩:=f;have i:g=[.string e.name,int i64 e.obj,int i64 e.len]:=h.1;subst i;have j:=(rI e.tries).len b;obtain⟨p,rfl⟩:=length_eq_one_iff.1 j;obtain⟨l,m,n,-⟩:=dI b rfl;subst n;exact⟨l,m,rfl,b⟩
theorem yY{e:cN}{F:Nat->Prop}{a:PK}{c:Nat}(d:(rI e.tries).ok w F [slice a e.tries.length c]):(bQ e).ok w F [.string e.name,int i64 e.obj,int i64 e.len,slice a e.tries.length c]:=
 ⟨[.string e.name,int i64 e.obj,int i64 e.len],[slice a e.tries.length c],rfl,Co (by intro f b;simp at b;rcases b with rfl | rfl | rfl <;> rfl),d⟩
theorem OwnE.at(h:OwnE w C v L k F1 F2){i n:Nat}(j:L.length=n)(z:i<n):∃g c a b,v=slice (some ⟨g,0,none⟩) n c/\(C<=g/\g<w.heap.size)/\w.cell? ⟨g,i*4+3,none⟩=some (slice a (L.getD i bO).tries.length b)/\w.frozen? ⟨g,i*4+3,none⟩=false/\(rI (L.getD i bO).tries).ok w (λe=>if i<k then F1 e else F2 e) [slice a (L.getD i bO).tries.length b]:=by
 obtain⟨f,d,l⟩:=h;have m:i<L.length:=by omega
 have o:L[i]? =some (L.getD i bO):=by rw[af,ah m];rfl
 obtain⟨a,b,p,q⟩:=nI (l i _ o);have A:f.length=L.length*4:=d.1;rcases d.2 with⟨rfl,D⟩ | ⟨g,r,E,rfl,s,F,_⟩
 ·omega
 ·have t:f[i*4+3]? =some (slice a (L.getD i bO).tries.length b):=by
   have u:((f.drop (i*4)).take 4)[3]? =some (slice a (L.getD i bO).tries.length b):=by rw[p];rfl
   rwa [List.getElem?_take,bg (by omega),List.getElem?_drop] at u
  have x:=World.ownsRow.cellAt d (i*4+3) (by omega);refine⟨g,r,a,b,by rw[j],⟨s,(d.lt g rfl).2⟩,?_,d.frozenAt _,(rI _).more q λe y _=>y.1⟩;rw[x];exact t
theorem OwnE.set{g c n:Nat}(r:OwnE w C (slice (some ⟨g,0,none⟩) n c) L k F1 F2)(s:L.length=n)(x:k<n){a':PK}{c':Nat}(t:(rI (L.getD k bO).tries).ok w F1 [slice a' (L.getD k bO).tries.length c'])(p:∀b,F1 b->b≠g):OwnE (w.setCell ⟨g,k*4+3,none⟩ (slice a' (L.getD k bO).tries.length c')) C (slice (some ⟨g,0,none⟩) n c) L (k+1) F1 F2:=by
 obtain⟨f,q,m⟩:=r;subst s;have y:f.length=L.length*4:=q.1;refine⟨f.set (k*4+3) (slice a' (L.getD k bO).tries.length c'),(World.ownsRow.stored q _ _).1,λa e h=> ?_⟩;have z:a<L.length:=(List.getElem?_eq_some_iff.1 h).1;have o:∀b,b≠g->(w.setCell ⟨g,k*4+3,none⟩ (slice a' (L.getD k bO).tries.length c')).heap[b]? =w.heap[b]? :=λb d=>bE _ _ _ b d;obtain⟨A,D,u,E⟩:=nI (m a e h);rcases Nat.lt_trichotomy a k with l | l | l
 ·have i:((f.set (k*4+3) (slice a' (L.getD k bO).tries.length c')).drop (a*4)).take 4=(f.drop (a*4)).take 4:=by
   rw[drop_set,bh (by omega),take_set_of_le (by omega)]
  rw[i];refine(bQ e).keep (m a e h) λb d _=>⟨o b λe=>d.2 (by rw[e];rfl),?_,d.2⟩;have j:=d.1;rw[bg l] at j;rw[bg (by omega)];exact j
 ·subst l
  obtain rfl:e=L.getD a bO:=by rw[af,h];rfl
  have i:((f.set (a*4+3) (slice a' (L.getD a bO).tries.length c')).drop (a*4)).take 4=[.string (L.getD a bO).name,int i64 (L.getD a bO).obj,int i64 (L.getD a bO).len,slice a' (L.getD a bO).tries.length c']:=by
   rw[drop_set,bh (by omega),show a*4+3-a*4=3 by omega,take_set,u];rfl
  rw[i];refine yY ((rI _).keep t λb d _=>⟨o b (p b d),by rw[bg (by omega)];exact d,λe=>p b d ?_⟩);simpa[Value.ownBlock] using e
 ·have i:((f.set (k*4+3) (slice a' (L.getD k bO).tries.length c')).drop (a*4)).take 4=(f.drop (a*4)).take 4:=by
   rw[drop_set,bg (by omega)]
  rw[i];refine(bQ e).keep (m a e h) λb d _=>⟨o b λe=>d.2 (by rw[e];rfl),?_,d.2⟩;have j:=d.1;rw[bh (by omega)] at j;rw[bh (by omega)];exact j
end
theorem KF(L:List cN)(F:Nat->Prop)(a:PK)(n c:Nat)(w:World)(d:(rS 4 (L.map bQ)).ok w F [slice a n c])(f:n<=1000):
 Calls prog 100 #[slice a n c] w λe w'=>∃v,e=returned v/\OwnS w' w.heap.size 65 4 (λb=>F b/\b<w.heap.size) v (L.map bQ)/\Below w.heap.size w w':=by
 cases a with
 | some b=>exact Hu L F b n c w d f
 | none=>
   obtain⟨p,q,r,b,s,t,g,h,u,x,y,z⟩:=d;injection b with b _;injection b with i j l;subst i j l;have m:c=0:=g rfl;have o:n=0:=(by omega);subst m o;obtain rfl:L=[]:=eq_nil_of_length_eq_zero (by rw[aC] at h;omega);refine(wL w).mono ?_;rintro e w' ⟨rfl,rfl⟩;exact⟨_,rfl,OwnS.nil _ _ _ _ _,az _ _⟩
theorem KG(m:cQ)(z q:PK)(r A o s:Nat)(F:Nat->Prop)(w:World)(hd:(rI m.drives).ok w F [slice z r A])(ao:m.drives.length=r)(hn:r<=1000)(ho:(rS 4 (m.objs.map bQ)).ok w F [slice q o s])(ap:m.objs.length=o)(aT:o<=12)(R:∀e∈m.objs,e.tries.length<=1000):
 Calls prog 49 #[.agg (bV m (slice z r A) (slice q o s))] w λS w'=>∃v O,S=returned (.agg (bV m v O))/\OwnI w' w.heap.size v m.drives/\OwnS w' w.heap.size 65 4 (λa=>Ty 3 w' a/\w.heap.size<=a) O (m.objs.map bQ)/\Below w.heap.size w w':=by
 have CC:=ae λw (h:(rI m.drives).ok w F [slice z r A])=>ll m.drives F z r A w h ao (by omega);have CE:=ae λw' (h:(rS 4 (m.objs.map bQ)).ok w' (Bl w.heap.size) [slice q o s])=>KF m.objs (Bl w.heap.size) q o s w' h (by omega);obtain⟨d,b⟩:∃d,d=(w.alloc (cells #[int i64 m.seq,int i64 m.next,int i64 m.K,int i64 m.H,int i64 m.Z,int i64 m.extra,slice z r A,slice q o s] 68)).alloc (cells #[int i64 0,int i64 0,int i64 0,int i64 0,int i64 0,int i64 0,slice none 0 0,slice none 0 0] 68):=⟨_,rfl⟩;have c:(w.alloc (cells #[int i64 m.seq,int i64 m.next,int i64 m.K,int i64 m.H,int i64 m.Z,int i64 m.extra,slice z r A,slice q o s] 68)).heap.size=w.heap.size+1:=by simp
 have D:PH (Blk d w.heap.size 68 #[int i64 m.seq,int i64 m.next,int i64 m.K,int i64 m.H,int i64 m.Z,int i64 m.extra,slice z r A,slice q o s]):=ae (by rw[b];exact(Blk.new w _ _).alloc _);have T:PH (Blk d (w.heap.size+1) 68 #[int i64 0,int i64 0,int i64 0,int i64 0,int i64 0,int i64 0,slice none 0 0,slice none 0 0]):=ae (by rw[b,<-c];exact Blk.new _ _ _);have ai:PH (Below w.heap.size w d):=ae (by rw[b];exact((az _ _).alloc (aj _) _).alloc (by simp) _);have ak:=ae ((rI _).new hd ai.o);have aa:=ae ((rS 4 _).new ((rS 4 _).bl ho) ai.o);have f:=ae b;have aE:=ae R;unfold bV;have U:=ae ap;clear hd ao hn b c ho R ap;go_enter func49,ntmps49;go_upto_region 1 with fail;rw[<-f.o];have aq:w.heap.size<d.heap.size:=D.o.lt;clear f;obtain⟨b,c⟩:∃b,b=w.heap.size:=⟨_,rfl⟩;rw[<-c] at D T aq aa CE ⊢;have G:d.cell? ⟨b,6,none⟩=some (slice z r A):=D.o.cell 6;have X:d.cell? ⟨b,7,none⟩=some (slice q o s):=D.o.cell 7;have HG:=ae c;clear c;go_cut [] (λc=>∃v O,PH (OwnI c d.heap.size v m.drives)/\PH (OwnS c d.heap.size 65 4 (Bl b) O (m.objs.map bQ))/\PH (Blk c b 68 #[int i64 m.seq,int i64 m.next,int i64 m.K,int i64 m.H,int i64 m.Z,int i64 m.extra,v,O])/\PH (Blk c (b+1) 68 #[int i64 0,int i64 0,int i64 0,int i64 0,int i64 0,int i64 0,slice none 0 0,slice none 0 0])/\PH (Below b d c))
 case first=>
  go_region_law (first
   | (have HQ:=Q
      go_simp;go_at_call 100;refine(CE.o u ((rS 4 _).new aa.o j)).mono ?_;rintro S t ⟨J,rfl,x,l⟩;have y:PH (OwnI t d.heap.size K m.drives):=ae (Q.o.below l);have E:PH (OwnS t d.heap.size 65 4 (Bl b) J (m.objs.map bQ)):=ae (x.base j.size λa c=>c.1);replace l:=j.trans (l.mono j.size);have n:=ae (D.o.below l D.o.lt);have V:=ae (T.o.below l T.o.lt);have W:=ae l;obtain⟨M,N,P,rfl⟩:=E.o.sl;obtain⟨f,g,i,rfl⟩:=y.o.sl;have ab:t.cell? ⟨b,6,none⟩=some (slice z r A):=n.o.cell 6;have ac:t.cell? ⟨b,7,none⟩=some (slice q o s):=n.o.cell 7;have ad:=n.o.frozen 6;have ag:=(n.o.set 6 (slice f g i)).frozen 7;have am:(t.setCell ⟨b,6,none⟩ (slice f g i)).cell? ⟨b,7,none⟩=some (slice q o s):=(by simpa using(n.o.set 6 (slice f g i)).cell 7);clear x l H j;go_simp)
   | (have HQ:=Y
      go_simp;go_at_call 99;refine(CC.o u ((rI _).new ak.o j)).mono ?_;rintro S t ⟨K,rfl,x,l⟩;have E:PH (OwnS t d.heap.size 65 4 (Bl b) J (m.objs.map bQ)):=ae (Y.o.new l);have y:PH (OwnI t d.heap.size K m.drives):=ae (OwnI.base x j.size);replace l:=j.trans (l.mono j.size);have n:=ae (D.o.below l D.o.lt);have V:=ae (T.o.below l T.o.lt);have W:=ae l;obtain⟨M,N,P,rfl⟩:=E.o.sl;obtain⟨f,g,i,rfl⟩:=y.o.sl;have ab:t.cell? ⟨b,6,none⟩=some (slice z r A):=n.o.cell 6;have ac:t.cell? ⟨b,7,none⟩=some (slice q o s):=n.o.cell 7;have ad:=n.o.frozen 6;have ag:=(n.o.set 6 (slice f g i)).frozen 7;have am:(t.setCell ⟨b,6,none⟩ (slice f g i)).cell? ⟨b,7,none⟩=some (slice q o s):=(by simpa using(n.o.set 6 (slice f g i)).cell 7);clear x l H j;go_simp)
   | (go_simp
      go_at_call 99;refine(CC.o d.drew ak.o).mono ?_;rintro S u ⟨K,rfl,H,j⟩;replace j:=bP j;have Q:PH (OwnI u d.heap.size K m.drives):=ae H;have I:=ae (D.o.below j D.o.lt);have an:u.cell? ⟨b,6,none⟩=some (slice z r A):=I.o.cell 6;have al:u.cell? ⟨b,7,none⟩=some (slice q o s):=I.o.cell 7;go_simp)
   | (go_simp
      go_at_call 100;refine(CE.o d.drew aa.o).mono ?_;rintro S u ⟨J,rfl,H,j⟩;replace j:=bP j;have Y:PH (OwnS u d.heap.size 65 4 (Bl b) J (m.objs.map bQ)):=ae (H.base (aj _) λa c=>c.1);have I:=ae (D.o.below j D.o.lt);have an:u.cell? ⟨b,6,none⟩=some (slice z r A):=I.o.cell 6;have al:u.cell? ⟨b,7,none⟩=some (slice q o s):=I.o.cell 7;go_simp))
  all_goals(
   have Z:∀a,(Value.slice f g i).ownBlock=some a->a≠b:=λa c e=>Ty.ne2 e (y.o.ty a c) (Blk.ty n.o) (by decide);have ar:Below b d t:=W.o.mono (by omega);go_simp;refine ‹∀(a':Act) (w':World),Met _ a' w'->_› _ _ ?_;go_meet;refine⟨slice f g i,slice M N P,ae (y.o.keepO λa c=>(bE _ _ _ a (Z a c)).trans (bE _ _ _ a (Z a c))),ae (E.o.keepAt (λa c=> ?_) λa c _ _=> ?_),ae ?_,ae ((V.o.far (show b+1≠b by omega) _).far (show b+1≠b by omega) _),ae ((ar.setCell (p:=⟨b,6,none⟩) (aj _) _).setCell (p:=⟨b,7,none⟩) (aj _) _)⟩
   ·have h:a≠b:=λe=>Ty.ne2 e (E.o.ownTy a c) (Blk.ty n.o) (by decide)
    exact(bE _ _ _ a h).trans (bE _ _ _ a h)
   ·have h:a≠b:=λe=>by have h1:a<b:=c;omega
    exact(bE _ _ _ a h).trans (bE _ _ _ a h)
   ·simpa using(n.o.set 6 (slice f g i)).set 7 (slice M N P))
 case rest=>
  obtain⟨v,O,I,P,H,E,M⟩:=hcut;rename World=>w5;clear G X CE aa ak;obtain⟨f,g,i,rfl⟩:=I.o.sl;have ar:PH (OwnE w5 d.heap.size O m.objs 0 (λa=>Ty 3 w5 a/\b<=a) (Bl b)):=ae (OwnE.of P.o);obtain⟨t,l,rfl,-⟩:=P.o.val;generalize j:(m.objs.map bQ).length=x at*;obtain rfl:x=o:=(by rw[<-j,aC];exact U.o);clear j;clear P CC;have X:w5.cell? ⟨b,7,none⟩=some (slice t x l):=H.o.cell 7;go_wp2_with fail;clear X;generalize j:m.objs=L at*;have HL:=ae j;clear j;go_loopw [15] (λN wr=>∃k:Nat,k<=x/\N=int i64 k/\PH (OwnI wr d.heap.size (slice f g i) m.drives)/\PH (Blk wr b 68 #[int i64 m.seq,int i64 m.next,int i64 m.K,int i64 m.H,int i64 m.Z,int i64 m.extra,slice f g i,slice t x l])/\PH (Blk wr (b+1) 68 #[int i64 0,int i64 0,int i64 0,int i64 0,int i64 0,int i64 0,slice none 0 0,slice none 0 0])/\PH (Below b d wr)/\PH (OwnE wr d.heap.size (slice t x l) L k (λa=>Ty 3 wr a/\b<=a) (Bl b))) (λN _=>x-(intOf N).toNat)
  case atStart=>exact⟨0,by omega,rfl,I,H,E,M,ar⟩
  case round=>
   clear I H E M ar;obtain⟨k,aV,rfl,I,H,E,M,V⟩:=hrel;by_cases ab:k<x
   ·have aX:(k:Int)<(x:Int):=by omega
    obtain⟨j,a0,a8,c8,e8,y,e3,f3,K⟩:=V.o.at U.o ab;injection e8 with e8 _ J;subst e8 J;have Q:(L.getD k bO).tries.length<=1000:=aE.o _ (by rw[af,ah (by rw[U.o];exact ab)];exact aQ _);have u:=ae K;obtain⟨n,R⟩:∃n,n=(L.getD k bO).tries:=⟨_,rfl⟩;rw[<-R] at u e3 Q;have au:=ae R;have CT:=ae λW (h:(rI n).ok W (Bl b) [slice a8 n.length c8])=>ll n (Bl b) a8 n.length c8 W h rfl (by omega);have X:wr.cell? ⟨b,7,none⟩=some (slice (some ⟨j,0,none⟩) x l):=H.o.cell 7;have av:=ae (show b<=wr.heap.size from M.o.size |> aP (Nat.le_of_lt aq));have ac:PH (d.heap.size<=j/\j<wr.heap.size):=ae y;have aw:PH ((rI n).ok wr (Bl b) [slice a8 n.length c8]):=ae ((rI _).more u.o λa c _=>by simpa using c);clear K y R u Q;go_upto_region 5 with fail
    go_region_law (go_simp
                   go_at_call 99;refine(CT.o wr.drew aw.o).mono ?_;rintro S u ⟨v6,rfl,Q,y⟩;replace y:=bP y;have am:=ae (H.o.below y H.o.lt);have ax:=ae (E.o.below y E.o.lt);have W:PH (OwnE u d.heap.size (slice (some ⟨j,0,none⟩) x l) L k (λa=>Ty 3 u a/\b<=a) (Bl b)):=ae (V.o.keep (λa c=>y.block a (V.o.lt a c).2) (λa c _ Y=>⟨y.block a Y,c.1.keep (y.block a Y),c.2⟩) λa c _ Y=>⟨y.block a Y,c⟩);have Z:=ae (I.o.below y);have ad:=ae (M.o.trans (y.mono av.o));have ay:=ae Q;have a5:=ae y.size;obtain⟨K,G,rfl⟩:=Q.lenA;have al:u.cell? ⟨b,7,none⟩=some (slice (some ⟨j,0,none⟩) x l):=am.o.cell 7;have aF:u.cell? ⟨j,k*4+3,none⟩=some (slice a8 n.length c8):=(y.cell (p:=⟨j,k*4+3,none⟩) ac.o.2).trans e3;have aK:u.frozen? ⟨j,k*4+3,none⟩=false:=(by obtain⟨g9,_,_,_,J,_,_,h9,_⟩:=W.o.at U.o ab;injection J with J;injection J with J;injection J with J;subst J;exact h9);clear Q y;go_simp)
    all_goals(
     clear X e3 al aF f3 aK CT;have ag:Ty 65 u j:=W.o.ty j rfl;have aA:b≠j:=(by have:=ac.o;omega);have aB:b+1≠j:=(by have:=ac.o;have:=T.o.lt;omega);have aL:=ae (am.o.far (p:=⟨j,k*4+3,none⟩) aA (slice K n.length G));have aM:=ae (ax.o.far (p:=⟨j,k*4+3,none⟩) aB (slice K n.length G));have an:∀a,a≠j->(u.setCell ⟨j,k*4+3,none⟩ (slice K n.length G)).heap[a]? =u.heap[a]? :=λa c=>bE _ _ _ a c
     have aR:PH (OwnE (u.setCell ⟨j,k*4+3,none⟩ (slice K n.length G)) d.heap.size (slice (some ⟨j,0,none⟩) x l) L (k+1) (λa=>Ty 3 (u.setCell ⟨j,k*4+3,none⟩ (slice K n.length G)) a/\b<=a) (Bl b)):=ae (by
      have h:=W.o.set U.o ab (a':=K) (c':=G) (by rw[<-au.o];exact(rI n).more (IU ay.o) λa c _=>⟨c.1,aP av.o c.2⟩) (λa c=>Ty.ne3 c.1 ag (by decide));rw[<-au.o] at h;obtain⟨cs,g1,g2⟩:=h;refine⟨cs,g1,λN e Q=>(bQ e).more (g2 N e Q) λa c _=>⟨?_,c.2⟩⟩;by_cases aD:N<k+1
      ·have Q:=c.1
       rw[bg aD] at Q ⊢;exact⟨Q.1.keep (an a (Ty.ne3 Q.1 ag (by decide))),Q.2⟩
      ·have Q:=c.1
       rw[bh aD] at Q ⊢;exact Q)
     have Q:PH (OwnI (u.setCell ⟨j,k*4+3,none⟩ (slice K n.length G)) d.heap.size (slice f g i) m.drives):=ae (Z.o.keepO λa c=>an a (Ty.ne3 (Z.o.ty a c) ag (by decide)));have aS:PH (Below b d (u.setCell ⟨j,k*4+3,none⟩ (slice K n.length G))):=ae (ad.o.setCell (p:=⟨j,k*4+3,none⟩) (by show b<=j;have:=ac.o;omega) _);clear am ax W Z ad ay H E V I M aw aA aB an ag;generalize u.setCell ⟨j,k*4+3,none⟩ (slice K n.length G)=w7 at*;go_wp2_with fail;go_roundw
     case rel=>exact⟨k+1,by omega,by go_num,Q,aL,aM,aS,aR⟩
     case measure=>simp[intOf];omega)
   ·obtain rfl:k=x:=by omega
    have P:PH (OwnS wr d.heap.size 65 4 (λa=>Ty 3 wr a/\b<=a) (slice t k l) (L.map bQ)):=ae (V.o.own (by rw[U.o];exact aj _));obtain⟨y,J,K,Q,S,x5,x6,x7⟩:=bY H.o
    go_wp2_with (change wpList _ _ _ (Oper.mk none (Op.store 68 _ _) _ _ _ _ :: _) _ _;refine wpList_store_row rfl 68 _ _ rfl (b+1) #[int i64 m.seq,int i64 m.next,int i64 m.K,int i64 m.H,int i64 m.Z,int i64 m.extra,slice f g i,slice t k l] rfl rfl 68 _ E.o (by kernel_rfl) rfl (by kernel_rfl) ?_)
    have HR:=ae (E.o.row #[int i64 m.seq,int i64 m.next,int i64 m.K,int i64 m.H,int i64 m.Z,int i64 m.extra,slice f g i,slice t k l]);have ad:=ae (bW M.o (Nat.le_succ b) #[int i64 m.seq,int i64 m.next,int i64 m.K,int i64 m.H,int i64 m.Z,int i64 m.extra,slice f g i,slice t k l]);have j:∀a,a≠b+1->(wr.setRow (b+1) #[int i64 m.seq,int i64 m.next,int i64 m.K,int i64 m.H,int i64 m.Z,int i64 m.extra,slice f g i,slice t k l]).heap[a]? =wr.heap[a]? :=λa c=>setRow_other _ _ _ _ (by first | exact c | exact c.symm);have Z:PH (OwnI (wr.setRow (b+1) #[int i64 m.seq,int i64 m.next,int i64 m.K,int i64 m.H,int i64 m.Z,int i64 m.extra,slice f g i,slice t k l]) d.heap.size (slice f g i) m.drives):=ae (I.o.keepO λa c=>j a (Ty.ne3 (I.o.ty a c) (Blk.ty E.o) (by decide)))
    have W:PH (OwnS (wr.setRow (b+1) #[int i64 m.seq,int i64 m.next,int i64 m.K,int i64 m.H,int i64 m.Z,int i64 m.extra,slice f g i,slice t k l]) d.heap.size 65 4 (λa=>Ty 3 (wr.setRow (b+1) #[int i64 m.seq,int i64 m.next,int i64 m.K,int i64 m.H,int i64 m.Z,int i64 m.extra,slice f g i,slice t k l]) a/\b<=a) (slice t k l) (L.map bQ)):=ae (by
     have ac:=P.o.ownTy;obtain⟨cs,g1,g2⟩:=P.o
     exact⟨cs,mX g1 λa c=>j a (Ty.ne3 (ac a c) (Blk.ty E.o) (by decide)),λN n hR=>n.keep (g2 N n hR) λa c Y=>by
      have h:=j a (Ty.ne3 c.1.1 (Blk.ty E.o) (by decide));exact⟨h,⟨c.1.1.keep h,c.1.2⟩,c.2⟩⟩)
    clear H E M I V P j y J K Q S x5 x6 x7;generalize wr.setRow (b+1) #[int i64 m.seq,int i64 m.next,int i64 m.K,int i64 m.H,int i64 m.Z,int i64 m.extra,slice f g i,slice t k l]=u at*;go_wp2_with fail
    (try simp only[Exit.inBlock,Exit.then])
    refine bodyPost_ret (results_cell_row rfl _ _ (b+1) 68 #[int i64 m.seq,int i64 m.next,int i64 m.K,int i64 m.H,int i64 m.Z,int i64 m.extra,slice f g i,slice t k l] (0,0) _ rfl HR.o underlying68 rfl (by kernel_rfl)) rfl ?_;rw[<-HG.o];exact⟨_,_,rfl,Z.o.base (by omega),by rw[HL.o];exact W.o.base (by omega) λa c=>c,(HG.o▸ai.o).trans ad.o⟩
end
section
variable {B:Nat}
def IA:Go.Shelf.Ren:=⟨fun | 25=>177 | a=>a,fun | 37=>30 | 47=>307 | a=>a,λa=>a⟩
theorem EX:LaysPu.n25 prog IA:= {
 mixed:=by kernel_rfl,
 f25:=func177.trans (congrArg some (by kernel_rfl)),
 t0:=underlying0,a0:=Tryz.isAgg0,z0:=Tryz.sizeOf0,v0:=Tryz.zeroValue0,i0:=by kernel_rfl,
 t3:=underlying3,a3:=Tryz.isAgg3,z3:=Tryz.sizeOf3,v3:=Tryz.zeroValue3,i3:=by kernel_rfl,
 t4:=underlying4,a4:=Tryz.isAgg4,z4:=Tryz.sizeOf4,v4:=Tryz.zeroValue4,i4:=by kernel_rfl,
 t5:=underlying5,a5:=Tryz.isAgg5,z5:=Tryz.sizeOf5,v5:=Tryz.zeroValue5,i5:=by kernel_rfl,
 t9:=underlying9,a9:=Tryz.isAgg9,z9:=Tryz.sizeOf9,v9:=Tryz.zeroValue9,i9:=by kernel_rfl,
 t37:=underlying30,a37:=Tryz.isAgg30,z37:=Tryz.sizeOf30,v37:=Tryz.zeroValue30,i37:=by kernel_rfl,
 t47:=underlying307,a47:=Tryz.isAgg307,z47:=Tryz.sizeOf307,v47:=Tryz.zeroValue307,i47:=by kernel_rfl }
theorem EY(s:ByteArray)(w:World)(hs:s.size<=1000):Calls prog 117 #[.string s] w λa w'=>a=returned (.string s)/\Below w.heap.size w w':=by
 have b:PH (Calls prog 177 #[.string s] w λa w'=>a=returned (.string s)/\Below w.heap.size w w'):=ae (AnyPu.stringslite_Clone EX s w (by omega));go_enter func117,ntmps117;go_wp2_with fail;refine b.o.mono ?_;rintro a e ⟨rfl,c⟩;have d:=ae c;clear c b;go_wp2_with fail;go_ret;exact⟨rfl,d.o⟩
theorem EZ:(prog.info? 9).map (λa=>(a.zero,a.size,a.bytes))=some (some (.string .empty),1,16):=by kernel_rfl
theorem Oq(g:Nat)(f:Fl)(m:cQ)(R:Nat->List PI)(w:World)(h:Stq B w g f m R)(O:m.objs.length<=12)(D:∀e∈m.objs,e.name.size<=1000):
 Calls prog 54 #[pointer (some ⟨g,0,none⟩)] w λe w'=>∃v,e=returned v/\OwnS w' w.heap.size 9 1 (λ_=>False) v (m.objs.map λe=>rV (.string e.name))/\Below w.heap.size w w':=by
 have c:PH (Sx w w [jW B g f m R]):=ae ((Sx.nil w).add (jW B g f m R) h);have d:=ae (AK g f m R w h);have P:=ae D;obtain⟨o,a⟩:∃o,m.objs.length=o:=⟨_,rfl⟩;have n:=ae a;rw[a] at O;clear h D a;go_enter func54,ntmps54;go_wp2_with fail;refine d.o.mono ?_;rintro e a ⟨rfl,b⟩;have Q:=ae (c.o.step b);have p:=ae b;clear b d c;obtain⟨-,⟨vd,vo,i,-,c⟩,-⟩:=Q.o.stq 0 rfl;obtain⟨a2,d,c2,rfl⟩:=kO c;obtain rfl:d=o:=by have h:=Cs c;rw[aC] at h;exact h.symm.trans n.o
 obtain⟨j,l,q,r,s,t,u,x,-⟩:=fS i;have S:=ae c;have E:PH (OwnS a a.heap.size 9 1 (λ_=>False) (slice none 0 0) ((m.objs.take 0).map λe=>rV (.string e.name))):=ae (OwnS.nil _ _ _ _ _);have F:=ae (az a.heap.size a);clear i c j l q r s t u;go_wp2_with fail;clear x;go_loopw [3,14] (λv c wr=>∃k:Nat,k<=d/\c=int i64 k/\PH (OwnS wr a.heap.size 9 1 (λ_=>False) v ((m.objs.take k).map λe=>rV (.string e.name)))/\PH (Below a.heap.size a wr)) (λ_ c _=>d-(intOf c).toNat)
 case atStart=>exact⟨0,by omega,rfl,E,F⟩
 case round=>
  clear E F;obtain⟨k,ac,rfl,i,j⟩:=hrel;obtain⟨T,U,V,rfl⟩:=i.o.sl;by_cases G:k<d
  ·have ad:(k:Int)<(d:Int):=by omega
   have l:k<m.objs.length:=(by rw[n.o];exact G);obtain⟨q,ag,r,s,rfl,-,b,A,M,N,W,-⟩:=qQ ((rS 4 _).new S.o j.o) n.o G
   have H:PH (((m.objs.take (k+1)).map λe=>rV (.string e.name))=((m.objs.take k).map λe=>rV (.string e.name))++[rV (.string (m.objs.getD k bO).name)]):=ae (by
    rw[aN l,aU,af,ah l];rfl)
   have X:=P.o (m.objs.getD k bO) (by rw[af,ah l];exact aQ l);have Y:((m.objs.take k).map λe=>rV (.string e.name)).length<=1000000:=(by rw[aC,aG];omega);generalize ((m.objs.take k).map λe=>rV (.string e.name))=LL at*;generalize m.objs.getD k bO=e at*;obtain⟨c,t,u,x⟩:=e;simp only at*;have y:=(az wr.heap.size wr).alloc (aj _) (cells #[.string c,int i64 t,int i64 u,slice r x.length s] 65);have I:=ae (Blk.new wr 65 #[.string c,int i64 t,int i64 u,slice r x.length s]);have J:=ae (i.o.new y);have z:=ae (j.o.trans (y.mono j.o.size));have K:=ae λw=>EY c w X;clear y l i j b;go_upto_region 7 with fail;clear A M N W;generalize wr.alloc (cells #[.string c,int i64 t,int i64 u,slice r x.length s] 65)=W at*;obtain⟨Z,x1,x2,x3⟩:=eB I.o;go_wp2_with fail;refine(K.o W).mono ?_;rintro e l ⟨rfl,y⟩;have M:=ae (J.o.new y);have A:=ae (z.o.trans (y.mono z.o.size));have aa:a.heap.size<=l.heap.size:=A.o.size;have N:PH ((rV (.string c)).ok l (λq=>False/\some q≠(Value.slice T U V).ownBlock) [.string c]):=ae (rZ rfl);clear y K J z I Z x1 x2 x3
   go_wp2_with (at_builtin;refine gM (w:=l) rfl _ _ rfl underlying36 EZ rfl (by decide) (by decide) M.o aa Y (R:=rV (.string c)) N.o rfl rfl rfl ?_)
   intro v6 w6 y z I J K;rw[<-H.o] at y;have Z:=ae y;have ab:=ae (A.o.trans z);clear y z I J K M A N H;go_wp2_with fail;go_roundw
   case rel=>(try((repeat apply Exists.intro);refine⟨?_,rfl⟩));exact⟨k+1,by omega,by go_num,Z,ab⟩
   case measure=>simp[intOf];omega
  ·obtain rfl:k=d:=by omega
   rw[aJ (by rw[n.o];exact aj _)] at i;go_wp2_with fail;go_ret;exact⟨_,rfl,i.o.base p.o.size λq b=>b,p.o.trans (j.o.mono p.o.size)⟩
end
