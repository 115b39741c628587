import Derived.Test.YtofgapdnadbgkaaGreatDoorW38
import Derived.Laws.FloatArith
import Derived.Laws.ComplexArith
set_option linter.unusedVariables false
set_option maxRecDepth 100000
set_option maxHeartbeats 400000000
namespace Go.Proofs.YtofgapdnadbgkaaGreatDoor
open Go.RowKit _root_.Go.Proofs.Tryz
section
open Go Ieee
theorem uF(N P:Nat)(h:N≠0):(N*2 ^ P).log2=N.log2+P:=by
 have h1:=(Nat.log2_eq_iff (n:=N*2 ^ P) (k:=N.log2+P) (by have:=Nat.pow_pos (n:=P) (show 0<2 by omega);exact Nat.mul_ne_zero h (by omega))).2;refine h1 ⟨?_,?_⟩
 ·rw[Nat.pow_add];exact Nat.mul_le_mul_right _ (Nat.log2_self_le h)
 ·rw[show N.log2+P+1=(N.log2+1)+P by omega,Nat.pow_add]
  exact Nat.mul_lt_mul_of_pos_right Nat.lt_log2_self (Nat.pow_pos (by omega))
theorem wW(s:Bool)(K d:Nat)(hK:K≠0):Toward.even.cut s (K*2 ^ d) d=K:=by
 have hl:=uF K d hK;have hp:=Nat.pow_pos (n:=d) (show 0<2 by omega)
 have hg:(1<<<min d ((K*2 ^ d).log2+2):Nat)=2 ^ d:=by
  rw[hl,Nat.min_eq_left (by omega),Nat.one_shiftLeft]
 unfold Toward.cut;simp only[hg,Nat.mul_div_cancel _ hp,Nat.mul_mod_left];have h1:decide (2 ^ d<2*0)=false:=decide_eq_false (by omega);have h2:((2:Nat) ^ d == 2*0)=false:=by rw[beq_eq_false_iff_ne];omega
 rw[h1,h2];rfl
theorem wY(s:Bool):double.read (double.word s 0)=.number s 0 (-1074):=by cases s <;> decide +kernel
theorem Gf(s:Bool)(a K:Nat)(ha:a≤1074)(h1:4503599627370496≤K)(h2:K<9007199254740992):
 double.read (double.word s (a*4503599627370496+K))=.number s K ((a:Int)-1074):=by
 have hs:double.signWeight=9223372036854775808:=by decide
 have hb:double.binade=4503599627370496:=by decide
 have hi:double.infRung=9218868437227405312:=by decide
 have hl:double.leastPlace= -1074:=by decide
 have e1:double.word s (a*4503599627370496+K)/9223372036854775808%2=s.toNat:=by
  unfold Format.word;rw[hs];cases s <;> simp <;> omega
 have e2:double.word s (a*4503599627370496+K)%9223372036854775808=a*4503599627370496+K:=by
  unfold Format.word;rw[hs];cases s <;> simp <;> omega
 unfold Format.read;simp only[hs,hb,hi,hl,e1,e2];rw[if_neg (by omega),if_pos (by omega)];have e3:(s.toNat == 1)=s:=by cases s <;> rfl
 rw[e3,show 4503599627370496+(a*4503599627370496+K)%4503599627370496=K by omega,show(a*4503599627370496+K)/4503599627370496-1=a by omega];congr 1
 all_goals omega
theorem yw(s:Bool)(N P:Nat)(hN:N<9007199254740992):
 ∃Q:Nat,double.read (double.nearest s (N*2 ^ P) (-(P:Int)))=.number s (N*2 ^ Q) (-(Q:Int)):=by
 by_cases h0:N=0
 ·subst h0
  obtain⟨Q,hQ⟩:∃Q:Nat,Q=1074:=⟨_,rfl⟩;refine⟨Q,?_⟩;unfold Format.nearest;rw[if_pos (Nat.zero_mul _),wY,Nat.zero_mul,hQ];rfl
 ·have hp:=Nat.pow_pos (n:=P) (show 0<2 by omega)
  have hl:=uF N P h0
  have he:N.log2≤52:=by
   have:=(Nat.log2_lt h0 (k:=53)).2 (by simpa using hN);omega
  have hm:N*2 ^ P≠0:=Nat.mul_ne_zero h0 (by omega);refine⟨52-N.log2,?_⟩;have hlo:=Nat.log2_self_le h0;have hhi:=Nat.lt_log2_self (n:=N);generalize N.log2=e at*;obtain⟨q,hq⟩:∃q,q=52-e:=⟨_,rfl⟩;rw[←hq]
  have hK1:4503599627370496≤N*2 ^ q:=by
   have:2 ^ e*2 ^ q≤N*2 ^ q:=Nat.mul_le_mul_right _ hlo;rw[←Nat.pow_add,show e+q=52 by omega] at this;simpa using this
  have hK2:N*2 ^ q<9007199254740992:=by
   have:N*2 ^ q<2 ^ (e+1)*2 ^ q:=Nat.mul_lt_mul_of_pos_right hhi (Nat.pow_pos (by omega));rw[←Nat.pow_add,show e+1+q=53 by omega] at this;simpa using this
  have hb:double.binade=4503599627370496:=(by decide);have hi:double.infRung=9218868437227405312:=(by decide);have hlp:double.leastPlace= -1074:=(by decide);have hf:double.fractionBits=52:=rfl;unfold Format.nearest;rw[if_neg hm];simp only[hl,hb,hi,hlp,hf];have hlast:max (-(P:Int)+((e+P:Nat):Int)-((52:Nat):Int)) (-1074)= -(q:Int):=(by omega);rw[hlast]
  have hkept:Toward.even.cut s ((N*2 ^ P)<<<(-(P:Int)- -(q:Int)).toNat) (-(q:Int)- -(P:Int)).toNat=N*2 ^ q:=by
   rcases Nat.le_total P q with h | h
   ·rw[show(-(P:Int)- -(q:Int)).toNat=q-P by omega,show(-(q:Int)- -(P:Int)).toNat=0 by omega,Nat.shiftLeft_eq,Nat.mul_assoc,←Nat.pow_add,show P+(q-P)=q by omega]
    have:=wW s (N*2 ^ q) 0 (by omega);simpa using this
   ·rw[show(-(P:Int)- -(q:Int)).toNat=0 by omega,show(-(q:Int)- -(P:Int)).toNat=P-q by omega,Nat.shiftLeft_zero,show N*2 ^ P=(N*2 ^ q)*2 ^ (P-q) by rw[Nat.mul_assoc,←Nat.pow_add,show q+(P-q)=P by omega]]
    exact wW s (N*2 ^ q) (P-q) (by omega)
  rw[hkept,show(-(q:Int)- -1074).toNat=1074-q by omega,Nat.min_eq_left (by omega),Gf s (1074-q) _ (by omega) hK1 hK2];congr 1;omega
def Fz(b:Nat)(n:Int):Prop:=∃(s:Bool) (N P:Nat),double.read b=.number s (N*2 ^ P) (-(P:Int))∧n=if s then-(N:Int) else N
theorem Ae{s:Bool}{N P:Nat}(hN:N<9007199254740992):Fz (double.write (.number s (N*2 ^ P) (-(P:Int)))) (if s then-(N:Int) else N):=by
 obtain⟨Q,hQ⟩:=yw s N P hN;exact⟨s,N,Q,hQ,rfl⟩
theorem mL(s:Bool)(N P M:Nat)(h:P≤M):signed s (N*2 ^ P) (M-P)=(if s then-(N:Int) else N)*2 ^ M:=by
 have e:(N*2 ^ P)<<<(M-P)=N*2 ^ M:=by rw[Nat.shiftLeft_eq,Nat.mul_assoc,←Nat.pow_add,show P+(M-P)=M by omega]
 unfold signed;rw[e];cases s <;> simp[Int.neg_mul]
theorem Ch(n:Int)(M:Nat):(n*2 ^ M).natAbs=n.natAbs*2 ^ M:=by
 rw[Int.natAbs_mul,Int.natAbs_pow];rfl
theorem Np(M:Nat):(2:Int) ^ M≠0:=by
 have:0<(2:Int) ^ M:=Int.pow_pos (by omega);omega
theorem wZ{s t:Bool}{N P L Q:Nat}{a b:Int}(ha:a=if s then-(N:Int) else N)(hb:b=if t then-(L:Int) else L)(h:(a+b).natAbs<9007199254740992):
 ∃r,(((Datum.number s (N*2 ^ P) (-(P:Int))).sum (.number t (L*2 ^ Q) (-(Q:Int)))).map double.write)=some r∧Fz r (a+b):=by
 obtain⟨M,hM⟩:∃M,M=max P Q:=⟨_,rfl⟩;have hbase:min (-(P:Int)) (-(Q:Int))= -(M:Int):=by omega
 have htot:signed s (N*2 ^ P) (-(P:Int)- -(M:Int)).toNat+signed t (L*2 ^ Q) (-(Q:Int)- -(M:Int)).toNat=(a+b)*2 ^ M:=by
  rw[show(-(P:Int)- -(M:Int)).toNat=M-P by omega,show(-(Q:Int)- -(M:Int)).toNat=M-Q by omega,mL s N P M (by omega),mL t L Q M (by omega),←ha,←hb,Int.add_mul]
 unfold Datum.sum;simp only[hbase,htot,Ch,Option.map_some];refine⟨_,rfl,?_⟩;have hw:=fun z=>Ae (s:=z) (P:=M) h;have h2:0<(2:Int) ^ M:=Int.pow_pos (by omega);by_cases h0:a+b=0
 ·have:=hw (if (a+b)*2 ^ M=0 then s && t else decide ((a+b)*2 ^ M<0))
  have e:(if (if (a+b)*2 ^ M=0 then s && t else decide ((a+b)*2 ^ M<0))=true then-(((a+b).natAbs:Nat):Int) else ((a+b).natAbs:Int))=a+b:=by
   rw[h0];simp
  rw[e] at this;exact this
 ·have hne:(a+b)*2 ^ M≠0:=Int.mul_ne_zero h0 (Np M)
  rw[if_neg hne];have:=hw (decide ((a+b)*2 ^ M<0))
  have hs:(a+b)*2 ^ M<0↔a+b<0:=by
   constructor
   ·intro hlt
    rcases Int.lt_or_le (a+b) 0 with hh | hh
    ·exact hh
    ·have:=Int.mul_nonneg hh (Int.le_of_lt h2);omega
   ·intro hlt
    exact Int.mul_neg_of_neg_of_pos hlt h2
  have e:(if decide ((a+b)*2 ^ M<0)=true then-(((a+b).natAbs:Nat):Int) else ((a+b).natAbs:Int))=a+b:=by
   by_cases hlt:a+b<0
   ·rw[if_pos (decide_eq_true (hs.2 hlt))];omega
   ·rw[if_neg (by rw[decide_eq_true_eq];exact fun hh=>hlt (hs.1 hh))];omega
  rw[e] at this;exact this
theorem yx{x y:Nat}{a b:Int}(hx:Fz x a)(hy:Fz y b)(h:(a+b).natAbs<9007199254740992):∃r,floatBits .add .f64 x y=some r∧Fz r (a+b):=by
 obtain⟨s,N,P,h1,ha⟩:=hx;obtain⟨t,L,Q,h2,hb⟩:=hy;show ∃r,((double.read x).sum (double.read y)).map double.write=some r∧_;rw[h1,h2];exact wZ ha hb h
theorem Ci{x y:Nat}{a b:Int}(hx:Fz x a)(hy:Fz y b)(h:(a-b).natAbs<9007199254740992):∃r,floatBits .sub .f64 x y=some r∧Fz r (a-b):=by
 obtain⟨s,N,P,h1,ha⟩:=hx;obtain⟨t,L,Q,h2,hb⟩:=hy;show ∃r,((double.read x).sum (double.read y).opposite).map double.write=some r∧_;rw[h1,h2];rw[Int.sub_eq_add_neg] at h ⊢;exact wZ (t:= !t) ha (by rw[hb];cases t <;> simp) h
theorem qL{x y:Nat}{a b:Int}(hx:Fz x a)(hy:Fz y b)(h:(a*b).natAbs<9007199254740992):∃r,floatBits .mul .f64 x y=some r∧Fz r (a*b):=by
 obtain⟨s,N,P,h1,ha⟩:=hx;obtain⟨t,L,Q,h2,hb⟩:=hy;show ∃r,((double.read x).product (double.read y)).map double.write=some r∧_;rw[h1,h2];unfold Datum.product;simp only[Option.map_some];refine⟨_,rfl,?_⟩;have e1:N*2 ^ P*(L*2 ^ Q)=(N*L)*2 ^ (P+Q):=by rw[Nat.pow_add,Nat.mul_mul_mul_comm]
 have e2: -(P:Int)+ -(Q:Int)= -((P+Q:Nat):Int):=by omega
 have hNL:N*L<9007199254740992:=by
  have:(a*b).natAbs=N*L:=by
   rw[Int.natAbs_mul,ha,hb];cases s <;> cases t <;> simp
  omega
 rw[e1,e2];have:=Ae (s:=s ^^ t) (P:=P+Q) hNL
 have e3:(if (s ^^ t)=true then-((N*L:Nat):Int) else ((N*L:Nat):Int))=a*b:=by
  rw[ha,hb];cases s <;> cases t <;> simp[Int.neg_mul,Int.mul_neg]
 rw[e3] at this;exact this
theorem Af{x y:Nat}{a b:Int}(hx:Fz x a)(hy:Fz y b):FloatKind.f64.format.order x y=some (compare a b):=by
 obtain⟨s,N,P,h1,ha⟩:=hx;obtain⟨t,L,Q,h2,hb⟩:=hy;show(double.read x).order (double.read y)=_;rw[h1,h2];obtain⟨M,hM⟩:∃M,M=max P Q:=⟨_,rfl⟩;have hbase:min (-(P:Int)) (-(Q:Int))= -(M:Int):=by omega
 unfold Datum.order;simp only[hbase];rw[show(-(P:Int)- -(M:Int)).toNat=M-P by omega,show(-(Q:Int)- -(M:Int)).toNat=M-Q by omega,mL s N P M (by omega),mL t L Q M (by omega),←ha,←hb];have h2:0<(2:Int) ^ M:=Int.pow_pos (by omega);congr 1;rcases Int.lt_trichotomy a b with h | h | h
 ·rw[Int.compare_eq_lt.2 h,Int.compare_eq_lt.2 (Int.mul_lt_mul_of_pos_right h h2)]
 ·subst h;rw[Int.compare_eq_eq.2 rfl,Int.compare_eq_eq.2 rfl]
 ·rw[Int.compare_eq_gt.2 h,Int.compare_eq_gt.2 (Int.mul_lt_mul_of_pos_right h h2)]
theorem jk:Fz 0 0:=by
 obtain⟨Q,hQ⟩:∃Q:Nat,Q=1074:=⟨_,rfl⟩;refine⟨false,0,Q,?_,rfl⟩;rw[Nat.zero_mul,hQ];exact wY false
theorem Cj:Fz 4607182418800017408 1:=⟨false,1,52,by decide +kernel,rfl⟩
def Cz(r i:Nat)(x y:Int):Prop:=Fz r x∧Fz i y
theorem Nq{a b c d:Nat}{x y u v:Int}(h1:Cz a b x y)(h2:Cz c d u v)(hx:(x+u).natAbs<9007199254740992)(hy:(y+v).natAbs<9007199254740992):
 ∃r i,cSumBits .add .f64 a b c d=some (r,i)∧Cz r i (x+u) (y+v):=by
 obtain⟨r,e1,f1⟩:=yx h1.1 h2.1 hx;obtain⟨i,e2,f2⟩:=yx h1.2 h2.2 hy;exact⟨r,i,by unfold cSumBits;rw[e1,e2];rfl,f1,f2⟩
theorem Nr{a b c d:Nat}{x y u v:Int}(h1:Cz a b x y)(h2:Cz c d u v)(hx:(x-u).natAbs<9007199254740992)(hy:(y-v).natAbs<9007199254740992):
 ∃r i,cSumBits .sub .f64 a b c d=some (r,i)∧Cz r i (x-u) (y-v):=by
 obtain⟨r,e1,f1⟩:=Ci h1.1 h2.1 hx;obtain⟨i,e2,f2⟩:=Ci h1.2 h2.2 hy;exact⟨r,i,by unfold cSumBits;rw[e1,e2];rfl,f1,f2⟩
theorem Lr{a b:Nat}{x y:Int}(h:Cz a b x y)(hx:x.natAbs<9007199254740992)(hy:y.natAbs<9007199254740992):
 ∃r i,cMulBits a b 0 4607182418800017408=some (r,i)∧Cz r i (-y) x:=by
 obtain⟨ac,e1,f1⟩:=qL h.1 jk (by omega);obtain⟨bd,e2,f2⟩:=qL h.2 Cj (by omega);obtain⟨re,e3,f3⟩:=Ci f1 f2 (by omega);obtain⟨ad,e4,f4⟩:=qL h.1 Cj (by omega);obtain⟨bc,e5,f5⟩:=qL h.2 jk (by omega);obtain⟨im,e6,f6⟩:=yx f4 f5 (by omega);refine⟨re,im,?_,?_,?_⟩
 ·unfold cMulBits
  rw[e1,e2,Option.bind_some,Option.bind_some,e3,Option.bind_some,e4,e5,Option.bind_some,Option.bind_some,e6];rfl
 ·rw[show x*0-y*1= -y by omega] at f3;exact f3
 ·rw[show x*1+y*0=x by omega] at f6;exact f6
end
section
def uG:Nat→Int×Int→Int×Int | 0,p=>p | k+1,p=>(-(uG k p).2,(uG k p).1)
theorem Jk(k:Nat)(x y:Int):((uG k (x,y)).1.natAbs=x.natAbs∧(uG k (x,y)).2.natAbs=y.natAbs)∨((uG k (x,y)).1.natAbs=y.natAbs∧(uG k (x,y)).2.natAbs=x.natAbs):=by
 induction k with
 | zero=>exact .inl ⟨rfl,rfl⟩
 | succ k ih=>simp only[uG,Int.natAbs_neg];rcases ih with h | h;exact .inr ⟨h.2,h.1⟩;exact .inl ⟨h.2,h.1⟩
theorem mod4(n:Int):(n.tmod 4+4).tmod 4=n%4:=by
 have h1:=Int.emod_nonneg n (show(4:Int)≠0 by omega);have h2:=Int.emod_lt_of_pos n (show(0:Int)<4 by omega);rw[Int.tmod_eq_emod (a:=n)];split
 ·rw[Int.tmod_eq_emod_of_nonneg (by omega)];omega
 ·rw[Int.tmod_eq_emod_of_nonneg (by omega)];omega
theorem Ck(r i:Nat)(x y n:Int)(hn: -9223372036854775808≤n∧n≤9223372036854775807)(w:World)(h:Cz r i x y)(hx:x.natAbs<9007199254740992)(hy:y.natAbs<9007199254740992):
 Calls prog 344 #[.complex .f64 r i,.int .i64 n] w fun e w'=>∃r' i',e=.returned (.complex .f64 r' i')∧Cz r' i' (uG (n%4).toNat (x,y)).1 (uG (n%4).toNat (x,y)).2∧w=w':=by
 have h4:=mod4 n;have h1:=Int.emod_nonneg n (show(4:Int)≠0 by omega);have h2:=Int.emod_lt_of_pos n (show(0:Int)<4 by omega);generalize n%4=m at*;obtain⟨m,rfl⟩:=Int.eq_ofNat_of_zero_le h1;rw[Int.toNat_natCast]
 have ht: -4<n.tmod 4∧n.tmod 4<4:=by
  rw[Int.tmod_eq_emod];have e1:=Int.emod_nonneg n (show(4:Int)≠0 by omega);have e2:=Int.emod_lt_of_pos n (show(0:Int)<4 by omega);split <;> omega
 have hm4:m<4:=by omega
 have HZ:=ae h;clear h h2;generalize hgt:n.tmod 4=t at*;go_enter func344,ntmps344;go_wp2_with fail
 go_loop [0,9] (fun z k'=>∃(k r i:Nat),k≤m∧k'=.int .i64 k∧z=.complex .f64 r i∧Hid (Cz r i (uG k (x,y)).1 (uG k (x,y)).2)) (fun _ k'=>m-(intOf k').toNat)
 case atStart=>exact⟨0,r,i,by omega,rfl,rfl,HZ⟩
 case round=>
  obtain⟨k,r1,i1,hk,rfl,rfl,HK⟩:=hrel;have hab:=Jk k x y;by_cases hlt:k<m
  ·obtain⟨r2,i2,hc,hz⟩:=Lr HK.out (by omega) (by omega)
   have hop:=fun t w=>run_complex_mul (P:=prog) w t r1 i1 0 4607182418800017408 r2 i2 hc;have HZ2:=ae hz
   go_wp2_with (simp only[hop])
   go_round
   case rel=>exact⟨k+1,r2,i2,by omega,by go_num,rfl,HZ2⟩
   case measure=>simp[intOf] <;> omega
  ·obtain rfl:k=m:=by omega
   go_wp2_with fail;go_ret;exact⟨r1,i1,rfl,HK.out,rfl⟩
structure Sp where
 x:Int
 y:Int
 dx:Int
 dy:Int
 left:Int
 leg:Int
 sec:Bool
def Sp.start:Sp:=⟨0,0,1,0,1,1,false⟩
def Sp.leg'(s:Sp):Int:=if s.sec then s.leg+1 else s.leg
def Sp.on(s:Sp):Sp:=
 if 0<s.left-1 then ⟨s.x+s.dx,s.y+s.dy,s.dx,s.dy,s.left-1,s.leg,s.sec⟩
 else ⟨s.x+s.dx,s.y+s.dy,-s.dy,s.dx,s.leg',s.leg',!s.sec⟩
def Sp.small(s:Sp):Prop:=s.x.natAbs<1000000∧s.y.natAbs<1000000∧s.dx.natAbs<1000000∧s.dy.natAbs<1000000∧(0≤s.left∧s.left<1000000)∧(0≤s.leg∧s.leg<1000000)
def Lt(w:World)(g:Nat)(s:Sp):Prop:=∃ar ai sr si:Nat,Cz ar ai s.x s.y∧Cz sr si s.dx s.dy∧
 Blk w g 376 #[.complex .f64 ar ai,.complex .f64 sr si,.int .i64 s.left,.int .i64 s.leg,.bool s.sec]
theorem Ah(w:World):
 Calls prog 317 #[] w fun e w'=>∃g,e=.returned (.pointer (some ⟨g,0,none⟩))∧w.heap.size≤g∧Lt w' g Sp.start∧Below w.heap.size w w':=by
 go_enter func317,ntmps317;go_wp2_with fail;go_ret;exact⟨_,rfl,ah _,⟨0,0,4607182418800017408,0,⟨jk,jk⟩,⟨Cj,jk⟩,Blk.new _ _ _⟩,(az _ _).alloc (ah _) _⟩
theorem vX(P:Program)(w:World)(a:Addr)(m:Mode)(k:FloatKind)(x y:Nat):(store a (.complex k x y) m).run P w=stored P w a (.complex k x y) m:=run_store P w a _ m rfl
attribute [local go_sem] vX
theorem dN{w w':World}{g:Nat}(h:w.grownBy w' (some g))(i:Nat)(v:Value):w.grownBy (w'.setCell ⟨g,i,none⟩ v) (some g):=
 ⟨h.os,h.tape,h.output,by have:=h.size;simpa using this,fun j hj hk=>(heap_setCell_other w' ⟨g,i,none⟩ j _ (fun e=>hk (by simp[e]))).trans (h.block j hj hk)⟩
theorem Jl(g:Nat)(s:Sp)(w:World)(h:Lt w g s)(hs:s.small):
 Calls prog 318 #[.pointer (some ⟨g,0,none⟩)] w fun e w'=>(∃v,e=.returned v)∧Lt w' g s.on∧w.grownBy w' (some g):=by
 obtain⟨x,y,dx,dy,left,leg,sec⟩:=s;obtain⟨ar,ai,sr,si,hz1,hz2,hB⟩:=h;obtain⟨b1,b2,b3,b4,b5,b6⟩:=hs;simp only at b1 b2 b3 b4 b5 b6 hz1 hz2 hB;obtain⟨ar',ai',hc,hz3⟩:=Nq hz1 hz2 (by omega) (by omega);have hop:=fun t w=>run_complex_sum (P:=prog) w .add (Or.inl rfl) t .f64 ar ai sr si ar' ai' hc;have c0:=hB.cell 0;have c1:=hB.cell 1;have c2:=hB.cell 2;have c3:=hB.cell 3;have c4:=hB.cell 4;have f0:=hB.frozen 0;simp at c0 c1 c2 c3 c4;go_enter func318,ntmps318
 go_wp2_with (simp only[hop])
 go_still_tail 11,(by kernel_rfl)
 change wpList _ _ _ _ _ w.drew;clear c0 c1 c2 c3 c4 f0 hop hc;have hB2:Blk w.drew g 376 #[.complex .f64 ar ai,.complex .f64 sr si,.int .i64 left,.int .i64 leg,.bool sec]:=hB;have hG:w.grownBy w.drew (some g):=⟨rfl,rfl,rfl,ah _,fun _ _ _=>rfl⟩;clear hB;generalize w.drew=w2 at*;have f0:=hB2.frozen 0;have f1:=hB2.frozen 1;have f2:=hB2.frozen 2;have f3:=hB2.frozen 3;have f4:=hB2.frozen 4;have c0:=hB2.cell 0;have c1:=hB2.cell 1;have c2:=hB2.cell 2;have c3:=hB2.cell 3;have c4:=hB2.cell 4;simp at c0 c1 c2 c3 c4;have HB:=ae hB2;have HG:=ae hG;clear hB2 hG;by_cases hl:0<left-1
 ·go_wp2_with fail
  (try simp only[Exit.inBlock,Exit.then])
  refine bodyPost_ret (results_none rfl _ _ _) rfl ?_;refine⟨⟨_,rfl⟩,?_,dN (dN HG.out _ _) _ _⟩;rw[Sp.on,if_pos hl];exact⟨ar',ai',sr,si,hz3,hz2,(HB.out.set 0 _).set 2 _⟩
 ·have hn:¬1<left:=by omega
  have HN:=ae hn;go_wp2_with fail;refine(Ck sr si dx dy 1 (by omega) _ hz2 (by omega) (by omega)).mono ?_;rintro e w3 ⟨r2,i2,rfl,hz,rfl⟩;have HT:Hid (Cz r2 i2 (-dy) dx):=ae hz;clear hz;have HZ3:=ae hz3;have HHL:=ae hl;clear hz3 hl;cases sec
  ·go_wp2_with fail
   go_end0
   refine⟨⟨_,rfl⟩,?_,dN (dN (dN (dN (dN HG.out _ _) _ _) _ _) _ _) _ _⟩;rw[Sp.on,if_neg (Int.not_lt.2 HHL.out)];exact⟨ar',ai',r2,i2,HZ3.out,HT.out,((((HB.out.set 0 _).set 2 _).set 1 _).set 4 _).set 2 _⟩
  ·go_wp2_with fail
   go_end0
   refine⟨⟨_,rfl⟩,?_,dN (dN (dN (dN (dN (dN HG.out _ _) _ _) _ _) _ _) _ _) _ _⟩;rw[Sp.on,if_neg (Int.not_lt.2 HHL.out)];exact⟨ar',ai',r2,i2,HZ3.out,HT.out,(((((HB.out.set 0 _).set 2 _).set 1 _).set 3 _).set 4 _).set 2 _⟩
end
def Sp.it:Nat→Sp | 0=>Sp.start | n+1=>(Sp.it n).on
instance(s:Sp):Decidable s.small:=by unfold Sp.small;exact inferInstance
def Sp.chk:Nat→Sp→Bool | 0,s=>decide s.small | k+1,s=>decide s.small && Sp.chk k s.on
theorem Ns:Sp.chk 4100 Sp.start=true:=by decide +kernel
theorem Nt(n:Nat):∀(j k:Nat),k≤n→Sp.chk n (Sp.it j)=true→(Sp.it (j+k)).small:=by
 induction n with
 | zero=>intro j k hk h;obtain rfl:k=0:=Nat.le_zero.1 hk;exact of_decide_eq_true h
 | succ n ih=>
   intro j k hk h;rw[Sp.chk,Bool.and_eq_true] at h;cases k with
   | zero=>exact of_decide_eq_true h.1
   | succ k=>
     have:=ih (j+1) k (by omega) h.2
     rwa [show j+1+k=j+(k+1) by omega] at this
theorem Jj{k:Nat}(h:k≤4100):(Sp.it k).small:=by
 have:=Nt 4100 0 k h Ns
 rwa [Nat.zero_add] at this
def atN(n:Int):Int×Int:=if 0≤n∧n<4096 then ((Sp.it n.toNat).x,(Sp.it n.toNat).y) else (0,0)
theorem nI{P:Program}{Q:Exit→Act→World→Prop}{a:Act}{w:World}{p1 p2 p3 rest:Code}(l:Nat)(J:Nat→Act→World→Prop)(n₀:Nat)
 (hf:findLabel (p1.seq (p2.seq (p3.seq ((Code.label l).seq rest)))) l=some (Code.skip.seq rest))
 (first:p1.wp P (Exit.then (fun a w=>p2.wp P (Exit.then (fun a w=>p3.wp P (Exit.then (J n₀) (Exit.jump l (fun _ _=>False) Q)) a w) (Exit.jump l (fun _ _=>False) Q)) a w) (Exit.jump l (fun _ _=>False) Q)) a w)
 (pass:∀n a w,J n a w→rest.wp P (Exit.jump l (fun a' w'=>∃n',n'<n∧J n' a' w') Q) a w):(Code.scope (p1.seq (p2.seq (p3.seq ((Code.label l).seq rest))))).wp P Q a w:=by
 have up:∀ {c:Code} {K K':Act→World→Prop} {a:Act} {w:World},c.wp P (Exit.then K (Exit.jump l (fun _ _=>False) Q)) a w→(∀a w,K a w→K' a w)→c.wp P (Exit.then K' (Exit.jump l (fun a w=>∃n,J n a w) Q)) a w:=by
  intro c K K' a w h hk;refine wp_mono h ?_;intro e a' w' hq;cases e with
  | normal=>exact hk _ _ hq
  | goto l'=>exact hq.2.elim
  | exit id=>exact hq
  | ret=>exact hq
  | panic ch=>exact hq
  | outgrown=>exact hq
 refine wp_scope_jumps l (fun a w=>∃n,J n a w) (fun a w=>leastOf (fun n=>J n a w)) hf ?_ ?_
 ·refine wp_seq (up first fun a w h=>wp_seq (up h fun a w h=>wp_seq (up h fun a w h=>wp_seq (wp_label ?_))))
  refine wp_mono (pass n₀ a w h) ?_;intro e a' w' hq;cases e with
  | goto l'=>exact⟨hq.1,let ⟨n',_,hn⟩:=hq.2;⟨n',hn⟩⟩
  | normal=>exact hq
  | exit id=>exact hq
  | ret=>exact hq
  | panic ch=>exact hq
  | outgrown=>exact hq
 ·intro a w hJ
  refine wp_seq (wp_skip ?_);refine wp_mono (pass _ a w (leastOf_spec hJ).1) ?_;intro e a' w' hq;cases e with
  | goto l'=>
    obtain⟨h1,n',hlt,hn'⟩:=hq;exact⟨h1,⟨n',hn'⟩,Nat.lt_of_le_of_lt ((leastOf_spec ⟨n',hn'⟩).2 n' hn') hlt⟩
  | normal=>exact hq
  | exit id=>exact hq
  | ret=>exact hq
  | panic ch=>exact hq
  | outgrown=>exact hq
theorem Ag(n:Int)(hn: -9223372036854775808≤n∧n≤9223372036854775807)(w:World):
 Calls prog 287 #[.int .i64 n] w fun e w'=>∃r i,e=.returned (.complex .f64 r i)∧Cz r i (atN n).1 (atN n).2∧Below w.heap.size w w':=by
 by_cases hin:0≤n∧n<4096
 ·have ha:atN n=((Sp.it n.toNat).x,(Sp.it n.toNat).y):=if_pos hin
  rw[ha];clear ha;obtain⟨m,rfl⟩:=Int.eq_ofNat_of_zero_le hin.1;rw[Int.toNat_natCast];have hm:m<4096:=(by omega);clear hn hin;go_enter func287,ntmps287;go_wp2_with fail
  refine nI 0 (fun n a' w'=>∃(k g:Nat) (u5 u6 u7 u8 u9 u10 u11 u12 u13 u14 u15 u16 u17 u18 u19 u20 u21 u22:Value),(k≤m∧n=m-k∧w.heap.size≤g∧Hid (Lt w' g (Sp.it k))∧Hid (Below w.heap.size w w'))∧
   a'= { tmps:=#[.int .i64 m,undef,.complex .f64 0 0,.pointer (some ⟨g,0,none⟩),.int .i64 k,u5,u6,u7,u8,u9,u10,u11,u12,u13,u14,u15,u16,u17,u18,u19,u20,u21,u22],defers:=[] }) m rfl ?_ ?_
  ·go_wp2_with fail
   refine(Ah _).mono ?_;rintro e w1 ⟨g,rfl,hg,hS,hb⟩;have HS:=ae hS;have HB:=ae hb;clear hS hb;go_wp2_with fail;exact⟨0,g,_,_,_,_,_,_,_,_,_,_,_,_,_,_,_,_,_,_,⟨by omega,by omega,hg,HS,HB⟩,rfl⟩
  ·rintro n a' wr ⟨k,g,u5,u6,u7,u8,u9,u10,u11,u12,u13,u14,u15,u16,u17,u18,u19,u20,u21,u22,⟨hk,rfl,hg,HS,HB⟩,rfl⟩
   by_cases hkm:k=m
   ·have hkb:((k:Int) == (m:Int))=true:=by rw[hkm,beq_self_eq_true]
    obtain⟨ar,ai,sr,si,hz1,hz2,hB⟩:=HS.out;have c0:=hB.cell 0;simp at c0;have HZ:=ae hz1;clear hz1 hz2 hB;go_wp2_with fail;simp only[Exit.jump];go_ret;exact⟨ar,ai,rfl,by rw[←hkm];exact HZ.out,HB.out⟩
   ·have hkb:((k:Int) == (m:Int))=false:=by rw[beq_eq_false_iff_ne];omega
    go_wp2_with fail;refine(Jl g (Sp.it k) _ HS.out (Jj (by omega))).mono ?_;rintro e w2 ⟨⟨v,rfl⟩,hS2,hG⟩;have HS2:=ae hS2
    have HB2:Hid (Below w.heap.size w w2):=by
     refine HB.out.trans ?_;exact((az _ wr).grown hG HB.out.size (fun z hz=>by simp at hz;omega))
    clear hS2 hG;go_wp2_with fail;go_step3;exact⟨rfl,m-(k+1),by omega,k+1,g,_,_,_,_,_,_,_,_,_,_,_,_,_,_,_,_,_,_,⟨by omega,by omega,hg,HS2,HB2⟩,rfl⟩
 ·have ha:atN n=(0,0):=if_neg hin
  rw[ha];clear ha;go_enter func287,ntmps287;go_wp2_with fail;refine nI 0 (fun n a' w'=>False) 0 rfl ?_ (fun _ _ _ h=>h.elim);by_cases h0:n<0
  ·go_wp2_with fail
   simp only[Exit.jump];go_ret;exact⟨0,0,rfl,⟨jk,jk⟩,az _ _⟩
  ·have h1:4096≤n:=by omega
   clear hin;go_wp2_with fail;simp only[Exit.jump];go_ret;exact⟨0,0,rfl,⟨jk,jk⟩,az _ _⟩
def farI(x y u v:Int):Int:=(x-u)*(x-u)+(y-v)*(y-v)
theorem J7{x:Int}(h:x.natAbs≤10000):0≤x*x∧x*x≤100000000:=by
 have h1:0≤x*x:=by
  rcases Int.le_total 0 x with h | h
  ·exact Int.mul_nonneg h h
  ·exact Int.mul_nonneg_of_nonpos_of_nonpos h h
 refine⟨h1,?_⟩;have h2:(x*x).natAbs≤10000*10000:=by rw[Int.natAbs_mul];exact Nat.mul_le_mul h h
 omega
theorem GN(ar ai br bi:Nat)(x y u v:Int)(h1:Cz ar ai x y)(h2:Cz br bi u v)(hx:(x-u).natAbs≤10000)(hy:(y-v).natAbs≤10000)(w:World):
 Calls prog 288 #[.complex .f64 ar ai,.complex .f64 br bi] w fun e w'=>∃r,e=.returned (.float .f64 r)∧Fz r (farI x y u v)∧w=w':=by
 have q1:=J7 hx;have q2:=J7 hy;obtain⟨dr,di,e1,hd1,hd2⟩:=Nr h1 h2 (by omega) (by omega);obtain⟨r1,e2,f2⟩:=qL hd1 hd1 (by omega);obtain⟨r2,e3,f3⟩:=qL hd2 hd2 (by omega);obtain⟨r3,e4,f4⟩:=yx f2 f3 (by omega);have o1:=fun t w=>run_complex_sum (P:=prog) w .sub (Or.inr rfl) t .f64 _ _ _ _ _ _ e1;have o2:=fun t w=>run_float_arith (P:=prog) w .mul t .f64 _ _ _ e2;have o3:=fun t w=>run_float_arith (P:=prog) w .mul t .f64 _ _ _ e3;have o4:=fun t w=>run_float_arith (P:=prog) w .add t .f64 _ _ _ e4;have F:=ae f4;clear h1 h2 hd1 hd2 f2 f3 f4 e1 e2 e3 e4 q1 q2;go_enter func288,ntmps288
 go_wp2_with (simp only[o1,o2,o3,o4])
 go_ret;exact⟨_,rfl,F.out,rfl⟩
theorem D7(x:Nat)(a:Int)(w:World)(hx:Fz x a):Calls prog 320 #[.float .f64 x] w fun e w'=>e=.returned (.bool false)∧w'=w:=by
 have ho:FloatKind.f64.format.order x x=some .eq:=by rw[Af hx hx];simp
 go_enter func320,ntmps320;go_wp2_with fail;go_ret;exact⟨by first | rfl | (simp[ho]),rfl⟩
theorem FZ(x y:Nat)(a b:Int)(w:World)(hx:Fz x a)(hy:Fz y b)(h:b<a):Calls prog 292 #[.float .f64 x,.float .f64 y] w fun e w'=>e=.returned (.int .i64 1)∧w'=w:=by
 have hc:compare a b=.gt:=by rw[Int.compare_eq_gt];omega
 have ho:FloatKind.f64.format.order x y=some .gt:=by rw[Af hx hy,hc]
 have CX:=ae fun w=>D7 x a w hx;have CY:=ae fun w=>D7 y b w hy;clear hx hy h hc;go_enter func292,ntmps292;go_wp2_with fail;refine(CX.out w).mono ?_;rintro e w1 ⟨rfl,rfl⟩;go_wp2_with fail;refine(CY.out w1).mono ?_;rintro e w2 ⟨rfl,rfl⟩;go_wp2_with fail;go_ret;exact⟨rfl,rfl⟩
theorem Nl(b o n c:Nat)(x:Int)(hx:x≠0)(w:World)(h0:0<n)(hc:w.cell? ⟨b,o,none⟩=some (.int .i64 x)):Calls prog 291 #[.slice (some ⟨b,o,none⟩) n c] w fun e w'=>e=.returned (.int .i64 x)∧w'=w:=by
 have h0I:(0:Int)<(n:Int):=by omega
 have hxB:(x == 0)=false:=by rw[beq_eq_false_iff_ne];exact hx
 go_enter func291,ntmps291;go_wp2_with fail;go_loopw [8] (fun i wr=>i=.int .i64 0∧Hid (wr=w)) (fun _ _=>0)
 case atStart=>exact⟨rfl,ae rfl⟩
 case round=>
  obtain⟨rfl,HW⟩:=hrel;obtain rfl:=HW.out;go_wp2_with fail;go_ret;exact⟨rfl,rfl⟩
theorem Lh(s t:Nat)(x y:Nat)(a b:Int)(w:World)(hx:Fz x a)(hy:Fz y b)(h:b<a):Calls prog 290 #[.agg #[.int .i64 s,.float .f64 x],.agg #[.int .i64 t,.float .f64 y]] w fun e w'=>e=.returned (.int .i64 1)∧Below w.heap.size w w':=by
 have CF:=ae fun w=>FZ x y a b w hx hy h;have CI:=ae fun w=>Tryz.cmp_Compare_int s t w;clear hx hy h;go_enter func290,ntmps290;go_upto_region 1 with fail;generalize hq:Lib.compareInt s t=q at*;have hsz1:(w.alloc (.cells #[.int .i64 s,.float .f64 x] 344)).heap.size=w.heap.size+1:=by simp
 have HX:=ae ((Blk.new w 344 #[.int .i64 s,.float .f64 x]).alloc (.cells #[.int .i64 t,.float .f64 y] 344));have HY:Hid (Blk ((w.alloc (.cells #[.int .i64 s,.float .f64 x] 344)).alloc (.cells #[.int .i64 t,.float .f64 y] 344)) (w.heap.size+1) 344 #[.int .i64 t,.float .f64 y]):=ae (by rw[←hsz1];exact Blk.new _ _ _);have HB:Hid (Below w.heap.size w ((w.alloc (.cells #[.int .i64 s,.float .f64 x] 344)).alloc (.cells #[.int .i64 t,.float .f64 y] 344))):=ae (((az _ _).alloc (ah _) _).alloc (by simp) _);clear hsz1;generalize (w.alloc (.cells #[.int .i64 s,.float .f64 x] 344)).alloc (.cells #[.int .i64 t,.float .f64 y] 344)=w0 at*;have x0:w0.cell? ⟨w.heap.size,0,none⟩=some (.int .i64 s):=HX.out.cell 0;have x1:w0.cell? ⟨w.heap.size,1,none⟩=some (.float .f64 x):=HX.out.cell 1;have y0:w0.cell? ⟨w.heap.size+1,0,none⟩=some (.int .i64 t):=HY.out.cell 0;have y1:w0.cell? ⟨w.heap.size+1,1,none⟩=some (.float .f64 y):=HY.out.cell 1
 go_region_law (first
  | (go_simp;go_at_call 292;refine(CF.out _).mono ?_;rintro e wx ⟨rfl,rfl⟩;go_simp)
  | (go_simp;go_at_call 293;refine(CI.out _).mono ?_;rintro e wx ⟨rfl,rfl⟩;go_simp)
  | (go_simp;go_at_call 291;refine(Nl _ _ _ _ 1 (by decide) _ (by omega) (by first | exact dO _ _ _ 0 | (go_simp;done))).mono ?_;rintro e wx ⟨rfl,rfl⟩;go_simp))
 all_goals(
  go_simp;go_wp2_with fail;go_ret;exact⟨rfl,(HB.out.alloc HB.out.size _).drew⟩)
def Far2(w:World)(b:Nat)(s t x y:Nat):Prop:=b<w.heap.size∧w.cell? ⟨b,0,none⟩=some (.int .i64 s)∧w.cell? ⟨b,1,none⟩=some (.float .f64 x)∧w.cell? ⟨b,2,none⟩=some (.int .i64 t)∧w.cell? ⟨b,3,none⟩=some (.float .f64 y)
theorem Far2.below{w w':World}{b s t x y:Nat}(h:Far2 w b s t x y)(hb:Below w.heap.size w w'):Far2 w' b s t x y:=
 ⟨aY h.1 hb.size,(hb.cell (p:=⟨b,0,none⟩) h.1).trans h.2.1,(hb.cell (p:=⟨b,1,none⟩) h.1).trans h.2.2.1,(hb.cell (p:=⟨b,2,none⟩) h.1).trans h.2.2.2.1,(hb.cell (p:=⟨b,3,none⟩) h.1).trans h.2.2.2.2⟩
theorem La(s t x y b c:Nat)(p q:Int)(w:World)(hw:Far2 w b s t x y)(hx:Fz x p)(hy:Fz y q)(h:p<q):
 Calls prog 345 #[.slice (some ⟨b,0,none⟩) 2 c,.int .i64 0,.int .i64 2,.func (.func 290) #[] #[]] w fun e w'=>e=.returned (.tuple #[])∧Below w.heap.size w w':=by
 have CC:=ae fun w=>Lh t s y x q p w hy hx h;have HW0:=ae hw;clear hw hx hy h;go_enter func345,ntmps345;go_wp2_with fail;go_loopw [8] (fun i wr=>(i=.int .i64 1∧Hid (wr=w))∨(i=.int .i64 2∧Hid (Below w.heap.size w wr))) (fun i _=>2-(intOf i).toNat)
 case atStart=>exact .inl ⟨rfl,ae rfl⟩
 case round=>
  rcases hrel with⟨rfl,HW⟩ | ⟨rfl,HB⟩
  ·obtain rfl:=HW.out
   go_wp2_with fail;rename World=>wo;go_loopw [9] (fun j wr=>j=.int .i64 1∧Hid (wr=wo)) (fun _ _=>0)
   case atStart=>exact⟨rfl,ae rfl⟩
   case round=>
    obtain⟨rfl,HW⟩:=hrel;obtain rfl:=HW.out;have hw01:IntKind.i64.wrap 0=0:=(by decide);go_upto_region 4 with fail;refine bE (by kernel_rfl) (by kernel_rfl) ?_
    iterate 17 (
     with_reducible refine wpQuiet_step (fun Kq hKq=> ?_)
     go_simp
     first
     | refine hKq _ ?_
     | refine⟨_,fun _ _=>rfl,hKq _ ?_⟩
     | (apply Exists.intro
        refine⟨fun w' hw'=> ?_,hKq _ ?_⟩
        ·obtain⟨-,p0',p1',p2',p3'⟩:=HW0.out.below hw'
         first
         | (go_simp
            first | exact rfl | exact⟨rfl,rfl⟩)
         | (go_at_call 290
            refine(CC.out w').mono ?_;rintro r w5 ⟨rfl,hb5⟩;exact⟨rfl,hw'.trans (hb5.mono hw'.size)⟩))
     clear hKq Kq)
    with_reducible refine wpQuiet_nil ?_
    intro w5 hw5;have HB5:=ae hw5;clear hw5;go_wp2_with fail;go_roundw
    case rel=>first | exact .inr ⟨by go_num,HB5⟩ | ((repeat apply Exists.intro);exact⟨.inr ⟨by go_num,HB5⟩,rfl⟩)
    case measure=>simp[intOf]
  ·go_wp2_with fail
   (try simp only[Exit.inBlock,Exit.then])
   refine bodyPost_end (results_none rfl _ _ _) rfl ?_;exact⟨rfl,HB.out⟩
theorem Lb(s t x y b c:Nat)(p q l:Int)(w:World)(hw:Far2 w b s t x y)(hx:Fz x p)(hy:Fz y q)(h:p<q):
 Calls prog 319 #[.slice (some ⟨b,0,none⟩) 2 c,.int .i64 0,.int .i64 2,.int .i64 l,.func (.func 290) #[] #[]] w fun e w'=>e=.returned (.tuple #[])∧Below w.heap.size w w':=by
 have CI:=ae (La s t x y b c p q w hw hx hy h);clear hw hx hy h;go_enter func319,ntmps319;go_wp2_with fail;go_loopw [1,2] (fun i j wr=>i=.int .i64 0∧j=.int .i64 2∧Hid (wr=w)) (fun _ _ _=>0)
 case atStart=>exact⟨rfl,rfl,ae rfl⟩
 case round=>
  obtain⟨rfl,rfl,HW⟩:=hrel;obtain rfl:=HW.out;go_wp2_with fail;refine CI.out.mono ?_;rintro e w1 ⟨rfl,hb⟩;have HB:=ae hb;clear hb CI;go_wp2_with fail
  (try simp only[Exit.inBlock,Exit.then])
  refine bodyPost_ret (results_none rfl _ _ _) rfl ?_;exact⟨rfl,HB.out⟩
theorem I1(s t x y b c:Nat)(p q:Int)(w:World)(hw:Far2 w b s t x y)(hx:Fz x p)(hy:Fz y q)(h:p<q):
 Calls prog 289 #[.slice (some ⟨b,0,none⟩) 2 c,.func (.func 290) #[] #[]] w fun e w'=>e=.returned (.tuple #[])∧Below w.heap.size w w':=by
 have CL:=ae fun w=>Tryz.bits_Len 2 w (by omega) (by omega);have CP:=ae fun l=>Lb s t x y b c p q l w hw hx hy h;clear hw hx hy h;go_enter func289,ntmps289;go_wp2_with fail;refine(CL.out w).mono ?_;rintro e w1 ⟨rfl,rfl⟩;go_wp2_with fail;refine(CP.out _).mono ?_;rintro e w2 ⟨rfl,hb⟩;have HB:=ae hb;clear hb CP;go_wp2_with fail
 (try simp only[Exit.inBlock,Exit.then])
 refine bodyPost_end (results_none rfl _ _ _) rfl ?_;exact⟨rfl,HB.out⟩
end Go.Proofs.YtofgapdnadbgkaaGreatDoor
