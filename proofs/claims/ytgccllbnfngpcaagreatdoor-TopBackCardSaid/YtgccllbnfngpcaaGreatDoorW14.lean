import Derived.Test.YtgccllbnfngpcaaGreatDoorW13
set_option linter.unusedVariables false
set_option maxRecDepth 100000
set_option maxHeartbeats 400000000
namespace Go.Proofs.YtgccllbnfngpcaaGreatDoor
open Go.RowKit _root_.Go.Proofs.Tryz List
open Value (int slice pointer bool)
open IntKind (i64)
open Ending (returned)
open Obj (cells)
def noT(K H Z o b:Nat):Prop:=∀a,a<16->ek K H Z (iD o b a:Nat) (range K)=false
theorem Oh(K H Z o b:Nat):(∃t,uB K H Z o b t)\/noT K H Z o b:=by
 have c:∀a,a<=16->(∃t,t<a/\uB K H Z o b t)\/∀t,t<a->ek K H Z (iD o b t:Nat) (range K)=false:=by
  intro a
  induction a with
  | zero=>intro _;exact .inr λt e=>by omega
  | succ a f=>
    intro h;rcases f (by omega) with⟨t,d,g⟩ | c
    ·exact .inl ⟨t,by omega,g⟩
    ·cases hf:ek K H Z (iD o b a:Nat) (range K) with
     | true=>exact .inl ⟨a,by omega,by omega,hf,c⟩
     | false=>
       refine .inr λt e=> ?_;rcases bD t a with d | d
       ·exact c t d
       ·rw[show t=a by omega];exact hf
 rcases c 16 (aj _) with⟨t,_,c⟩ | c
 ·exact .inl ⟨t,c⟩
 ·exact .inr c
theorem Ku(K H Z o b:Nat)(w:World)(l:fQ K H Z=true)(m:o<=16777215)(n:b<=8)(p:noT K H Z o b):
 Calls prog 155 #[dO K H Z,int i64 o,int i64 b] w λa c=>a=returned (.tuple #[int i64 0,bool false])/\Below w.heap.size w c:=by
 have t:Sz (Sx w (w.alloc (cells #[int i64 K,int i64 H,int i64 Z] 25)) [bY w.heap.size 25 #[int i64 K,int i64 H,int i64 Z]]):=
  ae ((((Sx.nil w).alloc _).add (bY _ _ _) (Blk.new w 25 #[int i64 K,int i64 H,int i64 Z])))
 have u:=ae λ(a:Nat) (d:a<=16) w=>ma o b a w m n d;have q:=ae λ(a:Nat) (d:a<=16) w=>ng K H Z (iD o b a:Nat) w l (by omega) (by unfold iD;omega);have v:=ae p;clear l m n p;unfold dO at q ⊢;go_enter func155,ntmps155;go_wp2_with fail;generalize w.alloc (cells #[int i64 K,int i64 H,int i64 Z] 25)=d at*;have r:=ae (aC d.heap.size d);go_loopw [9] (λe wr=>∃a:Nat,a<=16/\e=int i64 a/\Sz (Below d.heap.size d wr)) (λe _=>16-(intOf e).toNat)
 case atStart=>exact⟨0,by omega,rfl,r⟩
 case round=>
  clear r;obtain⟨a,E,rfl,i⟩:=hrel;have j:=ae (t.o.step i.o);have x:a=16\/a<16:=(by omega);rcases x with rfl | e
  ·go_wp2_with fail
   go_ret2;exact⟨rfl,j.o.1⟩
  ·have F:(a:Int)<16:=by omega
   have y:=ae (u.o a (by omega));have k:=ae (q.o a (by omega));obtain⟨f,g,s⟩:=lJ (j.o.blk 0 rfl);rw[show ek (K:Nat) H Z (iD o b a:Nat) (range K)=false from v.o a e] at k;have z:=ae e;clear e;unfold iD at k;go_upto_region 4 with fail;clear f g s;refine dn (by kernel_rfl) (by kernel_rfl) ?_
   iterate 6 (
    with_reducible refine wpQuiet_step (λA f=> ?_)
    go_simp
    first
    | refine f _ ?_
    | refine⟨_,λ_ _=>rfl,f _ ?_⟩
    | (apply Exists.intro
       refine⟨λc g=> ?_,f _ ?_⟩
       ·obtain⟨G,I,J⟩:=lJ ((j.o.step g).blk 0 rfl)
        first
        | (go_simp
           first | exact rfl | exact⟨rfl,rfl⟩)
        | (go_at_call 114
           refine(y.o c).mono ?_;rintro C s ⟨rfl,rfl⟩;exact⟨rfl,g⟩)
        | (go_at_call 214
           refine(k.o c).mono ?_;rintro C s ⟨rfl,D⟩;exact⟨rfl,g.trans (D.mono g.size)⟩))
    clear f A)
   with_reducible refine wpQuiet_nil ?_
   intro s f;have A:=ae (i.o.trans (f.mono i.o.size));clear f;go_wp2_with fail;have e:=z.o;go_roundw
   case rel=>exact⟨a+1,by omega,by go_num,A⟩
   case measure=>simp[intOf];omega
def zB(K H Z o n:Nat)(T:SC):Prop:=T.length=n/\∀a,a<n->uB K H Z o a (T.getD a 0)
theorem Qz{K H Z o n t:Nat}{T:SC}(a:zB K H Z o n T)(d:uB K H Z o n t):zB K H Z o (n+1) (T++[t]):=by
 obtain⟨c,e⟩:=a;refine⟨by rw[aI,c];rfl,λb f=> ?_⟩;rcases bD b n with a | a
 ·rw[af,List.getElem?_append_left (by omega),<-af];exact e b a
 ·obtain rfl:b=n:=by omega
  rw[af,List.getElem?_append_right (by omega),c,Nat.sub_self];exact d
theorem QA(K H Z o n:Nat)(w:World)(q:fQ K H Z=true)(r:o<=16777215)(M:n<=8):
 Calls prog 102 #[dO K H Z,int i64 o,int i64 n] w λa c=>Below w.heap.size w c/\((∃v T,a=returned (.tuple #[v,bool true])/\OwnI c w.heap.size v T/\zB K H Z o n T)\/(a=returned (.tuple #[slice none 0 0,bool false])/\∃b,b<n/\noT K H Z o b)):=by
 have t:Sz (Sx w (w.alloc (cells #[int i64 K,int i64 H,int i64 Z] 25)) [bY w.heap.size 25 #[int i64 K,int i64 H,int i64 Z]]):=
  ae ((((Sx.nil w).alloc _).add (bY _ _ _) (Blk.new w 25 #[int i64 K,int i64 H,int i64 Z])))
 have l:=ae λ(b f:Nat) (a:b<n) (c:uB K H Z o b f) w=>Qn K H Z o b f w q r (by omega) c;have m:=ae λ(b:Nat) (a:b<n) (c:noT K H Z o b) w=>Ku K H Z o b w q r (by omega) c;have V:n<=8:=M;unfold dO at l m ⊢;clear q r;go_enter func102,ntmps102;go_wp2_with fail;have N:w.heap.size<=(w.alloc (cells #[int i64 K,int i64 H,int i64 Z] 25)).heap.size:=t.o.1.size;generalize w.alloc (cells #[int i64 K,int i64 H,int i64 Z] 25)=d at*;have u:=ae (aC d.heap.size d);have x:Sz (OwnI d d.heap.size (slice none 0 0) []):=ae (OwnI.nil _ _);have z:Sz (zB K H Z o 0 []):=ae ⟨rfl,λb a=>by omega⟩;go_loopw [8,13] (λv e wr=>∃(a:Nat) (T:SC),a<=n/\e=int i64 a/\Sz (OwnI wr d.heap.size v T)/\Sz (zB K H Z o a T)/\Sz (Below d.heap.size d wr)) (λ_ e _=>n-(intOf e).toNat)
 case atStart=>exact⟨0,[],by omega,rfl,x,z,u⟩
 case round=>
  clear u x z;obtain⟨a,T,W,rfl,g,i,j⟩:=hrel;have k:=ae (t.o.step j.o);obtain⟨X,Y,cv,rfl⟩:=g.o.sl;by_cases p:a<n
  ·have aa:(a:Int)<(n:Int):=by omega
   obtain⟨A,D,E⟩:=lJ (k.o.blk 0 rfl);have O:T.length<=1000000:=(by rw[i.o.1];omega);rcases Oh K H Z o a with⟨f,c⟩ | c
   ·have F:=ae (l.o a f p c)
    have P:=ae (Qz i.o c);clear c l m;go_wp2_with fail;refine(F.o wr).mono ?_;rintro Q G ⟨rfl,e⟩;have I:=ae (g.o.below e);have s:=ae (j.o.trans (e.mono j.o.size));have R:=s.o.size;clear e A D E F g j k i
    go_wp2_with (at_builtin;refine l5 (w:=G) (C:=d.heap.size) (y:=f) rfl _ _ rfl rfl I.o R O rfl rfl ?_)
    intro v3 w3 J L;have S:=ae J;have U:=ae (s.o.trans L);clear J L I s;go_wp2_with fail;go_roundw
    case rel=>exact⟨a+1,_,by omega,by go_num,S,P,U⟩
    case measure=>simp[intOf];omega
   ·have s:=ae (m.o a p c)
    have F:=ae (And.intro p c);clear c l m p;go_wp2_with fail;refine(s.o wr).mono ?_;rintro Q G ⟨rfl,e⟩;have I:=ae (k.o.step e);clear e A D E s g j k i;go_wp2_with fail;go_ret2;exact⟨I.o.1,.inr ⟨rfl,a,F.o⟩⟩
  ·obtain rfl:a=n:=by omega
   go_wp2_with fail;go_ret2;exact⟨k.o.1,.inl ⟨_,T,rfl,g.o.base N,i.o⟩⟩
section
variable {B:Nat}
theorem ChgT.ofD{w w':World}(a:ChgD B w w'):ChgT w w':=Chg.mono a λ_ _ b=>b.2.elim .inl λa=>.inr (.inl a)
end
section
variable {B:Nat}
structure Fl where
 p:Nat
 n:Nat
 D:Nat->Nat
 room:Nat->Nat
 Z:Nat->Bool
def drL(p a:Nat):Array Value:=#[pointer (some ⟨p,0,none⟩),int i64 a,slice none 0 0,int i64 0,slice none 0 0,bool false,bool true]
def DrW(w:World)(g p c:Nat)(R:List SC)(b:Nat)(o:Option Nat):Prop:=∃a,DrB w g p c a b/\OwnS w 0 30 1 (Ty 5 w) a (R.map rB)/\b<=R.length/\a.ownBlock=o/\∀a∈R,a.length=64
theorem DrW.r{w:World}{g p b c:Nat}{R:List SC}{o:Option Nat}(a:DrW w g p b R c o):DrR w g p b R o:=by obtain⟨d,a⟩:=a;exact⟨d,c,a⟩
theorem DrW.chg{w w':World}{g p a c:Nat}{R:List SC}{o:Option Nat}{M:Nat->Prop}(f:DrW w g p a R c o)(d:Chg M w w')(h:¬M g)(i:∀b,o=some b->¬M b)(j:∀b,M b->¬Ty 5 w b):DrW w' g p a R c o:=by
 obtain⟨k,l,m,n,e,q⟩:=f;exact⟨k,Blk.chg l d h,m.chg d (λb r=>i b (e.symm.trans r)) j,n,e,q⟩
def DrX(w:World)(g p a:Nat)(z:Bool)(R:List SC)(b:Nat)(o:Option Nat):Prop:=(z=true/\Blk w g 88 (drL p a)/\o=none)\/(z=false/\DrW w g p a R b o)
theorem DrX.ty{w:World}{g p b c:Nat}{z:Bool}{R:List SC}{o:Option Nat}(a:DrX w g p b z R c o):Ty 88 w g:=by
 rcases a with⟨-,a,-⟩ | ⟨-,a⟩
 ·exact Blk.ty a
 ·exact a.r.ty
theorem DrX.oty{w:World}{g p d e:Nat}{z:Bool}{R:List SC}{o:Option Nat}(a:DrX w g p d z R e o):∀b,o=some b->Ty 30 w b:=by
 rcases a with⟨-,a,f⟩ | ⟨-,a⟩
 ·intro b c;rw[f] at c;cases c
 ·exact a.r.oty
theorem DrX.chg{w w':World}{g p d e:Nat}{z:Bool}{R:List SC}{o:Option Nat}{M:Nat->Prop}(a:DrX w g p d z R e o)(f:Chg M w w')(h:¬M g)(i:∀b,o=some b->¬M b)(j:∀b,M b->¬Ty 5 w b):DrX w' g p d z R e o:=by
 rcases a with⟨c,a,k⟩ | ⟨c,a⟩
 ·exact .inl ⟨c,Blk.chg a f h,k⟩
 ·exact .inr ⟨c,a.chg f h i j⟩
theorem DrX.below{w w':World}{g p b c:Nat}{z:Bool}{R:List SC}{o:Option Nat}(a:DrX w g p b z R c o)(d:Below w.heap.size w w'):DrX w' g p b z R c o:=
 a.chg (M:=λ_=>False) (Chg.of d) (λa=>a) (λ_ _ a=>a) λ_ a=>a.elim
structure Drz (B:Nat) (w:World) (f:Fl) (R:Nat->List SC) (W:Nat->Nat):Prop where
 pw:PwS w f.p
 dr:∃o:Nat->Option Nat,(∀i,i<f.n->DrX w (f.D i) f.p (f.room i) (f.Z i) (R i) (W i) (o i))/\(∀i j b,i<f.n->j<f.n->i≠j->o i=some b->o j≠some b)/\∀i b,i<f.n->o i=some b->B<=b
 ne:∀i j,i<f.n->j<f.n->i≠j->f.D i≠f.D j
 lo:∀i,i<f.n->B<=f.D i
theorem Drz.below{w w':World}{f:Fl}{R:Nat->List SC}{W:Nat->Nat}(c:Drz B w f R W)(a:Below w.heap.size w w'):Drz B w' f R W:=by
 obtain⟨b,⟨d,e,g,h⟩,i,j⟩:=c;exact⟨Blk.below b a (Blk.lt b),⟨d,λk l=>(e k l).below a,g,h⟩,i,j⟩
theorem Drz.chgTy{w w':World}{f:Fl}{R:Nat->List SC}{W:Nat->Nat}{M:Nat->Prop}{t:TypeId}(k:Drz B w f R W)(i:Chg M w w')(c:∀b,M b->Ty t w b)(d:t≠88/\t≠30/\t≠5/\t≠138):Drz B w' f R W:=by
 obtain⟨j,⟨l,e,m⟩,n,o⟩:=k;exact⟨Blk.chg j i λa=>(c _ a).ne (Blk.ty j) d.2.2.2,⟨l,λg h=>(e g h).chg i (λa=>(c _ a).ne (e g h).ty d.1) (λb p a=>(c _ a).ne ((e g h).oty b p) d.2.1) (λb a g=>(c _ a).ne g d.2.2.1),m⟩,n,o⟩
def kZ(m:cZ)(a b:Value)(p:Nat)(x:Nat->Value):Array Value:=#[int i64 m.seq,int i64 m.next,int i64 m.K,int i64 m.H,int i64 m.Z,int i64 m.extra,a,b,pointer (some ⟨p,0,none⟩),int i64 0]++((range 64).map x).toArray
theorem pK(m:cZ)(a b:Value)(p:Nat)(x:Nat->Value){i:Nat}(c:i<64):(kZ m a b p x)[10+i]? =some (x i):=by
 unfold kZ;rw[Array.getElem?_append_right (by simp)];simp[c]
theorem PX(m:cZ)(b c:Value)(p:Nat)(x:Nat->Value)(y:Value){k:Nat}(g:k<64):(kZ m b c p x).setIfInBounds (10+k) y=kZ m b c p (λa=>if a=k then y else x a):=by
 unfold kZ;rw[Array.setIfInBounds_append_right (by simp)];congr 1;apply Array.ext';apply ext_getElem
 ·simp
 ·intro d e f
  simp at e f;simp[getElem_set];by_cases a:k=d
  ·subst a;simp
  ·simp[a,Ne.symm a]
theorem iB{w:World}{g p:Nat}{m:cZ}{b c:Value}{x:Nat->Value}(a:Blk w g 96 (kZ m b c p x)):
 w.cell? ⟨g,0,none⟩=some (int i64 m.seq)/\w.cell? ⟨g,1,none⟩=some (int i64 m.next)/\w.cell? ⟨g,2,none⟩=some (int i64 m.K)/\w.cell? ⟨g,3,none⟩=some (int i64 m.H)/\w.cell? ⟨g,4,none⟩=some (int i64 m.Z)/\w.cell? ⟨g,5,none⟩=some (int i64 m.extra)/\
 w.cell? ⟨g,6,none⟩=some b/\w.cell? ⟨g,7,none⟩=some c/\w.cell? ⟨g,8,none⟩=some (pointer (some ⟨p,0,none⟩))/\w.cell? ⟨g,9,none⟩=some (int i64 0):=
 ⟨(Blk.cell a 0).trans (by simp[kZ]),(Blk.cell a 1).trans (by simp[kZ]),(Blk.cell a 2).trans (by simp[kZ]),(Blk.cell a 3).trans (by simp[kZ]),(Blk.cell a 4).trans (by simp[kZ]),(Blk.cell a 5).trans (by simp[kZ]),
  (Blk.cell a 6).trans (by simp[kZ]),(Blk.cell a 7).trans (by simp[kZ]),(Blk.cell a 8).trans (by simp[kZ]),(Blk.cell a 9).trans (by simp[kZ])⟩
def iF(n:Nat)(D:Nat->Nat)(i:Nat):Value:=if i<n then pointer (some ⟨D i,0,none⟩) else pointer none
def oC(f:Fl):Nat->Value:=iF f.n f.D
theorem uu(f:Fl){s:Nat}(a:s<f.n):oC f s=pointer (some ⟨f.D s,0,none⟩):=by unfold oC iF;rw[bu a]
structure Stq (B:Nat) (w:World) (g:Nat) (f:Fl) (m:cZ) (R:Nat->List SC):Prop where
 drs:Drz B w f R (fun _=>0)
 st:∃vd vo,Blk w g 96 (kZ m vd vo f.p (oC f))/\(rI m.drives).ok w (Fu w) [vd]/\(rS 4 (m.objs.map df)).ok w (Fu w) [vo]
 dv:m.drives=range f.n
 n0:0<f.n/\f.n<=64
theorem Stq.below{w w':World}{g:Nat}{f:Fl}{m:cZ}{R:Nat->List SC}(c:Stq B w g f m R)(a:Below w.heap.size w w'):Stq B w' g f m R:=by
 obtain⟨d,⟨e,h,b,i,j⟩,k,l⟩:=c;exact⟨d.below a,⟨e,h,Blk.below b a (Blk.lt b),(rI _).fu i a,(rS 4 _).fu j a⟩,k,l⟩
theorem Stq.chgD{w w':World}{g:Nat}{f:Fl}{m:cZ}{R Q:Nat->List SC}(c:Stq B w g f m R)(a:ChgD B w w')(d:Drz B w' f Q (λ_=>0)):Stq B w' g f m Q:=by
 obtain⟨o,⟨e,h,b,i,j⟩,k,l⟩:=c;exact⟨d,⟨e,h,Blk.chg b a λn=>Md.not (Blk.ty b) (by decide) (by decide) n.2,(rI _).chgT i a.toT,(rS 4 _).chgT j a.toT⟩,k,l⟩
def StB(w:World)(g:Nat)(f:Fl):Prop:=∃a b c,Blk w g 96 (kZ a b c f.p (oC f))
theorem Stq.sb{w:World}{g:Nat}{f:Fl}{m:cZ}{R:Nat->List SC}(a:Stq B w g f m R):StB w g f:=by obtain⟨-,⟨b,c,a,-⟩,-⟩:=a;exact⟨m,b,c,a⟩
theorem StB.below{w w':World}{g:Nat}{f:Fl}(a:StB w g f)(b:Below w.heap.size w w'):StB w' g f:=by obtain⟨c,d,e,a⟩:=a;exact⟨c,d,e,a.below b a.lt⟩
theorem StB.chgD{w w':World}{g:Nat}{f:Fl}(a:StB w g f)(b:ChgD B w w'):StB w' g f:=by obtain⟨c,d,e,a⟩:=a;exact⟨c,d,e,Blk.chg a b λh=>Md.not (Blk.ty a) (by decide) (by decide) h.2⟩
def ll(B g:Nat)(f:Fl)(m:cZ)(R:Nat->List SC):yA:=⟨λa=>Stq B a g f m R,λ_ _ a b=>a.below b⟩
theorem Sx.stq{w0 w:World}{L:List yA}(a:Sx w0 w L)(i:Nat){g:Nat}{f:Fl}{m:cZ}{R:Nat->List SC}(b:L[i]? =some (ll B g f m R)):Stq B w g f m R:=a.get i b
theorem Ng(g p a:Nat)(w:World)(h:Blk w g 88 (drL p a)):Calls prog 90 #[pointer (some ⟨g,0,none⟩)] w λb c=>b=returned (bool true)/\c=w:=by
 have b:w.cell? ⟨g,6,none⟩=some (bool true):=Blk.cell h 6;go_enter func90,ntmps90;go_wp2_with fail;go_ret;exact⟨rfl,rfl⟩
theorem PY(g p b c:Nat)(z:Bool)(R:List SC)(o:Option Nat)(w:World)(a:DrX w g p b z R c o):Calls prog 90 #[pointer (some ⟨g,0,none⟩)] w λd e=>d=returned (.bool z)/\e=w:=by
 rcases a with⟨rfl,a,-⟩ | ⟨rfl,d,a,-⟩
 ·exact Ng g p b w a
 ·exact sU g p b c d w a
theorem vH(s g:Nat)(f:Fl)(w:World)(h:StB w g f)(hs:s<f.n)(c:f.n<=64):Calls prog 38 #[pointer (some ⟨g,0,none⟩),int i64 s] w λa b=>a=returned (pointer (some ⟨f.D s,0,none⟩))/\b=w:=by
 obtain⟨d,e,i,a⟩:=h;have b:s<64:=by omega
 have j:¬(s:Int)<0:=by omega
 have k:(s:Int)<64:=by omega
 have l:¬(64:Int)<=(s:Int):=by omega
 have m:w.cell? ⟨g,10+s,none⟩=some (pointer (some ⟨f.D s,0,none⟩)):=(Blk.cell a (10+s)).trans (by rw[pK _ _ _ _ _ b];rw[uu f hs]);generalize f.D s=n at*;clear a;go_enter func38,ntmps38;go_wp2_with fail;go_ret;exact⟨rfl,rfl⟩
theorem RU(g:Nat)(f:Fl)(m:cZ)(R:Nat->List SC)(w:World)(h:Stq B w g f m R):Calls prog 55 #[pointer (some ⟨g,0,none⟩)] w λe b=>e=returned (bool false)/\Below w.heap.size w b:=by
 obtain⟨d,⟨s,t,a,-⟩,-⟩:=h;obtain⟨j,k,l,n,o,p,q,r,u,v⟩:=iB a;have i:=ae a;have c:=ae d.pw;clear a j k l n o p q r d;generalize f.p=j at*;go_enter func55,ntmps55;go_upto_region 1 with fail;refine dn (by kernel_rfl) (by kernel_rfl) ?_
 iterate 23 (
  with_reducible refine wpQuiet_step (λl d=> ?_)
  go_simp
  first
  | refine d _ ?_
  | refine⟨_,λ_ _=>rfl,d _ ?_⟩
  | (apply Exists.intro
     refine⟨λb a=> ?_,d _ ?_⟩
     ·obtain⟨n,o,p,q,r,x,y,z,A,C⟩:=iB (i.o.below a i.o.lt)
      first
      | (go_simp
         first | exact rfl | exact⟨rfl,rfl⟩)
      | (go_at_call 81
         refine(Dv j b (c.o.below a (Blk.lt c.o))).mono ?_;rintro e k ⟨rfl,rfl⟩;exact⟨rfl,a⟩)
      | (go_at_call 89
         refine(AV j b (c.o.below a (Blk.lt c.o))).mono ?_;rintro e k ⟨rfl,rfl⟩;exact⟨rfl,a⟩))
  clear d l)
 with_reducible refine wpQuiet_nil ?_
 intro k d;go_wp2_with fail;go_ret;exact⟨rfl,d⟩
theorem Cy(g:Nat)(f:Fl)(m:cZ)(R:Nat->List SC)(w:World)(h:Stq B w g f m R):Calls prog 110 #[pointer (some ⟨g,0,none⟩)] w λa b=>a=returned (bool false)/\Below w.heap.size w b:=by
 have b:=ae (RU g f m R w h);clear h;go_enter func110,ntmps110;go_wp2_with fail;refine b.o.mono ?_;rintro a e ⟨rfl,c⟩;have d:=ae c;clear c b;go_wp2_with fail;go_ret;exact⟨rfl,d.o⟩
def bP(f:Fl):SC:=(range f.n).filter λa=> !f.Z a
theorem kF{f:Fl}{x:Nat}(a:x∈bP f):x<f.n/\f.Z x=false:=by
 unfold bP at a;rw[mem_filter] at a;exact⟨bG.1 a.1,by simpa using a.2⟩
theorem Nh{f:Fl}(b:f.n<=64):∀x∈bP f,x<64:=λx a=>by have:=(kF a).1;omega
theorem jQ(f:Fl):(bP f).Nodup:=List.Nodup.sublist filter_sublist nodup_range
theorem pM{f:Fl}(a:f.n<=64):(bP f).length<=64:=aP (length_filter_le _ _) (by rw[bg];exact a)
theorem zm(L:SC)(F:Nat->Prop)(a:SE)(n c:Nat)(g:Nat)(f:Fl)(R:Nat->List SC)(W:Nat->Nat)(w:World)(h:Drz B w f R W)(q:StB w g f)(r:(rI L).ok w F [slice a n c])(s:L.length=n)(V:n<=64)(t:∀x∈L,x<f.n)(H:f.n<=64):
 Calls prog 44 #[.func (.func 38) #[pointer (some ⟨g,0,none⟩)] #[],slice a n c] w λi m=>∃v,i=returned v/\OwnI m w.heap.size v (L.filter λd=> !f.Z d)/\Below w.heap.size w m:=by
 have I:Sz (Sx w w [eR F (slice a n c) (rI L)]):=ae ((Sx.nil w).add (eR F (slice a n c) (rI L)) r);have J:=ae h;have K:=ae q;have o:=ae s;have M:=ae t;have u:Sz (OwnI w w.heap.size (slice none 0 0) ((L.take 0).filter λd=> !f.Z d)):=ae (OwnI.nil _ _);have z:=ae (aC w.heap.size w);clear h q r s t;go_enter func44,ntmps44;go_wp2_with fail;go_loopw [5,11] (λv d wr=>∃b:Nat,b<=n/\d=int i64 b/\Sz (OwnI wr w.heap.size v ((L.take b).filter λd=> !f.Z d))/\Sz (Below w.heap.size w wr)) (λ_ d _=>n-(intOf d).toNat)
 case atStart=>exact⟨0,by omega,rfl,u,z⟩
 case round=>
  clear u z;obtain⟨b,X,rfl,j,e⟩:=hrel;have N:=ae (I.o.step e.o);obtain⟨Y,Z,cv,rfl⟩:=j.o.sl;by_cases O:b<n
  ·have aa:(b:Int)<(n:Int):=by omega
   have k:b<L.length:=(by rw[o.o];exact O);obtain⟨a',c',i,A,-⟩:=dY (N.o.rep 0 rfl) o.o;injection i with P e2 Q;subst P Q;obtain⟨ab,S,rfl,hb,D⟩:=A.2 (by omega);have cq:=D b (int i64 (L.getD b 0:Nat)) (dh k);have p:=M.o (L.getD b 0) (by rw[af,ah k];exact aQ k)
   have l:Sz ((L.take (b+1)).filter (λd=> !f.Z d)=(L.take b).filter (λd=> !f.Z d)++(if f.Z (L.getD b 0)=true then [] else [L.getD b 0])):=ae (by
    rw[aO k,af,ah k,filter_append];congr 1;cases hz:f.Z L[b] <;> simp[hz])
   have T:((L.take b).filter λd=> !f.Z d).length<=1000000:=aP (length_filter_le _ _) (by rw[aH];omega);have U:=e.o.size;generalize L.getD b 0=x at*;have E:=ae (vH x g f wr (K.o.below e.o) p H)
   have G:Sz (Calls prog 90 #[pointer (some ⟨f.D x,0,none⟩)] wr λi m=>i=returned (bool (f.Z x))/\m=wr):=ae (by
    obtain⟨-,⟨S,m,-⟩,-⟩:=J.o.below e.o;exact PY _ _ _ _ _ _ _ _ (m x p))
   generalize (L.take b).filter (λd=> !f.Z d)=LL at*;generalize f.D x=dx at*;clear D A p k;go_wp2_with fail;refine E.o.mono ?_;rintro i wx ⟨rfl,rfl⟩;go_wp2_with fail;refine G.o.mono ?_;rintro i p ⟨rfl,rfl⟩;clear E G;cases hz:f.Z x with
   | true=>
     rw[hz,bu rfl,append_nil] at l;rw[<-l.o] at j;clear l;go_wp2_with fail;go_roundw
     case rel=>exact⟨b+1,by omega,by go_num,j,e⟩
     case measure=>simp[intOf];omega
   | false=>
     rw[hz,bA (by decide)] at l
     go_wp2_with (at_builtin;refine l5 (w:=p) (C:=w.heap.size) (y:=x) rfl _ _ rfl rfl j.o U T rfl rfl ?_)
     intro E G d k;rw[<-l.o] at d;have A:=ae d;have D:=ae (e.o.trans k);clear d k j e l;go_wp2_with fail;go_roundw
     case rel=>exact⟨b+1,by omega,by go_num,A,D⟩
     case measure=>simp[intOf];omega
  ·obtain rfl:b=n:=by omega
   rw[aN (by rw[o.o];exact aj _)] at j;go_wp2_with fail;go_ret;exact⟨_,rfl,j.o,e.o⟩
theorem xG(g:Nat)(f:Fl)(m:cZ)(R:Nat->List SC)(w:World)(h:Stq B w g f m R):
 Calls prog 22 #[pointer (some ⟨g,0,none⟩)] w λi a=>∃v,i=returned v/\OwnI a w.heap.size v (bP f)/\Below w.heap.size w a:=by
 have j:=h.sb;obtain⟨k,⟨F,G,a,c,n⟩,b,o,l⟩:=h;obtain⟨p,q,r,s,t,u,H,x,y,z⟩:=iB a;have d:m.drives.length=f.n:=by rw[b,bg]
 obtain⟨A,C,rfl,-⟩:=dY c d;have e:=ae (zm m.drives (Fu w) A f.n C g f R _ w k j c d l (by rw[b];intro I D;exact bG.1 D) l);rw[b,show(range f.n).filter (λE=> !f.Z E)=bP f from rfl] at e;clear k a c n p q r s t u x y z j d b o;generalize f.n=j at*;go_enter func22,ntmps22;go_wp2_with fail;refine e.o.mono ?_;rintro i k ⟨v,rfl,b,a⟩;have c:=ae b;have d:=ae a;clear b a e;go_wp2_with fail;go_ret;exact⟨_,rfl,c.o,d.o⟩
end
section
variable {B:Nat}
def upd{a:Type}(f:Nat->a)(s:Nat)(v:a):Nat->a:=λb=>if b=s then v else f b
theorem upd_same{a:Type}(f:Nat->a)(s:Nat)(v:a):upd f s v s=v:=by unfold upd;rw[bu rfl]
theorem upd_ne{a:Type}(f:Nat->a){s i:Nat}(v:a)(b:i≠s):upd f s v i=f i:=by unfold upd;rw[bA b]
def iX(P:List (Nat×SC))(i:Nat):List SC:=(P.filter λa=>a.1 == i).map Prod.snd
def iG(P:List (Nat×SC))(R:Nat->List SC):Nat->List SC:=λa=>R a++iX P a
def qg(P:List (Nat×SC))(W:Nat->Nat):Nat->Nat:=λa=>W a+(iX P a).length
theorem mi(P Q:List (Nat×SC))(i:Nat):iX (P++Q) i=iX P i++iX Q i:=by unfold iX;rw[filter_append,aU]
theorem xN(x:Nat×SC)(i:Nat):iX [x] i=if i=x.1 then [x.2] else []:=by
 unfold iX;by_cases a:x.1=i
 ·rw[bu a.symm,filter_cons_of_pos (by simpa using a)];rfl
 ·rw[bA (Ne.symm a),filter_cons_of_neg (by simpa using a)];rfl
theorem JU(P:List (Nat×SC))(i k:Nat):(iX (P.take k) i).length<=(iX P i).length:=by
 have a:=mi (P.take k) (P.drop k) i;rw[take_append_drop] at a;rw[a,aI];omega
theorem Qj(P:List (Nat×SC)){k:Nat}(a:k<P.length):(iX (P.take k) (P.getD k (0,[])).1).length<(iX P (P.getD k (0,[])).1).length:=by
 have b:=JU P (P.getD k (0,[])).1 (k+1);rw[aO a,mi,aI] at b;have c:P.getD k (0,[])=P[k]:=by rw[af,ah a];rfl
 rw[c,xN,bu rfl,length_singleton] at b;rw[c];omega
theorem JV(P:List (Nat×SC))(R:Nat->List SC)(x:Nat×SC):iG (P++[x]) R=upd (iG P R) x.1 (iG P R x.1++[x.2]):=by
 funext b;unfold upd iG;rw[mi,xN];by_cases a:b=x.1
 ·subst a;rw[bu rfl,bu rfl,append_assoc]
 ·rw[bA a,bA a,append_nil]
theorem JW(P:List (Nat×SC))(W:Nat->Nat)(x:Nat×SC):qg (P++[x]) W=upd (qg P W) x.1 (qg P W x.1+1):=by
 funext b;unfold upd qg;rw[mi,xN,aI];by_cases a:b=x.1
 ·subst a;rw[bu rfl,bu rfl];simp;omega
 ·rw[bA a,bA a];simp
theorem Fv(s:Nat)(f:Fl)(R:Nat->List SC)(W:Nat->Nat)(r:SC)(a:SE)(c:Nat)(w:World)(hs:s<f.n)(F:f.Z s=false)(j:Drz B w f R W)(G:Rd w w.heap.size a 64 (bK r))(P:a=none->c=0)(Q:(R s).length<f.room s)(S:f.room s<=512):
 Calls prog 136 #[pointer (some ⟨f.D s,0,none⟩),slice a 64 c] w λb x=>b=returned (int i64 0)/\Drz B x f (upd R s (R s++[r])) (upd W s (W s+1))/\ChgD B w x:=by
 obtain⟨y,⟨H,o,p,z⟩,I,A⟩:=j;have q:=λd g=>(o d g).ty;have m:=λd g=>(o d g).oty
 obtain⟨J,K,L,X,k,T⟩:DrW w (f.D s) f.p (f.room s) (R s) (W s) (H s):=by
  rcases o s hs with⟨b,-⟩ | ⟨-,j⟩
  ·rw[F] at b;cases b
  ·exact j
 refine(IL (f.D s) f.p (f.room s) (W s) J (R s) r a c w K L y G P Q S (by omega)).mono ?_;rintro b x ⟨rfl,M,U,V,C,D⟩;have E:∀h,(h=f.D s\/some h=J.ownBlock)->Md w h:=λh t=>t.elim (λb=>.inl (b▸q s hs)) λb=>.inr (m s hs h (k.symm.trans b.symm));refine⟨rfl,⟨Blk.chg y C λl=>Md.not (Blk.ty y) (by decide) (by decide) (E _ l),⟨upd H s M.ownBlock,λd g=> ?_,λd n h g u v e i=> ?_,λd h g e=> ?_⟩,I,A⟩,C.mono λN _ O=>⟨O.elim (λb=>by rw[b];exact A s hs) λb=>z s N hs (k.symm.trans b.symm),E N O⟩⟩
 ·by_cases b:d=s
  ·subst b
   rw[upd_same,upd_same,upd_same];refine .inr ⟨F,M,U,V,by rw[aI,length_singleton];omega,rfl,λN O=> ?_⟩;rcases bF.1 O with j | j
   ·exact T N j
   ·rw[mem_singleton.1 j]
    have:=G.len
    rwa [bL] at this
  ·rw[upd_ne _ _ b,upd_ne _ _ b,upd_ne _ _ b]
   refine(o d g).chg C (λl=> ?_) (λh t l=> ?_) λh l N=>Md.not N (by decide) (by decide) (E h l)
   ·rcases l with e | e
    ·exact I d s g hs b e
    ·exact(q d g).ne (m s hs _ (k.symm.trans e.symm)) (by decide)
   ·rcases l with e | e
    ·subst e;exact(q s hs).ne (m d g _ t) (by decide)
    ·exact p d s h g hs b t (k.symm.trans e.symm)
 ·by_cases l:d=s
  ·subst l
   rw[upd_same] at e;rw[upd_ne _ _ (Ne.symm v)] at i;rcases D with b | ⟨t,b,N⟩
   ·exact p d n h g u v (k.symm.trans (b▸e)) i
   ·rw[e] at b
    injection b with b;have:=(m n u h i).lt;omega
  ·rw[upd_ne _ _ l] at e
   by_cases O:n=s
   ·subst O
    rw[upd_same] at i;rcases D with b | ⟨t,b,N⟩
    ·exact p d n h g u v e (k.symm.trans (b▸i))
    ·rw[i] at b
     injection b with b;have:=(m d g h e).lt;omega
   ·rw[upd_ne _ _ O] at i
    exact p d n h g u v e i
 ·by_cases l:d=s
  ·subst l
   rw[upd_same] at e;rcases D with b | ⟨t,b,N⟩
   ·exact z d h g (k.symm.trans (b▸e))
   ·rw[e] at b
    injection b with b;have K:=(q d g).lt;have L:=A d g;omega
  ·rw[upd_ne _ _ l] at e
   exact z d h g e
theorem ND(s:Nat)(f:Fl)(R:Nat->List SC)(W:Nat->Nat)(w:World)(hs:s<f.n)(n:f.Z s=false)(k:Drz B w f R W):
 Calls prog 204 #[pointer (some ⟨f.D s,0,none⟩)] w λa l=>a=returned (int i64 0)/\Drz B l f R (upd W s 0)/\ChgD B w l:=by
 obtain⟨m,⟨o,i,u,v⟩,p,q⟩:=k;have d:=λb c=>(i b c).ty;have x:=λb c=>(i b c).oty
 obtain⟨r,y,t,D,z,A⟩:DrW w (f.D s) f.p (f.room s) (R s) (W s) (o s):=by
  rcases i s hs with⟨a,-⟩ | ⟨-,k⟩
  ·rw[n] at a;cases a
  ·exact k
 refine(Qt (f.D s) f.p (f.room s) (W s) r w y m).mono ?_;rintro a l ⟨rfl,C,j⟩;refine⟨rfl,⟨Blk.chg m j λa=>(Blk.ty m).ne (a▸d s hs) (by decide),⟨o,λb c=> ?_,u,v⟩,p,q⟩,j.mono λe _ a=>⟨by rw[a];exact q s hs,.inl (a▸d s hs)⟩⟩;by_cases a:b=s
 ·subst a
  rw[upd_same];exact .inr ⟨n,r,C,t.chg j (λe g a=>(t.ownTy e g).ne (a▸d b c) (by decide)) (λe a g=>g.ne (a▸d b c) (by decide)),bE _,z,A⟩
 ·rw[upd_ne _ _ a]
  exact(i b c).chg j (λh=>p b s c hs a h) (λe g h=>(x b c e g).ne (h▸d s hs) (by decide)) (λe h g=>g.ne (h▸d s hs) (by decide))
def jr(L:SC)(W:Nat->Nat):Nat->Nat:=λa=>if a∈L then 0 else W a
theorem Fw(L:SC)(W:Nat->Nat)(x:Nat):jr (L++[x]) W=upd (jr L W) x 0:=by
 funext c;unfold upd jr;by_cases b:c=x
 ·subst b;rw[bu rfl,bu (by simp)]
 ·rw[bA b]
  by_cases a:c∈L
  ·rw[bu a,bu (by simp[a])]
  ·rw[bA a,bA (by simp[a,b])]
theorem JX(W:Nat->Nat):jr [] W=W:=by funext a;unfold jr;rw[bA (by simp)]
theorem JY{L a:SC}(b:∀x,x∈L↔x∈a)(W:Nat->Nat):jr L W=jr a W:=by
 funext c;unfold jr;simp only[b c]
theorem Sa(L:SC)(F:Nat->Prop)(a:SE)(n c:Nat)(g:Nat)(f:Fl)(R:Nat->List SC)(W:Nat->Nat)(w:World)(h:Drz B w f R W)(A:StB w g f)(i:(rI L).ok w F [slice a n c])(s:L.length=n)(C:0<n)(t:n<=100000)(D:∀x∈L,x<f.n/\f.Z x=false)(N:f.n<=64):
 Calls prog 137 #[.func (.func 38) #[pointer (some ⟨g,0,none⟩)] #[],slice a n c] w λj b=>j=returned (int i64 0)/\Drz B b f R (jr L W)/\ChgD B w b:=by
 have b:=ae (iV L F a n c w i s t);have q:=ae s;have r:=ae D;have k:=ae h;have E:=ae A;clear h i s D A;go_enter func137,ntmps137;go_wp2_with fail;refine b.o.mono ?_;rintro j O ⟨v1,rfl,l,e⟩;obtain⟨u,v,rfl⟩:=l.lenA;rw[q.o] at l ⊢;have d:=ae (I1 L w.heap.size n v u O l e.size C t);have m:=ae e;clear l e b;go_wp2_with fail;refine d.o.mono ?_;rintro j P ⟨rfl,l,e⟩;have b:=ae (m.o.trans e);have G:=ae (z8 (L.mergeSort leB) w.heap.size n v u P l b.o.size C t);clear l e d m;go_wp2_with fail;refine G.o.mono ?_;rintro j m ⟨d,o,rfl,H,aa,p,I,J,e⟩;have y:=ae (b.o.trans e);have K:Sz (Drz B m f R (jr (d.take 0) W)):=ae (by rw[take_zero,JX];exact k.o.below y.o);have Q:=ae (E.o.below y.o);have S:Sz ((rI d).ok m (Fd m) [slice u o v]):=ae ((rI d).more J λT e _=>Md.not e (by decide) (by decide));have U:Sz (∀x∈d,x<f.n/\f.Z x=false):=ae λx i=>r.o x ((gJ L).mem_iff.1 (p x i));have V:Sz (jr d W=jr L W):=ae (JY (λx=>⟨λi=>(gJ L).mem_iff.1 (p x i),λi=>I x ((gJ L).mem_iff.2 i)⟩) W);have M:Sz (ChgD B m m):=ae (Chg.refl _ _);have z:=ae H;clear H p I J e G b k r q E;go_wp2_with fail;go_loopw [15] (λp wr=>∃b:Nat,b<=o/\p=int i64 b/\Sz (Drz B wr f R (jr (d.take b) W))/\Sz (ChgD B m wr)) (λp _=>o-(intOf p).toNat)
 case atStart=>exact⟨0,by omega,rfl,K,M⟩
 case round=>
  clear K M;obtain⟨b,ab,rfl,k,q⟩:=hrel;by_cases X:b<o
  ·have ac:(b:Int)<(o:Int):=by omega
   have p:b<d.length:=(by rw[z.o];exact X);obtain⟨a',c',j,E,-⟩:=dY ((rI d).chgD S.o q.o) z.o;injection j with Y e2 Z;subst Y Z;obtain⟨T,ad,rfl,e,G⟩:=E.2 (by omega);have cq:=G b (int i64 (d.getD b 0:Nat)) (dh p);have r:=U.o (d.getD b 0) (by rw[af,ah p];exact aQ p)
   have H:Sz (jr (d.take (b+1)) W=upd (jr (d.take b) W) (d.getD b 0) 0):=ae (by
    rw[aO p,Fw,af,ah p];rfl)
   generalize d.getD b 0=x at*;have I:=ae (vH x g f wr (Q.o.chgD q.o) r.1 N);have J:=ae (ND x f R (jr (d.take b) W) wr r.1 r.2 k.o);generalize f.D x=dx at*;clear G E r p;go_wp2_with fail;refine I.o.mono ?_;rintro j wx ⟨rfl,rfl⟩;go_wp2_with fail;refine J.o.mono ?_;rintro j w5 ⟨rfl,p,r⟩;rw[<-H.o] at p;have E:=ae p;have G:=ae (q.o.trans r);clear p r I J k q H;go_wp2_with fail;go_roundw
   case rel=>exact⟨b+1,by omega,by go_num,E,G⟩
   case measure=>simp[intOf];omega
  ·obtain rfl:b=o:=by omega
   rw[aN (by rw[z.o];exact aj _),V.o] at k;go_wp2_with fail;go_ret;exact⟨rfl,k.o,(ChgD.below y.o).trans q.o⟩
theorem GG(P:List (Nat×SC))(a:SE)(n c:Nat)(g:Nat)(f:Fl)(m:cZ)(R:Nat->List SC)(w:World)(h:Stq B w g f m R)(p:(rS 2 (P.map dG)).ok w (Fd w) [slice a n c])(Q:P.length=n)(h0:0<n)(hn:n<=100000)
 (S:∀x∈P,(x.1<f.n/\f.Z x.1=false)/\x.2.length=64)(T:∀i,i<f.n->(R i).length+(iX P i).length<=f.room i/\f.room i<=512):
 Calls prog 72 #[.func (.func 38) #[pointer (some ⟨g,0,none⟩)] #[],slice a n c] w λe o=>e=returned (int i64 0)/\Stq B o g f m (iG P R)/\ChgD B w o:=by
 have r:=ae Q;have U:=ae S;have HX:=ae p;have an:=ae T;have ao:=ae h;have V:=ae h.sb;have W:=h.n0.2
 have X:Sz (Drz B w f (iG (P.take 0) R) (qg (P.take 0) (λ_=>0))):=ae (by
  have z:iG (P.take 0) R=R:=(by funext i;unfold iG iX;simp);have s:qg (P.take 0) (λ_=>0)=λ_=>0:=(by funext i;unfold qg iX;simp);rw[z,s];exact h.drs)
 have Y:Sz (ChgD B w w):=ae (Chg.refl _ _);have Z:Sz (OwnI w w.heap.size (slice none 0 0) ((P.take 0).map Prod.fst)):=ae (OwnI.nil _ _);clear h p Q S T;go_enter func72,ntmps72;go_wp2_with fail;go_loopw [5,11] (λd i wr=>∃b:Nat,b<=n/\i=int i64 b/\Sz (Drz B wr f (iG (P.take b) R) (qg (P.take b) (λ_=>0)))/\Sz (ChgD B w wr)/\Sz (OwnI wr w.heap.size d ((P.take b).map Prod.fst))) (λ_ i _=>n-(intOf i).toNat)
 case atStart=>exact⟨0,by omega,rfl,X,Y,Z⟩
 case round=>
  clear X Y Z;obtain⟨b,aE,rfl,A,t,j⟩:=hrel;obtain⟨bv,nv,cv,rfl⟩:=j.o.sl;by_cases aa:b<n
  ·have aF:(b:Int)<(n:Int):=by omega
   have d:b<P.length:=(by rw[r.o];exact aa);obtain⟨D,aK,k,l,rfl,v,u,G,F,E⟩:=Bw ((rS 2 _).chgD HX.o t.o) r.o aa;have ab:=U.o (P.getD b wK) (by rw[af,ah d];exact aQ d);have q:P.take (b+1)=P.take b++[P.getD b wK]:=(by rw[aO d,af,ah d];rfl);have ap:Sz (iG (P.take (b+1)) R=upd (iG (P.take b) R) (P.getD b wK).1 (iG (P.take b) R (P.getD b wK).1++[(P.getD b wK).2])):=ae (by rw[q,JV]);have aq:Sz (qg (P.take (b+1)) (λ_=>0)=upd (qg (P.take b) (λ_=>0)) (P.getD b wK).1 (qg (P.take b) (λ_=>0) (P.getD b wK).1+1)):=ae (by rw[q,JW]);have ar:Sz ((P.take (b+1)).map Prod.fst=(P.take b).map Prod.fst++[(P.getD b wK).1]):=ae (by rw[q,aU];rfl);have au:((P.take b).map Prod.fst).length<=1000000:=by rw[aG,aH];omega
   have H:Sz ((iG (P.take b) R (P.getD b wK).1).length<f.room (P.getD b wK).1/\f.room (P.getD b wK).1<=512):=ae (by
    have h1:=an.o _ ab.1.1;have h2:=Qj P d;unfold iG;rw[aI];unfold wK at h1 ⊢;exact⟨by omega,h1.2⟩)
   clear d q v u;generalize (P.take b).map Prod.fst=LF at*;generalize iG (P.take b) R=I at*;generalize qg (P.take b) (λ_=>0)=J at*;generalize P.getD b wK=x at*;obtain⟨d,K⟩:=x;simp only at*;obtain⟨⟨ac,av⟩,ad⟩:=ab;rw[ad] at F E;have q:=(aC wr.heap.size wr).alloc (aj _) (cells #[int i64 d,slice k 64 l] 165);have v:=ae (Blk.new wr 165 #[int i64 d,slice k 64 l]);have ag:=ae (A.o.below q);have L:=ae (t.o.trans (ChgD.below q));have ai:=ae (j.o.below q);have ak:=ae ((rB K).fd E q);go_upto_region 5 with fail;clear q E A t j G F;generalize wr.alloc (cells #[int i64 d,slice k 64 l] 165)=q at*;generalize wr.heap.size=E at*;have x0:q.cell? ⟨E,0,none⟩=some (int i64 d):=Blk.cell v.o 0;have x1:q.cell? ⟨E,1,none⟩=some (slice k 64 l):=Blk.cell v.o 1;have CD:=ae (vH d g f q.drew (V.o.chgD (L.o.trans (ChgD.below ((aC _ _).drew)))) ac W)
   have CA:Sz (Calls prog 136 #[pointer (some ⟨f.D d,0,none⟩),slice k 64 l] q.drew λe o=>e=returned (int i64 0)/\Drz B o f (upd I d (I d++[K])) (upd J d (J d+1))/\ChgD B q.drew o):=ae (by
    obtain⟨a3,c3,e,aw,ax,-⟩:=eU ak.o ad;injection e with z s e3;subst z e3;exact Fv d f I J K k l q.drew ac av (ag.o.below ((aC _ _).drew)) (aw.below ((aC _ _).drew) (aj _)) ax H.o.1 H.o.2)
   generalize f.D d=dx at*
   go_region_law (first
    | (have aL:=ay
       go_simp;go_at_call 136;refine CA.o.mono ?_;rintro e F ⟨rfl,N,o⟩;have al:=ae N;have M:=ae (L.o.trans ((ChgD.below ((aC _ _).drew)).trans o));have G:=ae ((ai.o.below ((aC _ _).drew)).chgD o);have am:Sz (Blk F E 165 #[int i64 d,slice k 64 l]):=ae (Blk.chg v.o ((ChgD.below ((aC _ _).drew)).trans o) (λO=>Md.not (Blk.ty v.o) (by decide) (by decide) O.2));clear N o;go_simp)
    | (go_simp
       go_at_call 38;refine CD.o.mono ?_;rintro e wx ⟨rfl,rfl⟩;have ay:=True.intro;go_simp))
   all_goals(
    clear CD CA x0 x1 ag L ai ak v H;have y0:F.cell? ⟨E,0,none⟩=some (int i64 d):=Blk.cell am.o 0;have az:w.heap.size<=F.heap.size:=M.o.size
    go_wp2_with (at_builtin;refine Ja (w:=F) (C:=w.heap.size) (y:=d) rfl _ _ rfl rfl G.o az au rfl rfl ?_)
    intro v4 w4 N O;rw[<-ar.o] at N;have aA:=ae N;have aB:Sz (Drz B w4 f (iG (P.take (b+1)) R) (qg (P.take (b+1)) (λ_=>0))):=ae (by rw[ap.o,aq.o];exact al.o.chgTy O (λD u=>G.o.ty D u.symm) (by decide));have aD:=ae (M.o.newer O λD u=>(G.o.ltA D u.symm).1);clear N O al M G am y0;go_wp2_with fail;go_roundw
    case rel=>exact⟨b+1,by omega,by go_num,aB,aD,aA⟩
    case measure=>simp[intOf];omega)
  ·obtain rfl:b=n:=by omega
   have k:Sz (P.take b=P):=ae (aN (by rw[r.o];exact aj _));rw[k.o] at A j;have l:nv=b:=by obtain⟨E,F,e⟩:=j.o.lenA;injection e with z s e3;rw[aG,r.o] at s;exact s
   have d:=ae (Sa (P.map Prod.fst) (Fr w.heap.size) bv nv cv g f (iG P R) (qg P (λ_=>0)) wr A.o (V.o.chgD t.o) (gM j.o) (by rw[aG,r.o,l]) (by omega) (by omega)
    (λx p=>by obtain⟨y,q,rfl⟩:=aZ.1 p;exact(U.o y q).1) W)
   have u:Sz (jr (P.map Prod.fst) (qg P (λ_=>0))=λ_=>0):=ae (by
    funext i;unfold jr;split
    ·rfl
    ·rename_i v
     unfold qg iX
     rw[filter_eq_nil_iff.2 λx p D=>v (by have:x.1=i:=by simpa using D
                                          rw[<-this];exact mem_map_of_mem p)]
     rfl)
   rw[u.o] at d;clear j k l;go_wp2_with fail;refine d.o.mono ?_;rintro e D ⟨rfl,k,o⟩;have l:=ae (t.o.trans o);have v:=ae k;clear k o d;go_wp2_with fail;go_ret;exact⟨rfl,ao.o.chgD l.o v.o,l.o⟩
end
section
variable {B:Nat}
def ou(n:Nat):Nat:=(n+47)/48
def eD(m:cZ)(i:Nat):SC:=xA m.seq i (ou (bX m).length) (((bX m).drop (48*i)).take 48)
def bR(m:cZ):List SC:=(range (ou (bX m).length)).map (eD m)
def jE(m:cZ):Prop:=1<=(bX m).length/\(bX m).length<=12000/\By (bX m)
theorem fZ(m:cZ):(bR m).length=ou (bX m).length:=by unfold bR;rw[aG,bg]
theorem jO(m:cZ)(i:Nat):(eD m i).length=64:=by
 unfold eD xA;refine iZ ?_;rw[aI,aI,dz];simp;omega
def mE(m:cZ)(L:SC):List (Nat×SC):=(L.map λa=>(bR m).map λb=>(a,b)).flatten
theorem MK(m:cZ)(L:SC)(s:Nat):mE m (L++[s])=mE m L++(bR m).map λa=>(s,a):=by
 unfold mE;rw[aU,flatten_append];simp
theorem Cm(m:cZ)(L:SC):(mE m L).length=L.length*ou (bX m).length:=by
 unfold mE
 induction L with
 | nil=>simp
 | cons b L a=>rw[map_cons,flatten_cons,aI,a,aG,fZ,length_cons,Nat.succ_mul,Nat.add_comm]
theorem lD{m:cZ}(a:jE m):1<=ou (bX m).length/\ou (bX m).length<=250:=by
 have b:=a.1;have c:=a.2.1;unfold ou;omega
theorem Aw{m:cZ}(b:jE m)(L:SC):L.length<=(mE m L).length/\(mE m L).length<=L.length*250:=by
 have a:=lD b;rw[Cm];exact⟨Nat.le_mul_of_pos_right _ a.1,Nat.mul_le_mul_left _ a.2⟩
theorem EL{m:cZ}(g:jE m)(L:SC):∀x∈mE m L,x.1∈L/\x.2.length=64:=by
 intro x a;obtain⟨h,b,c⟩:=mem_flatten.1 a;obtain⟨i,d,rfl⟩:=aZ.1 b;obtain⟨j,e,rfl⟩:=aZ.1 c;obtain⟨f,_,rfl⟩:=aZ.1 e;exact⟨d,jO m f⟩
theorem pI(m:cZ){L:SC}(f:L.Nodup)(i:Nat):iX (mE m L) i=if i∈L then bR m else []:=by
 induction L with
 | nil=>rfl
 | cons b L g=>
   obtain⟨h,j⟩:=nodup_cons.1 f;have d:mE m (b :: L)=((bR m).map λc=>(b,c))++mE m L:=(by unfold mE;rw[map_cons,flatten_cons]);rw[d,mi,g j]
   have k:iX ((bR m).map λc=>(b,c)) i=if i=b then bR m else []:=by
    unfold iX;by_cases a:i=b
    ·subst a
     rw[bu rfl,filter_eq_self.2 (λl e=>by obtain⟨c,_,rfl⟩:=aZ.1 e;simp),map_map];exact map_id _
    ·rw[bA a,filter_eq_nil_iff.2 (λl e=>by obtain⟨c,_,rfl⟩:=aZ.1 e;simpa using Ne.symm a)];rfl
   rw[k];by_cases a:i=b
   ·subst a
    rw[bu rfl,bA h,bu (mem_cons_self ..),append_nil]
   ·rw[bA a,nil_append]
    by_cases c:i∈L
    ·rw[bu c,bu (mem_cons_of_mem _ c)]
    ·rw[bA c,bA (λd=>(mem_cons.1 d).elim a c)]
theorem mQ(m:cZ)(S:m.objs.length<=1)(l o:SE)(j p k q:Nat)(F:Nat->Prop)(w:World)(D:(rI m.drives).ok w F [slice l j p])(T:m.drives.length=j)(E:(rS 4 (m.objs.map df)).ok w F [slice o k q])(U:m.objs.length=k)(M:gP m)(x:jE m):
 Calls prog 69 #[.agg (bV m (slice l j p) (slice o k q))] w λd i=>∃v,d=returned v/\OwnS i w.heap.size 30 1 (Ty 5 i) v ((bR m).map rB)/\Below w.heap.size w i:=by
 have r:Sz (Sx w (w.alloc (cells (bV m (slice l j p) (slice o k q)) 68)) [bY w.heap.size 68 (bV m (slice l j p) (slice o k q)),eR F (slice l j p) (rI m.drives),eR F (slice o k q) (rS 4 (m.objs.map df))]):=
  ae (((((Sx.nil w).add (eR F (slice o k q) (rS 4 (m.objs.map df))) E).add (eR F (slice l j p) (rI m.drives)) D).alloc _).add (bY _ _ _) (Blk.new w _ _))
 have t:=ae λw (D:(rI m.drives).ok w F [slice l j p]) (E:(rS 4 (m.objs.map df)).ok w F [slice o k q])=>uw m S l o j p k q F w D T E U M;have u:m.seq<4294967296:=by have:=M.1;omega
 have al:=ae u;obtain⟨g,b⟩:∃g,(bX m).length=g:=⟨_,rfl⟩;have am:=x.2.1;have an:=x.1;have f:=lD x;have s:=fZ m;rw[b] at am an f s;obtain⟨c,e⟩:∃c,ou g=c:=⟨_,rfl⟩;have y:c=(g+47)/48:=e.symm;rw[e] at f s;have ao:Sz (∀a,eD m a=xA m.seq a c (((bX m).drop (48*a)).take 48)):=ae λa=>by unfold eD;rw[b,e]
 have aq:Sz (bR m=(range c).map (eD m)):=ae (by unfold bR;rw[b,e]);have ar:=ae x.2.2;have G:=ae b;have A:Sz (((g:Int)+47)/48=(c:Int)):=ae (by omega);have z:Sz (((g:Int)+48-1)/48=(c:Int)):=ae (by omega);have au:=ae (And.intro y f);have aV:(c:Int)<=250:=by omega
 have aX:(0:Int)<=(c:Int):=by omega
 have aY:wrap64 (c:Int)=(c:Int):=by unfold wrap64;omega
 unfold bV at*;clear D E M b S U T u x e y s f;go_enter func69,ntmps69;go_wp2_with fail;generalize w.alloc (cells #[int i64 m.seq,int i64 m.next,int i64 m.K,int i64 m.H,int i64 m.Z,int i64 m.extra,slice l j p,slice o k q] 68)=w0 at*;refine(t.o _ (r.o.rep 1 rfl) (r.o.rep 2 rfl)).mono ?_;rintro d f ⟨v1,rfl,b,N⟩;have O:=ae (r.o.step N);obtain⟨P,y,d,s,u⟩:=b.form (by rw[G.o];omega);rw[G.o] at d;subst d;obtain⟨-,av,-⟩:=b.caps;have aw:=ae b;generalize e:w.heap.size=V at*;have HG:=ae e;clear e N b r t s u;have Q:f.cell? ⟨V,0,none⟩=some (int i64 m.seq):=(O.o.blk 0 rfl).cell 0;have W:Sz (OwnS f f.heap.size 30 1 (Ty 5 f) (slice none 0 0) (((range 0).map (eD m)).map rB)):=ae (OwnS.nil _ _ _ _ _);have X:=ae (aC f.heap.size f);go_wp2_with fail;clear Q;rw[z.o];clear A z;go_loopw [5,16] (λv a wr=>∃b:Nat,b<=c/\a=int i64 b/\Sz (OwnS wr f.heap.size 30 1 (Ty 5 wr) v (((range b).map (eD m)).map rB))/\Sz (Below f.heap.size f wr)) (λ_ a _=>c-(intOf a).toNat)
 case atStart=>exact⟨0,by omega,rfl,W,X⟩
 case round=>
  clear W X;obtain⟨b,a0,rfl,z,A⟩:=hrel;obtain⟨H,I,J,rfl⟩:=z.o.sl;have Y:=ae (O.o.step A.o);by_cases a3:b<c
  ·have a5:(b:Int)<(c:Int):=by omega
   have u:=au.o;obtain⟨a,s⟩:∃a,a=48*b:=⟨_,rfl⟩;obtain⟨e,K⟩:∃e,e=min g (48*b+48):=⟨_,rfl⟩;have ad:a<=e/\e<=g/\e-a<=48:=(by omega);have ax:IntKind.i64.wrap ((b:Int)*48)=(a:Int):=(by rw[IntKind.wrap_i64];omega);have a6:IntKind.i64.wrap (a:Int)=(a:Int):=(by rw[IntKind.wrap_i64];omega);have a7:(b:Int)*48=(a:Int):=(by omega);have ay:min (g:Int) (((b:Int)+1)*48)=(e:Int):=(by omega);have az:min (g:Int) ((b:Int)*48+48)=(e:Int):=(by omega);have N:(a:Int)<=(e:Int):=(by omega);have a8:(e:Int)<=(y:Int):=(by omega);have r:(0:Int)<=(a:Int):=(by omega);have aA:¬y=a:=(by omega);have a9:¬(y:Int)=(a:Int):=by omega
   have Z:Sz (Calls prog 125 #[int i64 m.seq,int i64 b,int i64 c,slice (some ⟨P,a,none⟩) (e-a) (y-a)] wr.drew λd i=>∃t,d=returned (slice (some ⟨t,0,none⟩) 64 64)/\wr.drew.heap.size<=t/\Blk i t 5 (bO (eD m b))/\Below wr.drew.heap.size wr.drew i):=ae (by
    obtain⟨ap,ba,d,aB,-⟩:=aw.o.rd2 G.o;injection d with e1 _ e3;subst e1 e3;have aa:=NC (aB.below A.o (aj _)) av (lo:=a) (n:=e-a) (by omega);rw[bA aA,show(Option.map (λi:Addr=>i.add a) (some ⟨P,0,none⟩))=some ⟨P,a,none⟩ by simp[Addr.add_lit]] at aa
    rw[ao.o,show((bX m).drop (48*b)).take 48=((bX m).drop a).take (e-a) by
     rw[<-s];have h1:((bX m).drop a).length=g-a:=(by rw[length_drop,G.o]);rcases bD (g-a) 48 with h | h
     ·rw[aN (by omega),aN (by omega)]
     ·congr 1;omega]
    exact MQ m.seq b c (((bX m).drop a).take (e-a)) _ (e-a) (y-a) wr.drew al.o (by omega) (by omega) (aa.more A.o.size) (λi hx=>ar.o i (mem_of_mem_drop (bI hx))) (by omega) (λd=>by cases d))
   have aD:Sz (((range (b+1)).map (eD m)).map rB=((range b).map (eD m)).map rB++[rB (eD m b)]):=ae (by rw[range_succ,aU,aU];rfl);have aE:(((range b).map (eD m)).map rB).length<=1000000:=(by rw[aG,aG,bg];omega);have ab:=ae A.o.size;have Q:wr.cell? ⟨V,0,none⟩=some (int i64 m.seq):=(Y.o.blk 0 rfl).cell 0;have ac:=ae (jO m b);clear s K ad u;generalize eD m b=ad at*;generalize ((range b).map (eD m)).map rB=LL at*;go_upto_region 8 with fail
   go_region_law (first
    | (change (if _=true then Oper.wp _ (Oper.mk (some 37) _ _ _ _ _) _ _ _ _ else _)
       refine oQ (w:=s) (C:=f.heap.size) (F:=Ty 5 s) (v:=slice H I J) (L:=LL) (R:=rB ad) rfl _ _ rfl underlying45 dP rfl (by decide) (by decide) ag.o aF aE aK.o rfl rfl rfl ?_;intro v4 w4 K ai aL ak aM;obtain⟨a4,n4,c4,rfl⟩:=K.sl;rw[<-aD.o] at K;have aR:Sz (OwnS w4 f.heap.size 30 1 (Ty 5 w4) (slice a4 n4 c4) (((range (b+1)).map (eD m)).map rB)):=ae (K.reTy λi u=>ak i u.lt λd=>u.ne (ag.o.ownTy i d.symm) (by decide));have aS:=ae (aT.o.trans ai);clear K ai aL ak aM)
    | (go_simp
       go_at_call 125;refine Z.o.mono ?_;rintro d s ⟨t,rfl,hg,K,r⟩;replace r:=bQ r;have aF:f.heap.size<=s.heap.size:=aP ab.o r.size;have aT:=ae (A.o.trans (r.mono ab.o));have ag:Sz (OwnS s f.heap.size 30 1 (Ty 5 s) (slice H I J) LL):=ae ((z.o.new r).reTy λi u=>r.block i u.lt)
       have aK:Sz ((rB ad).ok s (λi=>Ty 5 s i/\some i≠(Value.slice H I J).ownBlock) [slice (some ⟨t,0,none⟩) 64 64]):=ae (by
        have h:=oh (F:=λi=>Ty 5 s i/\some i≠(Value.slice H I J).ownBlock) K ⟨Blk.ty K,λd=>by have h1:=(z.o.lt t d.symm).2;have h2:wr.heap.size<=t:=hg;omega⟩ (by rw[ac.o];unfold maxLen;omega);rw[ac.o] at h;exact h)
       clear hg K r;go_simp))
   all_goals(
    clear Z Q ay az ax;go_wp2_with fail;go_roundw
    case rel=>exact⟨b+1,by omega,by go_num,aR,aS⟩
    case measure=>simp[intOf];omega)
  ·obtain rfl:b=c:=by omega
   rw[<-aq.o] at z;go_wp2_with fail;go_ret;exact⟨_,rfl,z.o.base O.o.1.size λi u=>u,Y.o.1⟩
theorem PE{w:World}{C:Nat}{e:TypeId}{F:Nat->Prop}{v:Value}{L:List Rp}(a:OwnS w C e 1 F v L){i:Nat}{R:Rp}(b:L[i]? =some R):∃g c u,v=slice (some ⟨g,0,none⟩) L.length c/\g<w.heap.size/\w.cell? ⟨g,i,none⟩=some u/\R.ok w (λd=>F d/\some d≠v.ownBlock) [u]:=by
 have k:=a.lt
 have p:i<L.length:=by
  rcases bD i L.length with a | a
  ·exact a
  ·rw[List.getElem?_eq_none a] at b;cases b
 obtain⟨d,f,l⟩:=a;have q:d.length=L.length:=by have:=f.1;omega
 have h:=(l i R b);rw[Nat.mul_one] at h
 have m:(d.drop i).take 1=[d[i]'(by omega)]:=by
  rw[drop_eq_getElem_cons (by omega)];rfl
 rw[m] at h;rcases f.2 with⟨_,n⟩ | ⟨g,o,r,rfl,_,s,_⟩
 ·exact absurd n (by omega)
 ·have j:=f.cells (g:=g) rfl i _ (ah (by omega))
  rw[Addr.add_lit,Nat.zero_add] at j;exact⟨g,o,_,rfl,(k g rfl).2,j,h⟩
theorem Ay(m:cZ)(W:m.objs.length<=1)(o q:SE)(g r j s:Nat)(F:Nat->Prop)(w:World)(E:(rI m.drives).ok w F [slice o g r])(X:m.drives.length=g)(G:(rS 4 (m.objs.map df)).ok w F [slice q j s])(Y:m.objs.length=j)(Z:gP m)(z:jE m)
 (L:SC)(a:SE)(n c:Nat)(hL:(rI L).ok w F [slice a n c])(aa:L.length=n)(hn:n<=64):
 Calls prog 73 #[.agg (bV m (slice o g r) (slice q j s)),slice a n c] w λt b=>∃v,t=returned v/\(rS 2 ((mE m L).map dG)).ok b (Fu b) [v]/\Below w.heap.size w b:=by
 have d:Sz (Sx w (w.alloc (cells (bV m (slice o g r) (slice q j s)) 68)) [bY w.heap.size 68 (bV m (slice o g r) (slice q j s)),eR F (slice o g r) (rI m.drives),eR F (slice q j s) (rS 4 (m.objs.map df)),eR F (slice a n c) (rI L)]):=
  ae ((((((Sx.nil w).add (eR F (slice a n c) (rI L)) hL).add (eR F (slice q j s) (rS 4 (m.objs.map df))) G).add (eR F (slice o g r) (rI m.drives)) E).alloc _).add (bY _ _ _) (Blk.new w _ _))
 have f:=ae λw (E:(rI m.drives).ok w F [slice o g r]) (G:(rS 4 (m.objs.map df)).ok w F [slice q j s])=>mQ m W o q g r j s F w E X G Y Z z;have J:=ae aa;obtain⟨x,e⟩:∃x,(bR m).length=x:=⟨_,rfl⟩;have al:x<=250:=by rw[<-e,fZ];exact(lD z).2
 have H:=ae e
 have am:Sz (∀b∈bR m,b.length=64):=ae λb k=>by
  obtain⟨i,_,rfl⟩:=aZ.1 k;exact jO m i
 have an:Sz (∀b,(mE m (L.take b)).length=(L.take b).length*x):=ae λb=>by rw[Cm,<-e,fZ]
 unfold bV at*;clear E G Z W Y X hL aa z e;go_enter func73,ntmps73;go_wp2_with fail;generalize w.alloc (cells #[int i64 m.seq,int i64 m.next,int i64 m.K,int i64 m.H,int i64 m.Z,int i64 m.extra,slice o g r,slice q j s] 68)=w0 at*;refine(f.o _ (d.o.rep 1 rfl) (d.o.rep 2 rfl)).mono ?_;rintro t w1 ⟨v1,rfl,e,k⟩;have S1:=ae ((d.o.step k).cut [eR F (slice a n c) (rI L)] (by simp));obtain⟨ax,ay,rfl,-⟩:=e.val;rw[aG,H.o] at e ⊢;have ao:=ae e;have az:w.heap.size<=w1.heap.size:=S1.o.1.size;clear k d f e;have A:Sz (OwnS w1 w1.heap.size 165 2 (Ty 5 w1) (slice none 0 0) ((mE m (L.take 0)).map dG)):=ae (OwnS.nil _ _ _ _ _);have ab:=ae (aC w1.heap.size w1);go_wp2_with fail;go_loopw [6,15] (λv i wr=>∃b:Nat,b<=n/\i=int i64 b/\Sz (OwnS wr w1.heap.size 165 2 (Ty 5 w1) v ((mE m (L.take b)).map dG))/\Sz (Below w1.heap.size w1 wr)) (λ_ i _=>n-(intOf i).toNat)
 case atStart=>exact⟨0,by omega,rfl,A,ab⟩
 case round=>
  clear A ab;obtain⟨b,aA,rfl,e,f⟩:=hrel;have K:=ae (S1.o.step f.o);obtain⟨M,N,O,rfl⟩:=e.o.sl;by_cases ap:b<n
  ·have aB:(b:Int)<(n:Int):=by omega
   have d:b<L.length:=(by rw[J.o];exact ap);obtain⟨a',c',t,D,-⟩:=dY (K.o.rep 0 rfl) J.o;injection t with P e2 Q;subst P Q;obtain⟨b',o',rfl,aD,I⟩:=D.2 (by omega);have S:=I b (int i64 (L.getD b 0:Nat)) (dh d)
   have HT:Sz (mE m (L.take (b+1))=mE m (L.take b)++(bR m).map λc=>(L.getD b 0,c)):=ae (by
    rw[aO d,MK,af,ah d];rfl)
   have aq:Sz ((mE m (L.take b)).length<=64*250):=ae (by rw[an.o,aH];exact bC (by omega) al);have A:Sz (OwnS wr w1.heap.size 165 2 (Ty 5 w1) (slice M N O) ((mE m (L.take b)++((bR m).take 0).map λc=>(L.getD b 0,c)).map dG)):=ae (by rw[take_zero,map_nil,append_nil];exact e.o);generalize L.getD b 0=k at*;generalize mE m (L.take b)=C at*;clear I D d e;go_wp2_with fail;clear S;go_loopw [6,21] (λv i wr=>∃d:Nat,d<=x/\i=int i64 d/\Sz (OwnS wr w1.heap.size 165 2 (Ty 5 w1) v ((C++((bR m).take d).map λc=>(k,c)).map dG))/\Sz (Below w1.heap.size w1 wr)) (λ_ i _=>x-(intOf i).toNat)
   case atStart=>exact⟨0,by omega,rfl,A,f⟩
   case round=>
    clear A f K;obtain⟨d,aE,rfl,e,f⟩:=hrel;obtain⟨M,N,O,rfl⟩:=e.o.sl;by_cases ar:d<x
    ·have aF:(d:Int)<(x:Int):=by omega
     have I:d<(bR m).length:=(by rw[H.o];exact ar);obtain⟨gr,cr,u,t,ac,ad,S⟩:=PE ao.o (i:=d) (R:=rB ((bR m)[d])) (by rw[List.getElem?_map,ah I];rfl);rw[aG,H.o] at t;injection t with P _ Q;subst P Q;have ag:=am.o _ (aQ I)
     have ai:Sz ((C++((bR m).take (d+1)).map λc=>(k,c)).map dG=(C++((bR m).take d).map λc=>(k,c)).map dG++[dG (k,(bR m)[d])]):=ae (by
      rw[aO I,aU (l:=(bR m).take d),<-append_assoc,aU];rfl)
     have ak:((C++((bR m).take d).map λc=>(k,c)).map dG).length<=1000000:=(by have:=aq.o;rw[aG,aI,aG,aH];omega);generalize (bR m)[d]=T at*;obtain⟨U,V,rfl,-⟩:=eU S ag;have av:wr.cell? ⟨gr,d,none⟩=some (slice U 64 V):=(f.o.cell (p:=⟨gr,d,none⟩) ac).trans ad;have HR:Sz ((dG (k,T)).ok wr (λD=>Ty 5 w1 D/\some D≠(Value.slice M N O).ownBlock) [int i64 k,slice U 64 V]):=ae (qj (B:=rB T) (wZ (u:=int i64 (k:Nat)) rfl) (y:=[slice U 64 V]) ((rB _).keep S λD hb hl=>⟨f.o.block D hl,hb.1,λt=>by have h1:=(e.o.lt D t.symm).1;omega⟩));have aw:=f.o.size;generalize (C++((bR m).take d).map λc=>(k,c)).map dG=LL at*;clear ac ad S ag I
     go_wp2_with (at_builtin;refine iA (w:=wr) (w1:=wr) rfl _ _ rfl underlying120 xu rfl (by decide) (by decide) e.o (aC _ _) aw ak (R:=dG (k,T)) HR.o rfl rfl rfl ?_)
     intro v6 w6 D I;rw[<-ai.o] at D;have S:=ae D;have ac:=ae (f.o.trans I);clear D I e HR ai f av ak;obtain⟨D,I,ad,rfl⟩:=S.o.sl;go_wp2_with fail;go_roundw
     case rel=>exact⟨d+1,by omega,by go_num,S,ac⟩
     case measure=>simp[intOf];omega
    ·obtain rfl:d=x:=by omega
     have D:Sz ((bR m).take d=bR m):=ae (aN (by rw[H.o];exact aj _));rw[D.o,<-HT.o] at e;go_wp2_with fail;go_roundw
     case rel=>exact⟨b+1,by omega,by go_num,e,f⟩
     case measure=>simp[intOf];omega
  ·obtain rfl:b=n:=by omega
   have D:Sz (L.take b=L):=ae (aN (by rw[J.o];exact aj _));rw[D.o] at e;go_wp2_with fail;go_ret;refine⟨_,rfl,?_,K.o.1⟩;exact(e.o.base (aj _) λd z=>Mt.not (Ty.keep z (f.o.block d z.lt)) (by decide) (by decide) (by decide)).repU (by decide)
end
section
variable {B:Nat}
theorem Dn{w:World}{g p:Nat}{m:cZ}{d e b c:Value}{x:Nat->Value}{a:cZ}(f:Blk w g 96 (((((((((kZ m d e p x).setIfInBounds 0 (int i64 a.seq)).setIfInBounds 1 (int i64 a.next)).setIfInBounds 2 (int i64 a.K)).setIfInBounds 3 (int i64 a.H)).setIfInBounds 4 (int i64 a.Z)).setIfInBounds 5 (int i64 a.extra)).setIfInBounds 6 b).setIfInBounds 7 c)):Blk w g 96 (kZ a b c p x):=by
 have h:((((((((kZ m d e p x).setIfInBounds 0 (int i64 a.seq)).setIfInBounds 1 (int i64 a.next)).setIfInBounds 2 (int i64 a.K)).setIfInBounds 3 (int i64 a.H)).setIfInBounds 4 (int i64 a.Z)).setIfInBounds 5 (int i64 a.extra)).setIfInBounds 6 b).setIfInBounds 7 c=kZ a b c p x:=by
  unfold kZ;apply Array.ext';simp
 rw[h] at f;exact f
theorem Stq.other{w w':World}{g:Nat}{f:Fl}{m c:cZ}{R:Nat->List SC}{d e:Value}(o:Stq B w g f m R)(h:Chg (·=g) w w')(b:Blk w' g 96 (kZ c d e f.p (oC f)))(p:(rI c.drives).ok w (Fu w) [d])(q:(rS 4 (c.objs.map df)).ok w (Fu w) [e])(r:c.drives=range f.n):Stq B w' g f c R:=by
 obtain⟨s,⟨v,x,j,-⟩,-,u⟩:=o;have k:∀a,Fu w a->a≠g:=λa b i=>b (.inr (.inr (i▸Blk.ty j)));have l:∀a,Fu w a->a<w.heap.size->w'.heap[a]? =w.heap[a]? /\Fu w' a:=λa b n=>⟨h.block a n (k a b),b.keep (h.block a n (k a b))⟩;exact⟨s.chgTy (t:=96) h (λa i=>i▸Blk.ty j) (by decide),⟨d,e,b,(rI _).keep p l,(rS 4 _).keep q l⟩,r,u⟩
theorem Sc(e:eB)(m b:cZ)(g:Nat)(f:Fl)(R:Nat->List SC)(k l:SE)(d o p:Nat)(L:SC)(a:SE)(n c:Nat)(w:World)(h:Stq B w g f m R)(K:B<=g/\B<=w.heap.size)(V:b.drives=range f.n)
 (t:b.objs=[e])(r:(rI b.drives).ok w (Fd w) [slice k d o])(D:b.drives.length=d)(s:(rS 4 (b.objs.map df)).ok w (Fd w) [slice l 1 p])(q:gP b)(E:jE b)
 (F:(rI L).ok w (Fd w) [slice a n c])(M:L.length=n)(h0:0<n)(hn:n<=64)(W:∀x∈L,x<f.n/\f.Z x=false)(X:∀i,i<f.n->(R i).length+(iX (mE b L) i).length<=f.room i/\f.room i<=512):
 Calls prog 109 #[pointer (some ⟨g,0,none⟩),.agg (bV b (slice k d o) (slice l 1 p)),slice a n c] w λG j=>G=returned (int i64 0)/\Stq B j g f b (iG (mE b L) R)/\Below B w j/\ChgT w j:=by
 have v:=oU (q.2.2.2.2.2.2.1 e (by rw[t];simp)) q.2.2.1;have H:d<=64:=by rw[<-D];exact q.2.2.2.2.1.2
 have S:=ae λw (j:Nat->Prop) (r:(rI b.drives).ok w j [slice k d o]) (s:(rS 4 (b.objs.map df)).ok w j [slice l 1 p]) (F:(rI L).ok w j [slice a n c])=>Ay b (by rw[t];simp) k l d o 1 p j w r D s (by rw[t];rfl) q E L a n c F M hn;have Y:=ae λw (r:(rI b.drives).ok w (Fd w) [slice k d o]) (s:(rS 4 (b.objs.map df)).ok w (Fd w) [slice l 1 p])=>yL b e t k l d o p (Fd w) w r D (by omega) s (by omega);have j:=(aC w.heap.size w).alloc (aj _) (cells (bV b (slice k d o) (slice l 1 p)) 68);have y:=ae (Blk.new w 68 (bV b (slice k d o) (slice l 1 p)));have T:=ae (h.below j);have z:=ae ((rI _).fd r j);have A:=ae ((rS 4 _).fd s j);have U:=ae ((rI _).fd F j);have Z:=ae (j.mono K.2);have am:=ae (ChgT.below j);have u:=ae K;have aa:=ae (Aw E L);have C:=ae (EL E L);have an:=ae V;have ab:=ae M;have ac:=ae W;have ad:=ae X;unfold bV at*;clear h K t r D s q E F M W X j v H V;go_enter func109,ntmps109;go_wp2_with fail;generalize w.alloc (cells #[int i64 b.seq,int i64 b.next,int i64 b.K,int i64 b.H,int i64 b.Z,int i64 b.extra,slice k d o,slice l 1 p] 68)=w0 at*;refine(S.o w0 (Fd w0) z.o A.o U.o).mono ?_;rintro G w1 ⟨v1,rfl,v,j⟩;obtain⟨ap,H,cp,rfl⟩:=nu v
 have I:(mE b L).length=H:=by
  obtain⟨a',n',c',N,_,_,_,h4,_⟩:=v;injection N with N _;injection N with _ e2 _;rw[aG] at h4;omega
 have J:0<H/\H<=100000:=by have O:=aa.o;rw[I,ab.o] at O;exact⟨aW h0 O.1,aP O.2 (by omega)⟩
 have ag:=ae (T.o.below j);have P:=ae (y.o.below j y.o.lt);have ai:=ae ((rI _).fd z.o j);have ak:=ae ((rS 4 _).fd A.o j);have al:=ae (Z.o.trans (j.mono (aP u.o.2 Z.o.size)));have ao:=ae (am.o.trans (ChgT.below j));have CA:=ae (GG (mE b L) ap H cp g f m R w1 ag.o ((rS 2 _).more v λaq Q _=>Q.fd) I J.1 J.2 (λx hx=>⟨ac.o x.1 (C.o x hx).1,(C.o x hx).2⟩) ad.o);clear v j I J T y z A U S aa C ab ac ad;go_wp2_with fail;refine CA.o.mono ?_;rintro G w2 ⟨rfl,v,j⟩;have aa:=ae v;have ab:=ae (P.o.chg j λq=>Md.not (Blk.ty P.o) (by decide) (by decide) q.2);have ac:=ae ((rI _).chgD ai.o j);have ad:=ae ((rS 4 _).chgD ak.o j);have S:=ae (al.o.trans (j.lo (aP u.o.2 al.o.size)));have ar:=ae (ao.o.trans (ChgT.ofD j));clear v j CA ag P ai ak;obtain⟨x0,x1,x2,x3,x4,x5,x6,x7⟩:=bW ab.o;go_wp2_with fail;refine(Y.o w2 ac.o ad.o).mono ?_;rintro G I ⟨v3,v,y,rfl,P,ag,J⟩;have T:=ae (aa.o.below J);have ai:=ae (mI P);have ak:=ae ((rS 4 _).more ag λaq Q _=>Q.1);have Q:=ae (S.o.trans (J.mono (aP u.o.2 S.o.size)));have aq:=ae (ar.o.trans (ChgT.below J));obtain⟨z,A,C,rfl⟩:=P.sl;obtain⟨-,⟨au,av,j,-⟩,-⟩:=id T.o;obtain⟨k0,k1,k2,k3,k4,k5,k6,k7,-⟩:=iB j;have f0:=j.frozen 0;have f1:=j.frozen 1;have f2:=j.frozen 2;have f3:=j.frozen 3;have f4:=j.frozen 4;have f5:=j.frozen 5;have f6:=j.frozen 6;have f7:=j.frozen 7;have U:=ae j;clear P ag J aa ab ac ad S Y x0 x1 x2 x3 x4 x5 x6 x7 j
 have J:Blk ((((((((I.setCell ⟨g,0,none⟩ (int i64 b.seq)).setCell ⟨g,1,none⟩ (int i64 b.next)).setCell ⟨g,2,none⟩ (int i64 b.K)).setCell ⟨g,3,none⟩ (int i64 b.H)).setCell ⟨g,4,none⟩ (int i64 b.Z)).setCell ⟨g,5,none⟩ (int i64 b.extra)).setCell ⟨g,6,none⟩ (slice z A C)).setCell ⟨g,7,none⟩ (slice v 1 y)) g 96 (kZ b (slice z A C) (slice v 1 y) f.p (oC f)):=by
  have h:=((((((((U.o.set 0 (int i64 b.seq)).set 1 (int i64 b.next)).set 2 (int i64 b.K)).set 3 (int i64 b.H)).set 4 (int i64 b.Z)).set 5 (int i64 b.extra)).set 6 (slice z A C)).set 7 (slice v 1 y));exact Dn h
 have j:Chg (·=g) I ((((((((I.setCell ⟨g,0,none⟩ (int i64 b.seq)).setCell ⟨g,1,none⟩ (int i64 b.next)).setCell ⟨g,2,none⟩ (int i64 b.K)).setCell ⟨g,3,none⟩ (int i64 b.H)).setCell ⟨g,4,none⟩ (int i64 b.Z)).setCell ⟨g,5,none⟩ (int i64 b.extra)).setCell ⟨g,6,none⟩ (slice z A C)).setCell ⟨g,7,none⟩ (slice v 1 y)):=(((((((((Chg.refl (·=g) I).set ⟨g,0,none⟩ (int i64 b.seq) λ_=>rfl).set ⟨g,1,none⟩ (int i64 b.next) λ_=>rfl).set ⟨g,2,none⟩ (int i64 b.K) λ_=>rfl).set ⟨g,3,none⟩ (int i64 b.H) λ_=>rfl).set ⟨g,4,none⟩ (int i64 b.Z) λ_=>rfl).set ⟨g,5,none⟩ (int i64 b.extra) λ_=>rfl).set ⟨g,6,none⟩ (slice z A C) λ_=>rfl).set ⟨g,7,none⟩ (slice v 1 y) λ_=>rfl);have P:=ae (T.o.other j J ai.o ak.o an.o);have S:=ae (aq.o.trans (Chg.mono j λY _ e=>by subst e;exact .inr (.inr (Blk.ty U.o))));have aa:=ae (Q.o.trans (j.below (aP u.o.2 Q.o.size) λY e=>by rw[e];exact u.o.1));clear J j T ai ak Q U;go_wp2_with fail;go_ret;exact⟨rfl,P.o,aa.o,S.o⟩
end
section
variable {B:Nat}
theorem I6(q:Nat)(D:Nat->Nat)(x:Nat):(λa=>if a=q then Value.pointer (some ⟨x,0,none⟩) else iF q D a)=iF (q+1) (upd D q x):=by
 funext a;unfold iF upd;by_cases b:a=q
 ·subst b;rw[bu rfl,bu (by omega),bu rfl]
 ·rw[bA b]
  by_cases c:a<q
  ·rw[bu c,bu (by omega),bA b]
  ·rw[bA c,bA (by omega)]
theorem jD{n k:Nat}(a:k<n):(range n).getD k 0=k:=by
 rw[af,ah (by rw[bg];exact a),getElem_range];rfl
def eF(K H Z ex n:Nat):cZ:=⟨1,0,K,H,Z,ex,range n,[]⟩
theorem qQ{n:Nat}(d:n<=64):zh 63 (range n)=true:=by
 unfold zh;rw[all_eq_true];intro b a;rw[bg] at a;have a:=bG.1 a;rw[jD a,Bool.and_eq_true];refine⟨bq (by omega),?_⟩;by_cases c:b=0
 ·subst c;rfl
 ·rw[Bool.or_eq_true]
  exact .inr (bq (by rw[jD (show b-1<n by omega)];omega))
theorem fV{a b:SC}(d:By a)(e:By b):By (a++b):=λc f=>(bF.1 f).elim (d c) (e c)
theorem Rz{K H Z ex n:Nat}(b:fQ K H Z=true)(c:ex<=16)(a:n<=64):gP (eF K H Z ex n):=
 ⟨⟨aj _,by show(1:Nat)<=2147483647;omega⟩,by show(0:Nat)<=16777216;omega,b,c,⟨qQ a,by show(range n).length<=64;rw[bg];exact a⟩,by show(0:Nat)<=12;omega,λe d=>(by simp[eF] at d),λd e=>(by simp[eF] at e),λd f _ e=>(by simp[eF] at e)⟩
theorem wX(m:cZ):(bX m).length=14+m.drives.length+(m.objs.map jm).flatten.length:=by
 unfold bX;simp[dz];omega
theorem wY{n:Nat}(b:n<=64):By (range n):=λc a=>by have:=bG.1 a;omega
theorem okPgN{K H Z ex n:Nat}(c:fQ K H Z=true)(e:ex<=16)(d:n<=64):jE (eF K H Z ex n):=by
 have f:=bn c;have g:=wX (eF K H Z ex n);have h:(eF K H Z ex n).drives.length=n:=bg;have i:((eF K H Z ex n).objs.map jm).flatten.length=0:=rfl;refine⟨by omega,by omega,?_⟩;unfold bX;refine fV (fV (fV (fV (fV (fB _ _) (fB _ _)) ?_) (wY d)) ?_) ?_
 ·intro b a
  simp only[mem_cons,not_mem_nil,or_false] at a;have:(eF K H Z ex n).K=K/\(eF K H Z ex n).H=H/\(eF K H Z ex n).Z=Z/\(eF K H Z ex n).extra=ex:=⟨rfl,rfl,rfl,rfl⟩;omega
 ·intro b a
  have:b=0:=mem_singleton.1 a;omega
 ·intro b a
  simp[eF] at a
theorem Mk(K H Z ex j:Nat)(L:SC)(F:Nat->Prop)(a:SE)(n c:Nat)(w:World)(Q:fQ K H Z=true)(ar:ex<=16)(ak:0<n)(R:n<=64)(hL:∀x∈L,(bR (eF K H Z ex n)).length<=x/\1<=x/\x<=512)(hp:PwS w j)(q:(rI L).ok w F [slice a n c])(hl:L.length=n):
 Calls prog 43 #[dO K H Z,int i64 ex,pointer (some ⟨j,0,none⟩),slice a n c] w λe d=>∃g D,e=returned (.tuple #[pointer (some ⟨g,0,none⟩),int i64 0])/\w.heap.size<=g/\Stq w.heap.size d g ⟨j,n,D,λb=>L.getD b 0,λ_=>false⟩ (eF K H Z ex n) (λb=>if b<n then bR (eF K H Z ex n) else [])/\d.cell? ⟨g,7,none⟩=some (slice none 0 0)/\Below w.heap.size w d:=by
 have f:Sz (Sx w (w.alloc (cells #[int i64 K,int i64 H,int i64 Z] 25)) [bY w.heap.size 25 #[int i64 K,int i64 H,int i64 Z],bY j 138 pwC,eR F (slice a n c) (rI L)]):=
  ae (((((Sx.nil w).add (eR F (slice a n c) (rI L)) q).add (bY j 138 pwC) hp).alloc _).add (bY _ _ _) (Blk.new w _ _))
 have o:=ae λw (h:(rI L).ok w F [slice a n c])=>DZ L F a n c w h hl R ak (λx q=>(hL x q).2);have i:=ae λw=>gU K H Z w;rw[Q] at i;have a3:¬(16:Int)<(ex:Int):=by omega
 have t:=ae Q;have au:=ae (Rz Q ar R);have ag:=ae (okPgN Q ar R);have S:=ae hl;have al:=ae hL;have a4:¬(n:Int)=0:=by omega
 have a6:¬n=0:=by omega
 have aR:=ae ((rI _).bl q);unfold dO at i ⊢;clear q hp Q hl hL;go_enter func43,ntmps43;go_wp2_with fail;generalize w.alloc (cells #[int i64 K,int i64 H,int i64 Z] 25)=w0 at*;refine(o.o w0 (f.o.rep 2 rfl)).mono ?_;rintro e w1 ⟨v1,rfl,k,r⟩;have av:=ae (show w.heap.size<=w0.heap.size from f.o.1.size);have l:=ae (f.o.step r);have m:=ae k;obtain⟨N,u,rfl⟩:=k.lenA;rw[bg] at m ⊢;obtain⟨p0,p1,p2⟩:=lJ (l.o.blk 0 rfl);clear k r f o;go_wp2_with fail;refine(i.o w1).mono ?_;rintro e z ⟨rfl,f⟩;have S2:=ae (l.o.step f);have am:=ae (m.o.below f);clear f l m p0 p1 p2 i;obtain⟨p0,p1,p2⟩:=lJ (S2.o.blk 0 rfl);have CF:=ae (AV j z.drew (S2.o.blk 1 rfl))
 have aw:Sz ((((((((((zeroCells96.setIfInBounds 0 (Value.int .i64 1)).setIfInBounds 1 (Value.int .i64 0)).setIfInBounds 2 (Value.int .i64 K)).setIfInBounds 3 (Value.int .i64 H)).setIfInBounds 4 (Value.int .i64 Z)).setIfInBounds 5 (Value.int .i64 ex)).setIfInBounds 6 (Value.slice N n u)).setIfInBounds 7 (Value.slice none 0 0)).setIfInBounds 8 (Value.pointer (some ⟨j,0,none⟩))).setIfInBounds 9 (Value.int .i64 0)=kZ (eF K H Z ex n) (slice N n u) (slice none 0 0) j (λ_=>pointer none)):=ae (by
  rw[vQ,Bc];unfold kZ eF;apply Array.ext';simp;rfl)
 go_wp2_with fail;go_cut [12] (λi f=>i=pointer (some ⟨z.heap.size,0,none⟩)/\Sz (Blk f z.heap.size 96 (kZ (eF K H Z ex n) (slice N n u) (slice none 0 0) j (λ_=>pointer none)))/\Sz (Below z.heap.size z f))
 case first=>
  go_region_law (go_simp
                 go_at_call 89;refine CF.o.mono ?_;rintro e T ⟨rfl,rfl⟩;go_simp)
  all_goals(
   go_simp;refine ‹∀(a':Act) (d:World),Met _ a' d->_› _ _ ?_;go_meet;refine⟨rfl,ae ?_,ae (((aC _ z).alloc (aj _) _).drew)⟩;rw[<-aw.o];exact Blk.drew (Blk.new z _ _))
 case rest=>
  obtain⟨rfl,i,d⟩:=hcut;rename World=>T;have S3:=ae ((S2.o.step d.o).add (bY z.heap.size 96 (kZ (eF K H Z ex n) (slice N n u) (slice none 0 0) j (λ_=>pointer none))) i.o);have ay:=ae (am.o.below d.o);have az:Sz (w0.heap.size<=z.heap.size):=ae (by obtain⟨g',e',E,h2⟩:=am.o.formA bg (by omega);omega);have CS:=ae λf (k:(rI (range n)).ok f Any [slice N n u])=>mQ (eF K H Z ex n) (by simp[eF]) N none n u 0 0 Any f k bg (zG 4 f Any) rfl au.o ag.o;clear S2 am i CF aw p0 p1 p2 d;generalize a7:z.heap.size=i at*;have aA:=ae (aC T.heap.size T);go_wp2_with fail;go_loopw [53] (λb wr=>∃f:Nat,f<=n/\b=int i64 f/\Sz (Below T.heap.size T wr)) (λb _=>n-(intOf b).toNat)
  case atStart=>exact⟨0,by omega,rfl,aA⟩
  case round=>
   clear aA;obtain⟨f,a8,rfl,U⟩:=hrel;have r:=ae (S3.o.step U.o);have G:=ae (ay.o.below U.o);obtain⟨V,W,X,Y,k4,k5,k6,k7,-⟩:=iB (r.o.blk 0 rfl);by_cases J:f<n
   ·have aS:(f:Int)<(n:Int):=by omega
    obtain⟨O,rfl,-⟩:=G.o.formA bg (by omega);have cs:=(G.o.cellA bg J).1;rw[jD J] at cs;obtain⟨ax,cx,e,aa,-⟩:=dY (r.o.rep 3 rfl) S.o;injection e with e1 e2 e3;subst e1 e3;obtain⟨bx,ox,rfl,an,ab⟩:=aa.2 (by omega);have s:f<L.length:=(by rw[S.o];exact J);have cq:=ab f (int i64 (L.getD f 0:Nat)) (dh s);have ac:=al.o (L.getD f 0) (by rw[af,ah s];exact aQ s);have k:Sz ((bR (eF K H Z ex n)).length<=L.getD f 0):=ae ac.1;clear s ac;generalize L.getD f 0=P at*;have o:=ae (CS.o wr.drew (Rp.any _ (gM G.o)));unfold bV at o;clear aa ab;go_upto_region 8 with fail
    go_region_law (go_simp
                   go_at_call 69;refine o.o.mono ?_;rintro e l ⟨v5,rfl,d,m⟩;obtain⟨y,c5,rfl,-⟩:=d.val;rw[aG];clear d;obtain⟨d,v⟩:∃d,d=(bR (eF K H Z ex n)).length:=⟨_,rfl⟩;rw[<-v];have A:¬(P:Int)<(d:Int):=(by have:=k.o;omega);have I:¬P<d:=(by have:=k.o;omega);clear v;have C:=ae (U.o.trans ((bQ m).mono U.o.size));have ao:l.cell? ⟨bx,ox+f,none⟩=some (int i64 P):=((bQ m).cell (p:=⟨bx,ox+f,none⟩) an).trans cq;clear m;go_simp)
    all_goals(
     clear o k V W X Y k4 k5 k6 k7 cs cq ao;go_wp2_with fail;go_roundw
     case rel=>exact⟨f+1,by omega,by go_num,C⟩
     case measure=>simp[intOf];omega)
   ·obtain rfl:f=n:=by omega
    clear V W X Y k4 k5 k6 k7;obtain⟨O,rfl,-⟩:=G.o.formA bg (by omega);go_wp2_with fail;rename World=>v;have aB:=ae (r.o.blk 0 rfl);clear U S3 ay CS;have aD:Sz (Blk v i 96 (kZ (eF K H Z ex f) (slice (some ⟨O,0,none⟩) f u) (slice none 0 0) j (iF 0 λ_=>0))):=ae aB.o;have aE:Sz (∀b,b<0->DrB v ((λ_:Nat=>0) b) j (L.getD b 0) (slice none 0 0) 0/\v.heap.size<=(λ_:Nat=>0) b):=ae λb A=>(by omega);have aF:Sz (∀b k,b<0->k<0->b≠k->(λ_:Nat=>0) b≠(λ_:Nat=>0) k):=ae λb k A=>(by omega);have aK:Sz (Chg (·=i) v v):=ae (Chg.refl _ _);go_loopw [71] (λb wr=>∃(d:Nat) (D:Nat->Nat),d<=f/\b=int i64 d/\Sz (Blk wr i 96 (kZ (eF K H Z ex f) (slice (some ⟨O,0,none⟩) f u) (slice none 0 0) j (iF d D)))/\Sz (∀b,b<d->DrB wr (D b) j (L.getD b 0) (slice none 0 0) 0/\v.heap.size<=D b)/\Sz (∀b k,b<d->k<d->b≠k->D b≠D k)/\Sz (Chg (·=i) v wr)) (λb _=>f-(intOf b).toNat)
    case atStart=>exact⟨0,_,by omega,rfl,aD,aE,aF,aK⟩
    case round=>
     clear aD aE aF aK;obtain⟨d,D,a9,rfl,t,M,HN,I⟩:=hrel;have ad:=ae (G.o.keepO λo y=>I.o.block o (G.o.ltA o y).2 λe=>Ty.ne2 e (G.o.ty o y) (Blk.ty (r.o.blk 0 rfl)) (by decide));by_cases J:d<f
     ·have aS:(d:Int)<(f:Int):=by omega
      have ba:(d:Int)<64:=(by omega);have aL:d<64:=(by omega);obtain⟨ax,cx,e,aa,-⟩:=dY ((rI _).keep aR.o λo y _=>⟨(I.o.block o (aW y r.o.1.size) λe=>by have E:o<w.heap.size:=y;have:=az.o;have:=av.o;omega).trans (r.o.1.block o y),y⟩) S.o;injection e with e1 e2 e3;subst e1 e3;obtain⟨bx,ox,rfl,an,ab⟩:=aa.2 (by omega);have cs:=(ad.o.cellA bg J).1;rw[jD J] at cs;have s:d<L.length:=(by rw[S.o];exact J);have cq:=ab d (int i64 (L.getD d 0:Nat)) (dh s);have ac:=al.o (L.getD d 0) (by rw[af,ah s];exact aQ s);have CN:=ae (Sm (L.getD d 0) j wr.drew ac.2);have aT:Sz (∀b,b=d->L.getD b 0=L.getD d 0):=ae λb e=>(by rw[e]);clear aa ab s ac;generalize L.getD d 0=P at*;go_upto_region 14 with fail
      go_region_law (go_simp
                     go_at_call 61;refine CN.o.mono ?_;rintro e l ⟨rfl,aq,m⟩;replace m:=bQ m;have ai:=ae (t.o.below m t.o.lt);have aM:Sz (DrB l wr.heap.size j P (slice none 0 0) 0):=ae aq;have C:=ae m;have f5:l.frozen? ⟨i,10+d,none⟩=false:=ai.o.frozen (10+d);have c5:l.cell? ⟨i,10+d,none⟩=some (pointer none):=(ai.o.cell (10+d)).trans (by rw[pK _ _ _ _ _ aL];unfold iF;rw[bA (Nat.lt_irrefl _)]);have ao:l.cell? ⟨bx,ox+d,none⟩=some (int i64 P):=(m.cell (p:=⟨bx,ox+d,none⟩) an).trans cq;clear aq m;go_simp)
      all_goals(
       have q:=ai.o.set (10+d) (pointer (some ⟨wr.heap.size,0,none⟩));have aV:Sz (Blk (l.setCell ⟨i,10+d,none⟩ (pointer (some ⟨wr.heap.size,0,none⟩))) i 96 (kZ (eF K H Z ex f) (slice (some ⟨O,0,none⟩) f u) (slice none 0 0) j (iF (d+1) (upd D d wr.heap.size)))):=ae (by rw[PX _ _ _ _ _ _ aL,I6] at q;exact q);have aX:∀o,o≠i->(l.setCell ⟨i,10+d,none⟩ (pointer (some ⟨wr.heap.size,0,none⟩))).heap[o]? =l.heap[o]? :=λo y=>bJ _ _ _ o y;have aY:v.heap.size<=wr.heap.size:=I.o.size
       have a0:Sz (∀b,b<d+1->DrB (l.setCell ⟨i,10+d,none⟩ (pointer (some ⟨wr.heap.size,0,none⟩))) (upd D d wr.heap.size b) j (L.getD b 0) (slice none 0 0) 0/\v.heap.size<=upd D d wr.heap.size b):=ae λb A=>by
        by_cases e:b=d
        ·rw[aT.o b e]
         subst e;rw[upd_same];exact⟨Blk.far aM.o (p:=⟨i,10+b,none⟩) (show wr.heap.size≠i from λe=>by have:=t.o.lt;omega) _,aY⟩
        ·rw[upd_ne _ _ e]
         have h:=M.o b (by omega);exact⟨Blk.far (Blk.below h.1 C.o (Blk.lt h.1)) (p:=⟨i,10+d,none⟩) (show D b≠i from λe=>Ty.ne2 e (Blk.ty h.1) (Blk.ty t.o) (by decide)) _,h.2⟩
       have a2:Sz (∀b k,b<d+1->k<d+1->b≠k->upd D d wr.heap.size b≠upd D d wr.heap.size k):=ae λb k A hj aq=>by
        by_cases ei:b=d
        ·subst ei
         rw[upd_same,upd_ne _ _ (Ne.symm aq)];have:=Blk.lt (M.o k (by omega)).1;omega
        ·by_cases ej:k=d
         ·subst ej
          rw[upd_same,upd_ne _ _ aq];have:=Blk.lt (M.o b (by omega)).1;omega
         ·rw[upd_ne _ _ ei,upd_ne _ _ ej]
          exact HN.o b k (by omega) (by omega) aq
       have k:Sz (Chg (·=i) v (l.setCell ⟨i,10+d,none⟩ (pointer (some ⟨wr.heap.size,0,none⟩)))):=ae (I.o.trans ((Chg.of C.o).set ⟨i,10+d,none⟩ _ λ_=>rfl));clear q ai aM C f5 c5 ao cq cs CN aX t M HN I;go_wp2_with fail;go_roundw
       case rel=>exact⟨d+1,_,by omega,by go_num,aV,a0,a2,k⟩
       case measure=>simp[intOf];omega)
     ·obtain rfl:d=f:=by omega
      have ai:w.heap.size<=v.heap.size:=r.o.1.size;have an:w.heap.size<=i:=aP av.o az.o;have ao:Sz (Stq w.heap.size wr i ⟨j,d,D,λb=>L.getD b 0,λ_=>false⟩ (eF K H Z ex d) (λ_=>[])):=ae ⟨⟨Blk.chg (r.o.blk 2 rfl) I.o (λe=>Ty.ne2 e (Blk.ty (r.o.blk 2 rfl)) (Blk.ty (r.o.blk 0 rfl)) (by decide)),⟨λ_=>none,λb A=>.inr ⟨rfl,_,(M.o b A).1,OwnS.nil _ _ _ _ _,aj _,rfl,by simp⟩,by simp,by simp⟩,HN.o,λb A=>aP ai (M.o b A).2⟩,⟨_,_,t.o,mI ad.o,zG 4 wr _⟩,rfl,ak,R⟩;have P:=ae (Ay (eF K H Z ex d) (by simp[eF]) (some ⟨O,0,none⟩) none d u 0 0 Any wr (Rp.any _ (gM ad.o)) bg (zG 4 wr _) rfl au.o ag.o (range d) (some ⟨O,0,none⟩) d u (Rp.any _ (gM ad.o)) bg R);have aa:Sz (Below w.heap.size w wr):=ae (r.o.1.trans (I.o.below ai λf e=>by rw[e];exact an));have aS:=ae (Aw ag.o (range d));have aq:=ae (EL ag.o (range d));have aT:=ae an;obtain⟨V,W,X,Y,k4,k5,k6,k7,-⟩:=iB t.o;unfold bV at P;unfold eF at V W X Y k4 k5;simp only[eF] at P;clear I M HN r G ad aB;go_wp2_with fail;refine P.o.mono ?_;rintro e l ⟨v5,rfl,ab,m⟩;obtain⟨ap,k,cp,rfl⟩:=nu ab;have ac:(rS 2 ((mE (eF K H Z ex d) (range d)).map dG)).ok l (Fu l) [slice ap k cp]:=ab
      have aL:(mE (eF K H Z ex d) (range d)).length=k:=by
       obtain⟨a',n',c',e',_,_,_,h4,_⟩:=ac;injection e' with e' _;injection e' with _ e2 _;rw[aG] at h4;omega
      have aM:0<k/\k<=100000:=by have E:=aS.o;rw[aL,bg] at E;exact⟨aW ak E.1,aP E.2 (by omega)⟩
      have CA:=ae (GG (B:=w.heap.size) (mE (eF K H Z ex d) (range d)) ap k cp i ⟨j,d,D,λb=>L.getD b 0,λ_=>false⟩ (eF K H Z ex d) (λ_=>[]) l (ao.o.below m) ((rS 2 _).more ac λo y _=>y.fd) aL aM.1 aM.2 (λx q=>⟨⟨bG.1 (aq.o x q).1,rfl⟩,(aq.o x q).2⟩) (λb A=>by
       have E:=al.o (L.getD b 0) (by have s:b<L.length:=by rw[S.o];exact A
                                     rw[af,ah s];exact aQ s)
       rw[pI _ nodup_range,bu (bG.2 A)];simp only[length_nil,Nat.zero_add];exact⟨E.1,E.2.2⟩))
      have C:=ae (aa.o.trans (m.mono aa.o.size));have A:=ae (t.o.below m t.o.lt);clear ab ac m ao P aa t V W X Y k4 k5 k6 k7;go_wp2_with fail;refine CA.o.mono ?_;rintro e P ⟨rfl,o,y⟩
      have aa:Sz (Stq w.heap.size P i ⟨j,d,D,λb=>L.getD b 0,λ_=>false⟩ (eF K H Z ex d) (λb=>if b<d then bR (eF K H Z ex d) else [])):=ae (by
       have e0:iG (mE (eF K H Z ex d) (range d)) (λ_=>[])=λb=>if b<d then bR (eF K H Z ex d) else []:=by
        funext b;unfold iG;rw[pI _ nodup_range,nil_append];by_cases h:b<d
        ·rw[bu h,bu (bG.2 h)]
        ·rw[bA h,bA (λe=>h (bG.1 e))]
       rw[e0] at o;exact o)
      have ab:=ae (C.o.trans (y.lo C.o.size));have ac:Sz (P.cell? ⟨i,7,none⟩=some (slice none 0 0)):=ae ((iB (A.o.chg y λhm=>Md.not (Blk.ty A.o) (by decide) (by decide) hm.2)).2.2.2.2.2.2.2.1);clear o y CA C;go_wp2_with fail;go_ret2;exact⟨i,D,rfl,aT.o,aa.o,ac.o,ab.o⟩
end
section
variable {B:Nat}
theorem Df{w:World}{g:Nat}{T:TypeId}{j k l m n o p q:Value}(s:Blk w g T #[j,k,l,m,n,o,p,q])(a b c d e f h i:Value):
 Blk ((((((((w.setCell ⟨g,0,none⟩ a).setCell ⟨g,1,none⟩ b).setCell ⟨g,2,none⟩ c).setCell ⟨g,3,none⟩ d).setCell ⟨g,4,none⟩ e).setCell ⟨g,5,none⟩ f).setCell ⟨g,6,none⟩ h).setCell ⟨g,7,none⟩ i) g T #[a,b,c,d,e,f,h,i]:=by
 have t:((((((((#[j,k,l,m,n,o,p,q]:Array Value).setIfInBounds 0 a).setIfInBounds 1 b).setIfInBounds 2 c).setIfInBounds 3 d).setIfInBounds 4 e).setIfInBounds 5 f).setIfInBounds 6 h).setIfInBounds 7 i= #[a,b,c,d,e,f,h,i]:=by simp
 have r:=((((((((s.set 0 a).set 1 b).set 2 c).set 3 d).set 4 e).set 5 f).set 6 h).set 7 i);rw[t] at r;exact r
theorem xL{B g:Nat}{v w:World}(k:Below B v w)(a:B<=g)(b c d e f h i j:Value):
 Below B v ((((((((w.setCell ⟨g,0,none⟩ b).setCell ⟨g,1,none⟩ c).setCell ⟨g,2,none⟩ d).setCell ⟨g,3,none⟩ e).setCell ⟨g,4,none⟩ f).setCell ⟨g,5,none⟩ h).setCell ⟨g,6,none⟩ i).setCell ⟨g,7,none⟩ j):=
 (((((((k.setCell (p:=⟨g,0,none⟩) a b).setCell (p:=⟨g,1,none⟩) a c).setCell (p:=⟨g,2,none⟩) a d).setCell (p:=⟨g,3,none⟩) a e).setCell (p:=⟨g,4,none⟩) a f).setCell (p:=⟨g,5,none⟩) a h).setCell (p:=⟨g,6,none⟩) a i).setCell (p:=⟨g,7,none⟩) a j
theorem zo{g:Nat}(w:World)(c d e f h i j k:Value)(b:Nat)(a:b≠g):
 ((((((((w.setCell ⟨g,0,none⟩ c).setCell ⟨g,1,none⟩ d).setCell ⟨g,2,none⟩ e).setCell ⟨g,3,none⟩ f).setCell ⟨g,4,none⟩ h).setCell ⟨g,5,none⟩ i).setCell ⟨g,6,none⟩ j).setCell ⟨g,7,none⟩ k).heap[b]? =w.heap[b]? :=
 (bJ _ _ _ b a).trans ((bJ _ _ _ b a).trans ((bJ _ _ _ b a).trans ((bJ _ _ _ b a).trans ((bJ _ _ _ b a).trans ((bJ _ _ _ b a).trans ((bJ _ _ _ b a).trans (bJ _ _ _ b a)))))))
theorem Qd{v w:World}{a:SE}{e:SC}{q c:Nat}{vs:Array Value}(g:(rB e).ok w (λb=>Ty 5 w b) [slice a q c])(d:Below v.heap.size v w):
 Blk (w.alloc (.cells vs 178)) w.heap.size 178 vs/\(rB e).ok (w.alloc (.cells vs 178)) (λb=>Ty 5 (w.alloc (.cells vs 178)) b) [slice a q c]/\Below v.heap.size v (w.alloc (.cells vs 178)):=
 ⟨Blk.new w _ _,(rB _).keep g (λb d h=>by
   have f:=((aC w.heap.size w).alloc (aj _) (.cells vs 178)).block b h;exact⟨f,d.keep f⟩),d.alloc d.size _⟩
theorem Nz{v w:World}{G:Nat}{a:SE}{m:SC}{q c:Nat}{p r s t u x y z:Value}(A:(rB m).ok w (λk=>Ty 5 w k) [slice a q c])(l:Below v.heap.size v w)(n:Blk w G 178 #[p,r,s,t,u,x,y,z])(C:v.heap.size<=G)(b d e f g h i j:Value):
 Blk ((((((((w.setCell ⟨G,0,none⟩ b).setCell ⟨G,1,none⟩ d).setCell ⟨G,2,none⟩ e).setCell ⟨G,3,none⟩ f).setCell ⟨G,4,none⟩ g).setCell ⟨G,5,none⟩ h).setCell ⟨G,6,none⟩ i).setCell ⟨G,7,none⟩ j) G 178 #[b,d,e,f,g,h,i,j]/\
 (rB m).ok ((((((((w.setCell ⟨G,0,none⟩ b).setCell ⟨G,1,none⟩ d).setCell ⟨G,2,none⟩ e).setCell ⟨G,3,none⟩ f).setCell ⟨G,4,none⟩ g).setCell ⟨G,5,none⟩ h).setCell ⟨G,6,none⟩ i).setCell ⟨G,7,none⟩ j) (λk=>Ty 5 ((((((((w.setCell ⟨G,0,none⟩ b).setCell ⟨G,1,none⟩ d).setCell ⟨G,2,none⟩ e).setCell ⟨G,3,none⟩ f).setCell ⟨G,4,none⟩ g).setCell ⟨G,5,none⟩ h).setCell ⟨G,6,none⟩ i).setCell ⟨G,7,none⟩ j) k) [slice a q c]/\
 Below v.heap.size v ((((((((w.setCell ⟨G,0,none⟩ b).setCell ⟨G,1,none⟩ d).setCell ⟨G,2,none⟩ e).setCell ⟨G,3,none⟩ f).setCell ⟨G,4,none⟩ g).setCell ⟨G,5,none⟩ h).setCell ⟨G,6,none⟩ i).setCell ⟨G,7,none⟩ j):=
 ⟨Df n _ _ _ _ _ _ _ _,(rB _).keep A (λk l o=>by
   have o:=zo w b d e f g h i j k λk=>Ty.ne2 k l (Blk.ty n) (by decide);exact⟨o,l.keep o⟩),xL l C _ _ _ _ _ _ _ _⟩
end
