import Derived.Test.YtgccllbnfngpcaaGreatDoorW3
import Derived.Lib.BitFns
import Derived.Shelf.Small.Bits
import Derived.Shelf.Strconv.Itoa0
import Derived.Shelf.Sort.Plain
import Derived.Test.YtgccllbnfngpcaaGreatDoorProg
import Derived.Sort.Walk7a
import Derived.Sort.OwnSortedInts
import Derived.Laws.ResultCell
import Derived.Laws.BitsAllLaws
set_option linter.unusedVariables false
set_option maxRecDepth 100000
set_option maxHeartbeats 400000000
namespace Go.Proofs.YtgccllbnfngpcaaGreatDoor
open Go.RowKit _root_.Go.Proofs.Tryz List
open Value (int slice pointer bool)
open IntKind (i64)
open Ending (returned)
open Obj (cells)
theorem qD{X:List SC}{r:Nat}:jC X r=false↔∀i,r<=i->∀j,gt X i j=0:=by
 constructor
 ·intro a i g j
  rcases bD i X.length with b | b
  ·unfold jC at a
   rw[any_eq_false] at a
   have d:X.getD i []∈X.drop r:=by
    have c:(X.drop r)[i-r]? =some (X.getD i []):=(by rw[List.getElem?_drop,show r+(i-r)=i by omega];exact getD_some b);exact mem_of_getElem? c
   have e:=a _ d;simp only[decide_eq_true_eq] at e;have f:=zb.1 (show jo (X.getD i [])<0 by omega);exact congrFun f j
  ·exact wG b j
 ·intro a
  refine BF λb d=> ?_;rw[length_drop] at d
  have c:(X.drop r).getD b []=X.getD (r+b) []:=by
   rw[af,List.getElem?_drop,<-af]
  rw[c];have:jo (X.getD (r+b) [])<0:=zb.2 (funext λj=>a (r+b) (by omega) j);omega
theorem wh{n k:Nat}{a B:List SC}(b:Wf n a)(c:a.length=B.length)(d:a≠[]):(dI (dQ a B) n).2=(eT a).length:=by
 rw[(vX c b (aj n)).1,vY b d]
theorem Hy{n k:Nat}{a X:List SC}(b:Wf n a)(g:Wf k X)(h:X.length=n)(i:X≠[])(d:a≠[])(e:(eT a).length=n):kP n a (jW a X)=0/\kQ n a (jW a X)=X:=by
 have j:a.length=(jW a X).length:=by unfold jW;rw[aG]
 have c:=wh (k:=0) b j d;have l:(dI a n).2=n:=by rw[<-vY b d];exact e
 obtain⟨m,o⟩:=Bj b g h i l;rw[e] at c
 have f:kP n a (jW a X)=0:=by
  unfold kP;rw[c,bA (by omega),qD.2 m];rfl
 exact⟨f,by unfold kQ;rw[f,bu rfl,c];exact o⟩
theorem K3{n k:Nat}{a C:List SC}(b:Wf n a)(g:Wf k C)(d:a.length=C.length)(i:0<n)(e:a≠[])(f:(eT a).length=n)(hs:kP n a C=0):jW a (kQ n a C)=C/\Wf k (kQ n a C)/\(kQ n a C).length=n:=by
 have c:=wh (k:=0) b d e;have j:(dI a n).2=n:=by rw[<-vY b e];exact f
 rw[f] at c
 have l:jC (dI (dQ a C) n).1 n=false:=by
  unfold kP at hs;rw[c,bA (by omega)] at hs;cases h:jC (dI (dQ a C) n).1 n with
  | false=>rfl
  | true=>rw[h] at hs;simp at hs
 have:=DX b g d i j (qD.1 l);unfold kQ;rw[hs,bu rfl,c];exact this
theorem Hz{n:Nat}{a C:List SC}(d:Wf n a)(b:a.length=C.length)(e:a≠[])(f:(eT a).length=n)(hs:kP n a C≠0):kP n a C=10/\a.length≠n:=by
 have c:=wh (k:=0) d b e;rw[f] at c;unfold kP at hs ⊢;rw[c,bA (by omega)] at hs ⊢;cases h:jC (dI (dQ a C) n).1 n with
 | false=>rw[h] at hs;simp at hs
 | true=>
   refine⟨rfl,λg=> ?_⟩;have i:jC (dI (dQ a C) n).1 n=false:=qD.2 λm j l=>wG (by rw[kM,fF b,g];exact j) l;rw[i] at h;cases h
theorem Qr{n Z:Nat}{a C:List SC}(g:Wf n a)(o:Wf Z C)(h:a.length=C.length)(e:a.length=n)(p:0<n)(k:(eT a).length=n):
 kP n a C=0/\Wf Z (kQ n a C)/\(kQ n a C).length=n/\∀i,i<n->∀j,(C.getD i []).getD j 0=eG (vO (a.getD i [])) (λb=>((kQ n a C).getD b []).getD j 0) n:=by
 have l:a≠[]:=λb=>by rw[b] at e;simp at e;omega
 have m:kP n a C=0:=by
  apply Classical.byContradiction;intro q;exact(Hz g h l k q).2 e
 obtain⟨r,f,c⟩:=K3 g o h p l k m;refine⟨m,f,c,λi t j=> ?_⟩;have s:kQ n a C≠[]:=λb=>by rw[b] at c;simp at c;omega
 generalize kQ n a C=d at*
 have b:(jW a d).getD i []=qO (wid d) (a.getD i []) d d.length:=by
  unfold jW;rw[af,List.getElem?_map,af,ah (by omega)];rfl
 rw[<-r,b,nO f s,c];have:=(qW f c (a.getD i [])).2 j;rw[this];rfl
def nW(s:Int):Int:=IntKind.u64.wrap (IntKind.u64.wrap (s*6364136223846793005)+1442695040888963407)
def lq(s:Int):Int:=nW s/4294967296
theorem Rn(s:Int):0<=nW s/\nW s<18446744073709551616:=by
 unfold nW;rw[IntKind.wrap_u64];omega
theorem wP(s:Int):0<=lq s/\lq s<=4294967295:=by
 have:=Rn s;unfold lq;omega
theorem IJ(s:Int):lq s%4294967296=lq s:=by
 have:=wP s;omega
theorem Ro(s:Int):nW s/4294967296%4294967296=lq s:=IJ s
theorem LQ(s:Int)(w:World)(c:0<=s)(d:s<=4294967295):
 Calls prog 240 #[.int .u32 s] w λa b=>a=returned (pointer (some ⟨w.heap.size,0,none⟩))/\w.alloc (cells #[.int .u64 s] 371)=b:=by
 go_enter func240,ntmps240;go_wp2;go_ret;exact⟨rfl,rfl⟩
theorem yS(s:Int)(p:Addr)(w:World)(c:w.cell? p=some (.int .u64 s))(d:w.frozen? p=false):
 Calls prog 241 #[pointer (some p)] w λa b=>a=returned (.int .u32 (lq s))/\w.setCell p (.int .u64 (nW s))=b:=by
 go_enter func241,ntmps241;go_wp2;go_ret;exact⟨congrArg (λa=>Ending.returned (.int .u32 a)) (Ro s),rfl⟩
theorem ko(w:World)(p:Addr)(v:Value)(a:w.cell? p=some v):w.setCell p v=w:=by
 obtain⟨b,i,c⟩:=p;have d:c=none:=World.cell?_spot a;subst d;obtain⟨e,j,k,l,m⟩:=w;simp only[World.setCell,World.mk.injEq,and_true];apply Array.ext_getElem?;intro n;rw[Array.getElem?_modify];split
 ·rename_i f
  subst f;simp only[World.cell?] at a;cases hb:e[b]? with
  | none=>simp
  | some g=>
    rw[hb] at a;cases g with
    | cells o q r=>
      simp at a;simp only[Option.map_some,Option.isSome_none];congr 2;apply Array.ext_getElem?;intro s;rw[bA (by simp),Array.getElem?_setIfInBounds];split
      ·rename_i h;subst h;split
       ·exact a.symm
       ·rename_i t;rw[Array.getElem?_eq_none (by omega)] at a;cases a
      ·rfl
    | _=>simp
 ·rfl
def nY(s n:Int):Int:=if n<=0 then 0 else lq s%n
def QL(s n:Int):Int:=if n<=0 then s else nW s
theorem wQ{s n:Int}(a:0<n):nY s n=lq s%n:=by unfold nY;rw[bA (by omega)]
theorem LU{s n:Int}(a:n<=0):nY s n=0:=by unfold nY;rw[bu a]
theorem O1{s n:Int}(a:0<n):QL s n=nW s:=by unfold QL;rw[bA (by omega)]
theorem O3{s n:Int}(a:n<=0):QL s n=s:=by unfold QL;rw[bu a]
theorem vw(s n:Int):0<=nY s n/\nY s n<=4294967295:=by
 have:=wP s;unfold nY;split
 ·omega
 ·have a:=Int.emod_nonneg (lq s) (show n≠0 by omega)
  have b:=Int.emod_def (lq s) n;have c:=Int.mul_nonneg (show 0<=n by omega) (Int.ediv_nonneg this.1 (show 0<=n by omega));omega
theorem wR(s n:Int)(p:Addr)(w:World)(c:w.cell? p=some (.int .u64 s))(f:w.frozen? p=false)(i: -9223372036854775808<=n/\n<=9223372036854775807):
 Calls prog 309 #[pointer (some p),int i64 n] w λd a=>d=returned (int i64 (nY s n))/\w.setCell p (.int .u64 (QL s n))=a:=by
 have g:=ae (ko w p _ c);by_cases e:n<=0
 ·have a:=ae (LU (s:=s) e)
  have b:=ae (O3 (s:=s) e);go_enter func309,ntmps309;go_wp2_with fail;go_ret;rw[a.o,b.o,g.o];exact⟨rfl,rfl⟩
 ·have a:=ae (wQ (s:=s) (n:=n) (by omega))
  have b:=ae (O1 (s:=s) (n:=n) (by omega));have j:=wP s;have k:=Int.emod_nonneg (lq s) (show n≠0 by omega);have l:=Int.emod_lt_of_pos (lq s) (show 0<n by omega);go_enter func309,ntmps309;go_wp2_with fail;refine(yS s p _ c f).mono ?_;rintro d m ⟨rfl,rfl⟩;go_wp2_with fail;go_ret;rw[a.o,b.o];exact⟨rfl,rfl⟩
theorem wS(n:Int)(w:World):
 Calls prog 309 #[pointer none,int i64 n] w λa b=>a=returned (int i64 0)/\w=b:=by
 go_enter func309,ntmps309;go_wp2_with fail;go_ret;exact⟨rfl,rfl⟩
def zy(l:SC)(i j:Nat):SC:=(l.set i (l.getD j 0)).set j (l.getD i 0)
theorem Kb(l:SC)(i j:Nat):(zy l i j).length=l.length:=by simp[zy]
theorem getD_at{l:SC}{i:Nat}(a:i<l.length):l.getD i 0=l[i]:=by rw[af,ah a];rfl
theorem FE{l:SC}{i j:Nat}(a:i<l.length)(b:j<l.length):(zy l i j).Perm l:=by
 unfold zy;rw[getD_at a,getD_at b];exact set_set_perm a b
def bN(nl:Bool)(s n:Int):Nat:=if nl then 0 else (nY s n).toNat
def sN(nl:Bool)(s n:Int):Int:=if nl then s else QL s n
theorem QY{nl:Bool}{s n:Int}(a:0<n):(bN nl s n:Int)<n:=by
 unfold bN;split
 ·simpa using a
 ·have b:=(vw s n).1
  have c:=Int.emod_lt_of_pos (lq s) a;rw[wQ a] at b ⊢;omega
def jX(nl:Bool)(n:Nat)(s:Int):Nat->Int | 0=>s | k+1=>sN nl (jX nl n s k) ((n:Int)-(k:Int))
def jR(nl:Bool)(n:Nat)(s:Int):Nat->SC | 0=>range n | k+1=>zy (jR nl n s k) k (k+bN nl (jX nl n s k) ((n:Int)-(k:Int)))
theorem mq(nl:Bool)(n:Nat)(s:Int)(k:Nat):(jR nl n s k).length=n:=by
 induction k with
 | zero=>exact bg
 | succ k a=>rw[jR,Kb,a]
theorem NZ{nl:Bool}{n:Nat}{s:Int}{k:Nat}(a:k<n):k+bN nl (jX nl n s k) ((n:Int)-(k:Int))<n:=by
 have:=QY (nl:=nl) (s:=jX nl n s k) (n:=(n:Int)-(k:Int)) (by omega);omega
theorem xS{nl:Bool}{n:Nat}{s:Int}{k:Nat}(b:k<=n):(jR nl n s k).Perm (range n):=by
 induction k with
 | zero=>exact List.Perm.refl _
 | succ k a=>exact(FE (by rw[mq];omega) (by rw[mq];exact NZ (by omega))).trans (a (by omega))
def leB(x y:Nat):Bool:=decide (x<=y)
def Srt(l:SC):Prop:=l.Pairwise (·<= ·)
def chosen(nl:Bool)(n:Nat)(s:Int)(k:Nat):SC:=((jR nl n s k).take k).mergeSort leB
theorem gJ(l:SC):(l.mergeSort leB).Perm l:=mergeSort_perm l leB
theorem N7(l:SC):Srt (l.mergeSort leB):=by
 have a:=pairwise_mergeSort (le:=leB) (by intro b c d e f;simp only[leB,decide_eq_true_eq] at*;omega) (by intro b c;simp only[leB,Bool.or_eq_true,decide_eq_true_eq];omega) l;exact a.imp λa=>by simpa[leB] using a
theorem xU{nl:Bool}{n:Nat}{s:Int}{k:Nat}(a:k<=n):(chosen nl n s k).length=k:=by
 rw[chosen,(gJ _).length_eq,aH,mq];omega
theorem FH{nl:Bool}{n:Nat}{s:Int}{k:Nat}(a:k<=n)(j:Nat):((jR nl n s k).take j).Nodup:=((xS a).nodup_iff.2 nodup_range).sublist (take_sublist _ _)
theorem Kc{nl:Bool}{n:Nat}{s:Int}{k:Nat}(a:k<=n):∀x∈chosen nl n s k,x<n:=by
 intro x b;have c:=(gJ _).mem_iff.1 b;exact bG.1 ((xS a).mem_iff.1 (bI c))
theorem Dw{nl:Bool}{n:Nat}{s:Int}{k:Nat}(a:k<=n):(chosen nl n s k).Pairwise (·< ·):=by
 have b:(chosen nl n s k).Nodup:=(gJ _).nodup_iff.2 (FH a k);exact(List.Pairwise.and (N7 _) b).imp λ⟨c,d⟩=>Nat.lt_of_le_of_ne c d
def zi(l:Nat):Nat->Nat->Nat | r,0=>r | r,f+1=>if r*r<l then zi l (r+1) f else r
def gH(l:Nat):Nat:=zi l 0 9
def QT(l k:Nat):Nat:=if 1<k then 1048576/(k*(k-1)) else 1048576/l
def EY(l k:Nat):Nat:=
 if k<l/gH l then QT l k+1048576*gH l/(l*k)
 else if k=l/gH l then QT l k+1048576*gH l*Lib.bitLen (gH l)/l
 else QT l k
def jb(l:Nat):Nat->Nat | 0=>0 | k+1=>jb l k+EY l (k+1)
def mV(l:Nat):SC:=(range l).map λa=>jb l (a+1)
theorem jh(l:Nat):(mV l).length=l:=by simp[mV]
theorem mg{l i:Nat}(a:i<l):(mV l).getD i 0=jb l (i+1):=by
 simp[mV,a]
theorem JB{l k:Nat}(a:k<l):(mV l).take (k+1)=(mV l).take k++[jb l (k+1)]:=by
 have b:k<(mV l).length:=by rw[jh];exact a
 rw[aO b];congr 2;have:=mg a;rw[af,ah b] at this;exact this
def RS(l:Nat):Bool:=decide (1<=gH l/\gH l<=8/\l<=gH l*gH l/\Lib.bitLen (gH l)<=4)
theorem EZ:((range 65).all λa=>a == 0 || RS a)=true:=by decide +kernel
theorem PT{l:Nat}(b:1<=l)(c:l<=64):1<=gH l/\gH l<=8/\Lib.bitLen (gH l)<=4:=by
 have:=all_eq_true.1 EZ l (bG.2 (by omega));rw[Bool.or_eq_true] at this;rcases this with a | a
 ·have:=bn a;omega
 ·have:=bn a;exact⟨this.1,this.2.1,this.2.2.2⟩
def okTab(l:Nat):Bool:=(range l).all λa=>decide (1<=EY l (a+1)/\jb l (a+1)<8388608/\(1<=a->a+1≠l/gH l->EY l (a+1)<=EY l 2))
theorem JC:((range 65).all okTab)=true:=by decide +kernel
theorem Nb{l i:Nat}(b:l<=64)(a:i<l):1<=EY l (i+1)/\jb l (i+1)<8388608/\(1<=i->i+1≠l/gH l->EY l (i+1)<=EY l 2):=
 bn (all_eq_true.1 (all_eq_true.1 JC l (bG.2 (by omega))) i (bG.2 a))
theorem sum_lt{l k:Nat}(a:l<=64)(b:k<=l):jb l k<8388608:=by
 cases k with
 | zero=>show 0<8388608;decide
 | succ k=>exact(Nb a b).2.1
theorem Cw{l k:Nat}(a:l<=64)(b:k<l):jb l k<jb l (k+1):=by
 have:=(Nb a b).1;show jb l k<jb l k+EY l (k+1);omega
theorem Cx{l:Nat}(a:l<=64):∀ {j k:Nat},k<=l->j<=k->jb l j<=jb l k:=by
 intro j k
 induction k with
 | zero=>intro _ b;rw[show j=0 by omega];exact aj _
 | succ k c=>
   intro e b;by_cases d:j=k+1
   ·rw[d];exact aj _
   ·have:=c (by omega) (by omega)
    have:=Cw a (k:=k) (by omega);omega
def kV(l:Int):SC:=if 1<=l/\l<=64 then mV l.toNat else []
theorem AC{l:Nat}(a:1<=l/\l<=64):kV l=mV l:=by unfold kV;rw[bu (by omega),Int.toNat_natCast]
theorem Nc{l:Int}(a:l<1\/64<l):kV l=[]:=by unfold kV;rw[bA (by omega)]
def Ot(xs:SC)(x:Int):Nat->Nat->Nat
 | _,0=>0
 | i,f+1=>if x<(xs.getD i 0:Int) then i+1 else Ot xs x (i+1) f
def xE(xs:SC)(x:Int):Nat:=if xs=[]\/x<0\/(xs.getD (xs.length-1) 0:Int)<=x then 0 else Ot xs x 0 xs.length
theorem Nf{xs:SC}{x:Int}:∀f i k,i<=k->k<i+f->(∀j,i<=j->j<k->(xs.getD j 0:Int)<=x)->x<(xs.getD k 0:Int)->Ot xs x i f=k+1:=by
 intro f
 induction f with
 | zero=>intro i k c d;omega
 | succ f e=>
   intro i k c d a b;rw[Ot];by_cases g:i=k
   ·subst g;rw[bu b]
   ·rw[bA (by have:=a i (aj _) (by omega);omega)]
    exact e (i+1) k (by omega) (by omega) (λj l h=>a j (by omega) h) b
theorem PU{l k:Nat}(b:l<=64)(c:k<l){x:Int}(e:(jb l k:Int)<=x)(d:x<(jb l (k+1):Int)):xE (mV l) x=k+1:=by
 have f:jb l (k+1)<=jb l l:=Cx b (aj _) c;unfold xE;rw[jh,bA]
 ·refine Nf l 0 k (bE _) (by omega) (λj _ a=> ?_) ?_
  ·rw[mg (by omega)]
   have:=Cx b (j:=j+1) (k:=k) (by omega) a;omega
  ·rw[mg c];exact d
 ·rintro(a | a | a)
  ·have:=congrArg List.length a;rw[jh] at this;simp at this;omega
  ·omega
  ·rw[mg (by omega),show l-1+1=l by omega] at a;omega
theorem PV{l:Nat}(k:1<=l)(g:l<=64){x:Int}(m:0<=x)(h:x<(jb l l:Int)):1<=xE (mV l) x/\xE (mV l) x<=l:=by
 have:∀a,a<=l->x<(jb l a:Int)->∃b,b<a/\(jb l b:Int)<=x/\x<(jb l (b+1):Int):=by
  intro a
  induction a with
  | zero=>intro _ c;simp[jb] at c;omega
  | succ a i=>
    intro n c;by_cases j:(jb l a:Int)<=x
    ·exact⟨a,by omega,j,c⟩
    ·obtain⟨b,f,d,e⟩:=i (by omega) (by omega)
     exact⟨b,by omega,d,e⟩
 obtain⟨b,f,d,e⟩:=this l (aj _) h;rw[PU g f d e];omega
end Go.Proofs.YtgccllbnfngpcaaGreatDoor
namespace Go.Proofs
open Go.Shelf
def Tryz.lays125_ren:Go.Shelf.Ren:=⟨fun | 125=>121 | 128=>193 | 129=>194 | n=>n,fun | 46=>181 | 3=>3 | 51=>31 | 53=>248 | 4=>4 | 5=>5 | 9=>9 | n=>n,fun | n=>n⟩
theorem Tryz.lays125:Go.Proofs.Lays.n125 prog Tryz.lays125_ren:= {
 mixed:=by kernel_rfl
 f125:=func121.trans (congrArg some (by kernel_rfl))
 f128:=func193.trans (congrArg some (by kernel_rfl))
 f129:=func194.trans (congrArg some (by kernel_rfl))
 t3:=underlying3
 a3:=Tryz.isAgg3
 z3:=Tryz.sizeOf3
 v3:=Tryz.zeroValue3
 t4:=underlying4
 a4:=Tryz.isAgg4
 z4:=Tryz.sizeOf4
 v4:=Tryz.zeroValue4
 t5:=underlying5
 a5:=Tryz.isAgg5
 z5:=Tryz.sizeOf5
 v5:=Tryz.zeroValue5
 t9:=underlying9
 a9:=Tryz.isAgg9
 z9:=Tryz.sizeOf9
 v9:=Tryz.zeroValue9
 t46:=underlying181
 a46:=Tryz.isAgg181
 z46:=Tryz.sizeOf181
 v46:=Tryz.zeroValue181
 t51:=underlying31
 a51:=Tryz.isAgg31
 z51:=Tryz.sizeOf31
 v51:=Tryz.zeroValue31
 t53:=underlying248
 a53:=Tryz.isAgg248
 z53:=Tryz.sizeOf248
 v53:=Tryz.zeroValue248 }
theorem Tryz.bits_Len(x:Int)(w:World)(a:0<=x)(b:x<=18446744073709551615):
 Calls prog 121 #[.int .u64 x] w λc d=>c=.returned (.int .i64 (Lib.bitLen x.toNat))/\d=w:=Any.bits_Len Tryz.lays125 x w a b
def Tryz.lays189_ren:Go.Shelf.Ren:=⟨fun | 189=>63 | 125=>121 | 257=>120 | 128=>193 | 129=>194 | 294=>184 | 295=>185 | 296=>186 | 297=>187 | 298=>188 | 299=>189 | 216=>190 | 300=>191 | 301=>192 | 328=>248 | 329=>249 | 330=>250 | 331=>251 | 332=>252 | 215=>253 | 343=>313 | n=>n,fun | 28=>22 | 3=>3 | 46=>181 | 0=>0 | 51=>31 | 53=>248 | 4=>4 | 183=>241 | 182=>240 | 131=>214 | 5=>5 | 9=>9 | 218=>310 | 222=>314 | 228=>374 | 229=>375 | n=>n,fun | n=>n⟩
theorem Tryz.lays189:Go.Proofs.Lays.n189 prog Tryz.lays189_ren:= {
 mixed:=by kernel_rfl
 f125:=func121.trans (congrArg some (by kernel_rfl))
 f128:=func193.trans (congrArg some (by kernel_rfl))
 f129:=func194.trans (congrArg some (by kernel_rfl))
 f189:=func63.trans (congrArg some (by kernel_rfl))
 f215:=func253.trans (congrArg some (by kernel_rfl))
 f216:=func190.trans (congrArg some (by kernel_rfl))
 f257:=func120.trans (congrArg some (by kernel_rfl))
 f294:=func184.trans (congrArg some (by kernel_rfl))
 f295:=func185.trans (congrArg some (by kernel_rfl))
 f296:=func186.trans (congrArg some (by kernel_rfl))
 f297:=func187.trans (congrArg some (by kernel_rfl))
 f298:=func188.trans (congrArg some (by kernel_rfl))
 f299:=func189.trans (congrArg some (by kernel_rfl))
 f300:=func191.trans (congrArg some (by kernel_rfl))
 f301:=func192.trans (congrArg some (by kernel_rfl))
 f328:=func248.trans (congrArg some (by kernel_rfl))
 f329:=func249.trans (congrArg some (by kernel_rfl))
 f330:=func250.trans (congrArg some (by kernel_rfl))
 f331:=func251.trans (congrArg some (by kernel_rfl))
 f332:=func252.trans (congrArg some (by kernel_rfl))
 f343:=func313.trans (congrArg some (by kernel_rfl))
 t0:=underlying0
 a0:=Tryz.isAgg0
 z0:=Tryz.sizeOf0
 v0:=Tryz.zeroValue0
 t3:=underlying3
 a3:=Tryz.isAgg3
 z3:=Tryz.sizeOf3
 v3:=Tryz.zeroValue3
 t4:=underlying4
 a4:=Tryz.isAgg4
 z4:=Tryz.sizeOf4
 v4:=Tryz.zeroValue4
 t5:=underlying5
 a5:=Tryz.isAgg5
 z5:=Tryz.sizeOf5
 v5:=Tryz.zeroValue5
 t9:=underlying9
 a9:=Tryz.isAgg9
 z9:=Tryz.sizeOf9
 v9:=Tryz.zeroValue9
 t28:=underlying22
 a28:=Tryz.isAgg22
 z28:=Tryz.sizeOf22
 v28:=Tryz.zeroValue22
 t46:=underlying181
 a46:=Tryz.isAgg181
 z46:=Tryz.sizeOf181
 v46:=Tryz.zeroValue181
 t51:=underlying31
 a51:=Tryz.isAgg31
 z51:=Tryz.sizeOf31
 v51:=Tryz.zeroValue31
 t53:=underlying248
 a53:=Tryz.isAgg248
 z53:=Tryz.sizeOf248
 v53:=Tryz.zeroValue248
 t131:=underlying214
 a131:=Tryz.isAgg214
 z131:=Tryz.sizeOf214
 v131:=Tryz.zeroValue214
 t182:=underlying240
 a182:=Tryz.isAgg240
 z182:=Tryz.sizeOf240
 v182:=Tryz.zeroValue240
 t183:=underlying241
 a183:=Tryz.isAgg241
 z183:=Tryz.sizeOf241
 v183:=Tryz.zeroValue241
 t218:=underlying310
 a218:=Tryz.isAgg310
 z218:=Tryz.sizeOf310
 v218:=Tryz.zeroValue310
 t222:=underlying314
 a222:=Tryz.isAgg314
 z222:=Tryz.sizeOf314
 v222:=Tryz.zeroValue314
 t228:=underlying374
 a228:=Tryz.isAgg374
 z228:=Tryz.sizeOf374
 v228:=Tryz.zeroValue374
 t229:=underlying375
 a229:=Tryz.isAgg375
 z229:=Tryz.sizeOf375
 v229:=Tryz.zeroValue375 }
open Go.Sort Go.RowKit in
theorem Tryz.slices_Sort_int(a c d:Nat)(b:List Int)(w:World)(e:Holds (Value.int .i64) w a c b.toArray)(f:a<w.heap.size)(g:b.length<4611686018427387904):
 Calls prog 63 #[.slice (some ⟨a,c,none⟩) b.length d] w λh i=>
  h=.returned (.tuple #[])/\∃n os,i=grow (putRow (Value.int .i64) (Sort.ahead w n) a c (b.mergeSort λh i=>decide (h<=i)).toArray) os:=Any.slices_Sort_int Tryz.lays189 a c d b w e f g
end Go.Proofs
namespace Go.Proofs.YtgccllbnfngpcaaGreatDoor
open Go.RowKit _root_.Go.Proofs.Tryz List
open Value (int slice pointer bool)
open IntKind (i64)
open Ending (returned)
open Obj (cells)
theorem kK{a b:Nat}(c:a=b):Ending.returned (int i64 (a:Int))=returned (int i64 (b:Int)):=by rw[c]
theorem je:(prog.info? 3).map (λa=>(a.zero,a.size,a.bytes))=some (some (int i64 0),1,8):=by kernel_rfl
def bM(l:SC):List Value:=l.map λa:Nat=>Value.int .i64 a
theorem D5(l:SC):∀u∈bM l,u.oneCell'=true:=by
 intro u a;obtain⟨b,_,rfl⟩:=aZ.1 a;rfl
theorem D6(l:SC):(bM l).length=l.length:=aG _
theorem dh{l:SC}{i:Nat}(a:i<l.length):(bM l)[i]? =some (int i64 (l.getD i 0:Nat)):=by
 simp[bM,List.getElem?_map,ah a]
theorem K4(r:Nat)(c:r<=64)(w:World):Calls prog 121 #[.int .u64 r] w λa b=>a=returned (int i64 (Lib.bitLen r:Nat))/\w=b:=by
 refine(Tryz.bits_Len (r:Int) w (by omega) (by omega)).mono ?_;rintro a b ⟨rfl,rfl⟩;exact⟨by rw[Int.toNat_natCast],rfl⟩
theorem K5(l:Nat)(i:1<=l)(j:l<=64)(w:World):
 Calls prog 363 #[int i64 l] w λa b=>a=returned (int i64 (gH l:Nat))/\w=b:=by
 go_enter func363,ntmps363;go_wp2_with fail
 go_loop [3] (λb=>∃a:Nat,a<=8/\b=int i64 a/\Sz (zi l a (9-a)=gH l)) (λb=>8-(intOf b).toNat)
 case atStart=>exact⟨0,by omega,rfl,ae rfl⟩
 case round=>
  obtain⟨a,b,rfl,c⟩:=hrel;have k:a*a<=8*8:=bC b b;have m:(a:Int)*(a:Int)=((a*a:Nat):Int):=(by rw[Int.natCast_mul]);have d:Sz (zi l a (9-a)=if a*a<l then zi l (a+1) (9-(a+1)) else a):=ae (by rw[show 9-a=(9-(a+1))+1 by omega,zi]);have e:a=8->a*a=64:=(by rintro rfl;rfl);generalize a*a=g at*;by_cases f:g<l
  ·have n:a<8:=by omega
   clear e;go_wp2_with fail
   go_round
   case rel=>exact⟨a+1,by omega,by go_num,ae (by rw[<-c.o,d.o,bu f])⟩
   case measure=>simp[intOf];omega
  ·clear e
   go_wp2_with fail;go_ret;exact⟨kK (by rw[<-c.o,d.o,bA f]),rfl⟩
theorem D7(l k:Nat)(s:1<=l)(t:l<=64)(A:1<=k)(D:k<=l)(w:World):
 Calls prog 310 #[int i64 l,int i64 k] w λe a=>e=returned (int i64 (EY l k:Nat))/\w=a:=by
 have B:=PT s t;have d:=λw=>K5 l s t w;have a:Sz (EY l k=if k<l/gH l then QT l k+1048576*gH l/(l*k) else if k=l/gH l then QT l k+1048576*gH l*Lib.bitLen (gH l)/l else QT l k):=ae rfl;have g:=λw=>K4 (gH l) (by omega) w;generalize EY l k=E at*;generalize b:Lib.bitLen (gH l)=p at*;clear b;generalize gH l=c at*;have b:Sz (QT l k=if 1<k then 1048576/(k*(k-1)) else 1048576/l):=ae rfl;generalize QT l k=F at*;have G:k*(k-1)<=64*63:=bC (by omega) (by omega);have H:l*k<=64*64:=bC t (by omega);have I:1*1<=l*k:=bC s A;have J:1048576*c*p<=1048576*8*4:=bC (by omega) B.2.2;have u:1<k->2*1<=k*(k-1):=λh=>bC h (by omega);have K:(k:Int)*((k:Int)-1)=((k*(k-1):Nat):Int):=by rw[Int.natCast_mul,Int.ofNat_sub (by omega)];rfl
 have L:(l:Int)*(k:Int)=((l*k:Nat):Int):=by rw[Int.natCast_mul]
 have M:1048576*(c:Int)*(p:Int)=((1048576*c*p:Nat):Int):=by rw[Int.natCast_mul,Int.natCast_mul];rfl
 have N:(1048576:Int)/(l:Int)=((1048576/l:Nat):Int):=by simp
 have O:1048576/l<=1048576:=Nat.div_le_self _ _;have P:(l:Int)/(c:Int)=((l/c:Nat):Int):=by simp
 have Q:l/c<=l:=Nat.div_le_self _ _;generalize l/c=f at*;generalize j:1048576/l=R at*;have i:=ae j;clear j;generalize k*(k-1)=q at*;generalize l*k=r at*;have S:(1048576:Int)/(q:Int)=((1048576/q:Nat):Int):=by simp
 have T:1048576/q<=1048576:=Nat.div_le_self _ _;generalize m:1048576/q=U at*;have j:=ae m;clear m;have V:(1048576*(c:Int))/(r:Int)=((1048576*c/r:Nat):Int):=by simp
 have W:1048576*c/r<=1048576*c:=Nat.div_le_self _ _;generalize 1048576*c/r=X at*;generalize 1048576*c*p=n at*;have Y:(n:Int)/(l:Int)=((n/l:Nat):Int):=by simp
 have Z:n/l<=n:=Nat.div_le_self _ _;generalize n/l=d4 at*;have m:=ae d;have y:=ae g;clear d g
 have z:(k<f/\((k:Int) == (f:Int))=false)\/(k=f/\¬(k:Int)<(f:Int)/\((k:Int) == (f:Int))=true)\/(f<k/\¬(k:Int)<(f:Int)/\((k:Int) == (f:Int))=false):=by
  rcases Nat.lt_trichotomy k f with h | h | h
  ·exact .inl ⟨h,by rw[beq_eq_false_iff_ne];omega⟩
  ·exact .inr (.inl ⟨h,by omega,by rw[beq_iff_eq];omega⟩)
  ·exact .inr (.inr ⟨h,by omega,by rw[beq_eq_false_iff_ne];omega⟩)
 by_cases v:1<k
 ·rw[bu v] at b
  have aa:=u v;clear u;rcases z with⟨d,o⟩ | ⟨d,x,o⟩ | ⟨d,x,o⟩
  ·rw[bu d] at a
   go_enter func310,ntmps310;go_wp2_with fail;refine(m.o _).mono ?_;rintro e g ⟨rfl,rfl⟩;go_wp2_with fail;go_ret;exact⟨kK (by first | (rw[a.o,b.o];done) | (rw[a.o,b.o,<-j.o];done) | (rw[a.o,b.o,<-i.o];done)),rfl⟩
  ·rw[bA (by omega),bu d] at a
   have C:=ae d;clear d;go_enter func310,ntmps310;go_wp2_with fail;refine(m.o _).mono ?_;rintro e g ⟨rfl,rfl⟩;go_wp2_with fail;refine(y.o _).mono ?_;rintro e g ⟨rfl,rfl⟩;go_wp2_with fail;go_ret;exact⟨kK (by first | (rw[a.o,b.o];done) | (rw[a.o,b.o,<-j.o];done) | (rw[a.o,b.o,<-i.o];done)),rfl⟩
  ·rw[bA (by omega),bA (by omega)] at a
   go_enter func310,ntmps310;go_wp2_with fail;refine(m.o _).mono ?_;rintro e g ⟨rfl,rfl⟩;go_wp2_with fail;go_ret;exact⟨kK (by first | (rw[a.o,b.o];done) | (rw[a.o,b.o,<-j.o];done) | (rw[a.o,b.o,<-i.o];done)),rfl⟩
 ·rw[bA v] at b
  clear u;rcases z with⟨d,o⟩ | ⟨d,x,o⟩ | ⟨d,x,o⟩
  ·rw[bu d] at a
   go_enter func310,ntmps310;go_wp2_with fail;refine(m.o _).mono ?_;rintro e g ⟨rfl,rfl⟩;go_wp2_with fail;go_ret;exact⟨kK (by first | (rw[a.o,b.o];done) | (rw[a.o,b.o,<-j.o];done) | (rw[a.o,b.o,<-i.o];done)),rfl⟩
  ·rw[bA (by omega),bu d] at a
   have C:=ae d;clear d;go_enter func310,ntmps310;go_wp2_with fail;refine(m.o _).mono ?_;rintro e g ⟨rfl,rfl⟩;go_wp2_with fail;refine(y.o _).mono ?_;rintro e g ⟨rfl,rfl⟩;go_wp2_with fail;go_ret;exact⟨kK (by first | (rw[a.o,b.o];done) | (rw[a.o,b.o,<-j.o];done) | (rw[a.o,b.o,<-i.o];done)),rfl⟩
  ·rw[bA (by omega),bA (by omega)] at a
   go_enter func310,ntmps310;go_wp2_with fail;refine(m.o _).mono ?_;rintro e g ⟨rfl,rfl⟩;go_wp2_with fail;go_ret;exact⟨kK (by first | (rw[a.o,b.o];done) | (rw[a.o,b.o,<-j.o];done) | (rw[a.o,b.o,<-i.o];done)),rfl⟩
def OwnI(w:World)(C:Nat)(v:Value)(l:SC):Prop:=w.ownsRow C 3 1 v l.length (bM l)
theorem OwnI.nil(w:World)(C:Nat):OwnI w C (slice none 0 0) []:=World.ownsRow_nil _ _ _ _
theorem OwnI.below{w w':World}{C:Nat}{v:Value}{l:SC}(a:OwnI w C v l)(b:Below w.heap.size w w'):OwnI w' C v l:=gQ a b
theorem OwnI.base{w:World}{C a:Nat}{v:Value}{l:SC}(b:OwnI w C v l)(c:a<=C):OwnI w a v l:=lT b c
theorem OwnI.rd{w:World}{C:Nat}{v:Value}{l:SC}(b:OwnI w C v l):∃a c,v=slice a l.length c/\Rd w w.heap.size a l.length (bM l):=oW b
theorem OwnI.append{w':World}{C:Nat}{a:Value}{l:SC}{x:Nat}(b:w'.ownsRow C 3 1 a (l.length+1) (bM l++[int i64 (x:Nat)])):OwnI w' C a (l++[x]):=by
 unfold OwnI;rw[show bM (l++[x])=bM l++[int i64 (x:Nat)] by simp[bM],aI];exact b
theorem JS(l:Int)(x: -9223372036854775808<=l/\l<=9223372036854775807)(w:World):
 Calls prog 243 #[int i64 l] w λf g=>∃v,f=returned v/\OwnI g w.heap.size v (kV l)/\Below w.heap.size w g:=by
 by_cases p:1<=l/\l<=64
 ·obtain⟨b,rfl⟩:=Int.eq_ofNat_of_zero_le (a:=l) (by omega)
  have m:1<=b:=(by omega);have i:b<=64:=(by omega);rw[AC ⟨m,i⟩];clear x p;have y:Sz (∀k,1<=k->k<=b->∀w,Calls prog 310 #[int i64 b,int i64 k] w λf g=>f=returned (int i64 (EY b k:Nat))/\w=g):=ae λk a c w=>D7 b k m i a c w;obtain⟨z,e,n,o,q⟩:=info_parts je;go_enter func243,ntmps243
  go_wp2_with (at_make;refine wpList_make_own _ rfl _ _ 22 rfl w.heap.size 3 z (int i64 0) 1 underlying22 e n o _ _ _ b rfl rfl rfl ?m1 ?m2 ?m3 ?_)
  case m1=>rw[q];omega
  case m2=>unfold maxLen;omega
  case m3=>exact aj _
  intro r s j;have t:Below w.heap.size w r:=(aC _ _).grown j (aj _) (by simp);have c:Sz (OwnI r w.heap.size (slice (some ⟨w.heap.size,0,none⟩) 0 b) ((mV b).take 0)):=s;have d:=ae t;clear s j t e n o q;go_wp2_with fail;generalize o:w.heap.size=e at*;have n:=ae o;clear o;generalize (Value.slice (some ⟨e,0,none⟩) 0 (b:Nat))=K at*;go_loopw [3,4,5] (λv q o wr=>∃k:Nat,k<=b/\o=int i64 ((k:Int)+1)/\q=int i64 (jb b k:Nat)/\Sz (OwnI wr e v ((mV b).take k))/\Sz (Below e w wr)) (λ_ _ o _=>b+1-(intOf o).toNat)
  case atStart=>exact⟨0,by omega,rfl,rfl,c,d⟩
  case round=>
   clear c d;obtain⟨k,L,rfl,rfl,c,d⟩:=hrel;by_cases A:k<b
   ·have o:∀w,Calls prog 310 #[int i64 b,int i64 ((k:Int)+1)] w λf g=>f=returned (int i64 (EY b (k+1):Nat))/\w=g:=y.o (k+1) (by omega) (by omega)
    have M:=sum_lt i (k:=k) (by omega);have N:=sum_lt i (k:=k+1) (by omega);have O:(jb b k:Int)+(EY b (k+1):Int)=(jb b (k+1):Nat):=(by rw[<-Int.natCast_add];rfl);have g:=JB A;have q:((mV b).take k).length=k:=(by rw[aH,jh];omega);have B:=ae o;have C:=ae g;have s:=ae q;clear o g q;generalize jb b k=P at*;generalize g:jb b (k+1)=D at*;have E:=ae g;clear g;generalize EY b (k+1)=Q at*;go_wp2_with fail;refine(B.o _).mono ?_;rintro f R ⟨rfl,rfl⟩;have g:=c.o;unfold OwnI at g;rw[s.o] at g;have F:e<=wr.heap.size:=by have:=d.o.size;have:=n.o;omega
    go_wp2_with (at_builtin;refine OU _ rfl _ _ 22 rfl e 3 (int i64 0) 8 underlying22 je rfl _ k _ rfl (g.alloc _) _ (int i64 (D:Nat)) rfl ?p2 rfl ?p3 ?p4 ?p5 ?_)
    case p2=>go_simp
    case p3=>omega
    case p4=>unfold maxLen;omega
    case p5=>simp;omega
    intro G q t u _;have H:Sz (OwnI q e G ((mV b).take (k+1))):=ae (by rw[C.o];exact OwnI.append (by rw[s.o];exact t));have I:Sz (Below e w q):=ae ((d.o.alloc F _).grown u (by simp;omega) (λJ j=>(g.lt J j).1));clear g t u c d;go_wp2_with fail;go_roundw
    case rel=>exact⟨k+1,by omega,by go_num,by rw[E.o],H,I⟩
    case measure=>simp[intOf];omega
   ·obtain rfl:k=b:=by omega
    have f:(mV k).take k=mV k:=aN (by rw[jh];exact aj _);rw[f] at c;go_wp2_with fail;go_ret;exact⟨_,rfl,by rw[n.o];exact c.o,by rw[n.o];exact d.o⟩
 ·have b:l<1\/64<l:=by omega
  rw[Nc b];clear p;by_cases m:l<1
  ·go_enter func243,ntmps243
   go_wp2_with fail;go_ret;exact⟨_,rfl,OwnI.nil _ _,aC _ _⟩
  ·have i:64<l:=by omega
   go_enter func243,ntmps243;go_wp2_with fail;go_ret;exact⟨_,rfl,OwnI.nil _ _,aC _ _⟩
def Dp(w:World)(p:SE)(s:Int):Prop:=p=none\/∃a b,p=some ⟨a,b,none⟩/\At w ⟨a,b,none⟩ (.int .u64 s)
def mK(w:World)(p:SE)(s:Int):World:=match p with | none=>w | some a=>w.setCell a (.int .u64 s)
theorem Jf(w:World)(p:SE)(s t:Int)(a:p=none\/∃b o,p=some ⟨b,o,none⟩):mK (mK w p s) p t=mK w p t:=by
 rcases a with rfl | ⟨b,o,rfl⟩
 ·rfl
 ·exact Go.Proofs.setCell_setCell w b o _ _
theorem lY(w:World)(p:SE)(s:Int):(mK w p s).heap.size=w.heap.size:=by
 unfold mK;split <;> simp[World.setCell]
theorem Dp.lt{w:World}{b o:Nat}{s:Int}(c:Dp w (some ⟨b,o,none⟩) s):b<w.heap.size:=by
 rcases c with c | ⟨e,f,a,d⟩
 ·cases c
 ·injection a with a;injection a with a g;subst a;exact d.lt
theorem Dp.put{w:World}{p:SE}{s:Int}(a:Dp w p s)(t:Int):Dp (mK w p t) p t:=by
 rcases a with rfl | ⟨b,o,rfl,h2⟩
 ·exact .inl rfl
 ·exact .inr ⟨b,o,rfl,h2.put _⟩
theorem Dp.form{w:World}{p:SE}{s:Int}(a:Dp w p s):p=none\/∃b o,p=some ⟨b,o,none⟩:=by
 rcases a with a | ⟨b,o,a,_⟩
 ·exact .inl a
 ·exact .inr ⟨b,o,a⟩
theorem Dp.below{w w':World}{p:SE}{s:Int}{B:Nat}(a:Dp w p s)(c:Below B w w')(f:w.heap.size<=B):Dp w' p s:=by
 rcases a with a | ⟨d,e,rfl,b⟩
 ·exact .inl a
 ·exact .inr ⟨d,e,rfl,b.below c (by have:=b.lt;omega)⟩
theorem Dp.far{w:World}{p:SE}{s:Int}(a:Dp w p s){g:Nat}(c:∀b o,p=some ⟨b,o,none⟩->b<g)(i:Nat)(v:Value):Dp (w.setCell ⟨g,i,none⟩ v) p s:=by
 rcases a with a | ⟨b,o,rfl,d⟩
 ·exact .inl a
 ·exact .inr ⟨b,o,rfl,d.far (q:=⟨g,i,none⟩) (by have:=c b o rfl;simp;omega) v⟩
theorem EE{B:Nat}{X Y:World}(a:Below B X Y)(f:B<=X.heap.size)(p:SE)(t:Int):Below B (mK X p t) (mK Y p t):=by
 unfold mK;split
 ·exact a
 ·rename_i d
  refine⟨a.os,a.tape,a.output,by simpa[World.setCell] using a.size,λb e=> ?_⟩;have:=a.block b e;by_cases c:d.block=b
  ·subst c
   simp only[World.setCell,Array.getElem?_modify];rw[this]
  ·simp only[World.setCell,Array.getElem?_modify,bA c]
   exact this
theorem Blk.setD{w:World}{g:Nat}{t:TypeId}{a:Array Value}(c:Blk w g t a){p:SE}(d:∀b o,p=some ⟨b,o,none⟩->b<g)(e:p=none\/∃b o,p=some ⟨b,o,none⟩)(x:Int):Blk (mK w p x) g t a:=by
 rcases e with rfl | ⟨b,o,rfl⟩
 ·exact c
 ·exact c.far (p:=⟨b,o,none⟩) (by have:=d b o rfl;simp;omega) _
theorem Ca(s n:Int)(p:SE)(w:World)(f:Dp w p s)(g: -9223372036854775808<=n/\n<=9223372036854775807):
 Calls prog 309 #[.pointer p,int i64 n] w λa c=>a=returned (int i64 (bN p.isNone s n:Nat))/\c=mK w p (sN p.isNone s n):=by
 rcases f with rfl | ⟨b,o,rfl,h2⟩
 ·exact(wS n w).mono λa c ⟨d,e⟩=>⟨d,e.symm⟩
 ·refine(wR s n _ w h2.1 h2.2 g).mono λa c ⟨d,e⟩=>⟨?_,e.symm⟩
  rw[d];have:(nY s n)=((nY s n).toNat:Int):=(by have:=(vw s n).1;omega);show Ending.returned (int i64 (nY s n))=Ending.returned (int i64 ((nY s n).toNat:Int));rw[<-this]
def oq(l:SC):Array Value:=(bM l).toArray
theorem Jg(l:SC):(oq l).size=l.length:=by simp[oq,bM]
theorem sF{l:SC}{i:Nat}(a:i<l.length):(oq l)[i]? =some (int i64 (l.getD i 0:Nat)):=by
 simp only[oq,List.getElem?_toArray];exact dh a
theorem xk(l:SC)(i x:Nat):(oq l).setIfInBounds i (int i64 (x:Nat))=oq (l.set i x):=by
 apply Array.ext';rw[Array.toList_setIfInBounds];simp[oq,bM]
def Gl(n k:Nat):SC:=range k++replicate (n-k) 0
theorem Gn{n k:Nat}(a:k<=n):(Gl n k).length=n:=by simp[Gl];omega
theorem MC(n:Nat):Gl n n=range n:=by simp[Gl]
theorem Pv{n k:Nat}(a:k<n):(Gl n k).set k k=Gl n (k+1):=by
 unfold Gl;rw[set_append_right _ _ (by simp),bg,Nat.sub_self,show n-k=(n-(k+1))+1 by omega,replicate_succ,set_cons_zero,range_succ,append_assoc];rfl
theorem ME(n:Nat):madeCells #[Value.int .i64 0] n=oq (Gl n 0):=by
 apply Array.ext (by rw[size_madeCells,Jg,Gn (bE _)]);intro a b c;simp[madeCells,oq,bM,Gl,Nat.mod_one]
theorem Jh(ad:Addr)(n c:Nat)(xs:List Value)(w:World)(a:Rd w w.heap.size (some ad) n xs)(b:∀u∈xs,u.oneCell'=true)(o:n*8<=140737488355328):
 Calls prog 99 #[slice (some ad) n c] w λe d=>∃v,e=returned v/\d.ownsRow w.heap.size 3 1 v n xs/\Below w.heap.size w d/\v≠ slice none 0 0:=by
 have p:=λd=>Lib.run_eql_slice_nil (P:=prog) d 22 3 (some ad) n c 0 0 underlying22;have f:=ae a;have g:=ae b;clear a b;go_enter func99,ntmps99
 go_wp2_with (at_builtin;refine Bz _ rfl _ _ 22 rfl w.heap.size 3 (int i64 0) 8 underlying22 je rfl (slice (some ⟨w.heap.size,0,none⟩) 0 0) 0 [] rfl ?o1 w.heap.size ad n c xs rfl ?o2 g.o ?o3 ?o4 ?o5 ?_)
 case o1=>exact World.ownsRow_made w #[] 0 (aj _) (by unfold maxLen;omega) (by simp)
 case o2=>exact f.o.keep (λe d=>World.cell?_alloc_lt _ _ _ d)
 case o3=>omega
 case o4=>unfold maxLen;omega
 case o5=>simp
 intro v d i j e;have k:Below w.heap.size w d:=((aC _ _).alloc (aj _) _).grown j (by simp) (λm l=>by simp[Value.ownBlock] at l;omega);have l:d.ownsRow w.heap.size 3 1 v n xs:=by simpa using i
 have m:Sz (v≠ slice none 0 0):=ae (by simpa using e);clear e;go_wp2_with fail;go_ret;exact⟨_,rfl,l,k,m.o⟩
section
open Go.RowKit Go.Sort
theorem Ky{n:Nat}(g:n<=1000000)(w:World):(Instr.makeSlice 22 (int i64 (n:Int)) (int i64 (n:Int))).run prog w=.ok (slice (some ⟨w.heap.size,0,none⟩) n n) (w.alloc (cells (oq (Gl n 0)) 3)):=by
 obtain⟨b,c,d,e,f⟩:=info_parts je;have a:=run_make (P:=prog) w 22 3 b (int i64 0) underlying22 c d .i64 .i64 (n:Int) (n:Int) (by omega) (by omega) (by rw[f];omega) (by omega);rw[e,Nat.mul_one,Int.toNat_natCast] at a;rw[<-ME];exact a
theorem DF(p:SE)(n k:Int)(w:World)(c:¬(0<=n/\n<=64/\0<=k/\k<=n)):
 Calls prog 244 #[.pointer p,int i64 n,int i64 k] w λa b=>a=returned (slice none 0 0)/\w=b:=by
 go_enter func244,ntmps244;go_wp2_with fail
 all_goals first | omega | (go_ret;exact⟨rfl,rfl⟩) | skip
theorem Oi(p:SE)(s:Int)(n k:Nat)(w:World)(hn:n<=64)(hk:k<=n)(J:Dp w p s):
 Calls prog 244 #[.pointer p,int i64 n,int i64 k] w λy a=>∃v,y=returned v/\OwnI a w.heap.size v (chosen p.isNone n s k)/\Below w.heap.size (mK w p (jX p.isNone n s k)) a:=by
 have a:=Ky (n:=n) (by omega);have g1:¬(n:Int)>64:=by omega
 have g2:¬(k:Int)>(n:Int):=by omega
 have j:=ae J;clear J;go_enter func244,ntmps244
 go_wp2_with (simp only[a])
 have b:=Blk.new w 3 (oq (Gl n 0));have c:=(aC w.heap.size w).alloc (aj _) (cells (oq (Gl n 0)) 3);have i:=ae b;have e:=ae c;clear b c a;generalize w.alloc (cells (oq (Gl n 0)) 3)=w1 at*;generalize a:w.heap.size=d at*;have m:=ae a;clear a;go_loopw [8,31] (λ_ l wr=>∃b:Nat,b<=n/\l=int i64 b/\Sz (Blk wr d 3 (oq (Gl n b)))/\Sz (Below d w wr)) (λ_ l _=>n-(intOf l).toNat)
 case atStart=>exact⟨0,by omega,rfl,i,e⟩
 case round=>
  clear i e;obtain⟨b,hj,rfl,i,e⟩:=hrel;by_cases q:b<n
  ·have a:=i.o.set b (int i64 (b:Nat))
   rw[xk,Pv q] at a;have o:=(i.o.cell b).trans (sF (by rw[Gn (by omega)];exact q));have r:=i.o.frozen b;have c:=ae a;have f:=ae (e.o.setCell (p:=⟨d,b,none⟩) (aj _) (int i64 (b:Nat)));clear a i e;have K:(b:Int)<(n:Int):=(by omega);go_wp2_with fail;go_roundw
   case rel=>exact⟨b+1,by omega,by go_num,c,f⟩
   case measure=>simp[intOf];omega
  ·obtain rfl:b=n:=by omega
   have L:Sz (Blk wr d 3 (oq (jR p.isNone b s 0))):=ae (by have h:=i.o;rw[MC] at h;exact h);have a:Dp wr p s:=j.o.below e.o (by rw[m.o];exact aj _)
   have M:Sz (Below d (mK w p s) wr):=ae (by
    rcases j.o with h | ⟨r,z,h,h2⟩
    ·subst h;exact e.o
    ·subst h
     show Below d (w.setCell ⟨r,z,none⟩ (.int .u64 s)) wr;rw[ko w _ _ h2.1];exact e.o)
   have N:=ae a;have O:=ae j.o.form;have D:=ae (show ∀r z,p=some ⟨r,z,none⟩->r<d from λr z h=>by rw[<-m.o];subst h;exact j.o.lt);generalize c:p.isNone=nl at*;have E:=ae c;clear i e a j c g1 q;go_wp2_with fail;go_loopw [9,10,40] (λ_ _ l wr=>∃a:Nat,a<=k/\l=int i64 a/\Sz (Blk wr d 3 (oq (jR nl b s a)))/\Sz (Dp wr p (jX nl b s a))/\Sz (Below d (mK w p (jX nl b s a)) wr)) (λ_ _ l _=>k-(intOf l).toNat)
   case atStart=>exact⟨0,by omega,rfl,L,N,M⟩
   case round=>
    clear L N M;obtain⟨a,hq,rfl,i,j,e⟩:=hrel;by_cases q:a<k
    ·have C:a<b:=by omega
     have F:=NZ (nl:=nl) (s:=s) C;have c:=Ca (jX nl b s a) ((b:Int)-(a:Int)) p wr j.o (by omega);rw[E.o] at c;have P:Sz (jR nl b s (a+1)=zy (jR nl b s a) a (a+bN nl (jX nl b s a) ((b:Int)-(a:Int)))):=ae rfl;have T:Sz (jX nl b s (a+1)=sN nl (jX nl b s a) ((b:Int)-(a:Int))):=ae rfl;have A:=mq nl b s a;have f:=QY (nl:=nl) (s:=jX nl b s a) (n:=(b:Int)-(a:Int)) (by omega);generalize bN nl (jX nl b s a) ((b:Int)-(a:Int))=G at*;generalize u:sN nl (jX nl b s a) ((b:Int)-(a:Int))=t at*;generalize jX nl b s a=Z at*;generalize jR nl b s a=o at*;have I:=ae c;have Q:=ae A;have R:=ae f;have aa:=ae u;clear c A f u;have K:(a:Int)<(k:Int):=(by omega);go_wp2_with fail;refine I.o.mono ?_;rintro y w2 ⟨rfl,rfl⟩;have c:=i.o.setD D.o O.o t;have U:=ae (j.o.put t);have B:=EE e.o (by rw[lY,m.o];exact aj _) p t;rw[Jf _ _ _ _ O.o] at B;have V:=ae B;obtain⟨f,x⟩:∃f,f=a+G:=⟨_,rfl⟩;rw[<-x] at F;have W:(a:Int)+(G:Int)=(f:Int):=(by omega);have X:(G:Int)<64:=(by have:=R.o;omega);rw[<-x] at P;have Y:=(c.cell a).trans (sF (by rw[Q.o];exact C));have u:=(c.cell f).trans (sF (by rw[Q.o];exact F));have f1:=c.frozen a;have f2:=c.frozen f;have H:=(c.set a (int i64 (o.getD f 0:Nat))).set f (int i64 (o.getD a 0:Nat));rw[xk,xk] at H;have S:Sz (Blk (((mK wr p t).setCell ⟨d,a,none⟩ (int i64 (o.getD f 0:Nat))).setCell ⟨d,f,none⟩ (int i64 (o.getD a 0:Nat))) d 3 (oq (jR nl b s (a+1)))):=ae (by rw[P.o];exact H);have t3:=(c.set a (int i64 (o.getD f 0:Nat))).frozen f;have ab:=ae x;clear c B H i e j x I R;generalize o.getD a 0=c at*;generalize o.getD f 0=x at*;generalize mK wr p t=w3 at*;have H:=ae ((V.o.setCell (p:=⟨d,a,none⟩) (aj _) (int i64 (x:Nat))).setCell (p:=⟨d,f,none⟩) (aj _) (int i64 (c:Nat)));have ac:(a:Int)<(b:Int):=(by omega);have ad:(f:Int)<(b:Int):=(by omega);go_wp2_with fail;have B:=ae q;have I:=ae ((U.o.far D.o a (int i64 (x:Nat))).far D.o f (int i64 (c:Nat)));rw[T.o.symm] at H I;clear W X C F q K hq;by_cases R:a=f
     ·subst R
      obtain rfl:c=x:=(by rw[Y] at u;injection u with u;injection u with _ u;omega);go_region;go_wp2_with fail;refine⟨⟨a+1,by have:=B.o;omega,by go_num,ae S.o.drew,ae I.o,ae (Below.drew H.o)⟩,?_⟩;have:=B.o;simp[intOf];omega
     ·go_region
      go_wp2_with fail;refine⟨⟨a+1,by have:=B.o;omega,by go_num,ae S.o.drew,ae I.o,ae (Below.drew H.o)⟩,?_⟩;have:=B.o;simp[intOf];omega
    ·obtain rfl:a=k:=by omega
     have A:=mq nl b s a
     have o:Rd wr wr.heap.size (some ⟨d,0,none⟩) a (bM ((jR nl b s a).take a)):=by
      refine⟨by simp[bM];omega,λf=>⟨d,0,rfl,i.o.lt,λl ag F=> ?_⟩⟩
      have hi:l<a:=by
       have:=(List.getElem?_eq_some_iff.1 F).1;simp[bM] at this;omega
      rw[Nat.zero_add,i.o.cell l,sF (by omega)];rw[dh (by rw[aH];omega)] at F;rw[<-F];simp only[af,List.getElem?_take,bu hi]
     have K:=ae (Jh ⟨d,0,none⟩ a b _ wr o (D5 _) (by omega));have P:Sz (((jR nl b s a).take a).length=a):=ae (by rw[aH];omega);have ac:Sz (chosen nl b s a=((jR nl b s a).take a).mergeSort leB):=ae rfl;generalize (jR nl b s a).take a=f at*;clear o A i j;have R:a<=b:=hk;go_wp2_with fail;refine K.o.mono ?_;rintro y G ⟨v5,rfl,Q,S,T⟩
     obtain⟨g,o,u,rfl,H,B,U,V,W,X⟩:∃g o u,v5=slice (some ⟨g,0,none⟩) a o/\wr.heap.size<=g/\G.heap[g]? =some (.cells u 3 (0,0))/\a<=o/\o<=maxLen/\u.size=o*1/\u.toList.take (a*1)=bM f:=by
      rcases Q.2 with⟨h,_⟩ | h
      ·exact absurd h T
      ·exact h
     have t:(f.map λc:Nat=>(c:Int)).length=a:=(by rw[aG];exact P.o);have Y:bM f=(f.map λc:Nat=>(c:Int)).map (Value.int .i64):=(by simp[bM]);have Z:=holds_of_blockI (ss:=f.map λc:Nat=>(c:Int)) B (by rw[t,<-Y,<-Nat.mul_one a];exact X);have C:=Tryz.slices_Sort_int g 0 o (f.map λc:Nat=>(c:Int)) G Z (Array.getElem?_eq_some_iff.1 B).1 (by rw[t];omega);rw[t] at C
     have aa:(f.map λc:Nat=>(c:Int)).mergeSort (λc x=>decide (c<=x))=(f.mergeSort leB).map λc:Nat=>(c:Int):=by
      refine(map_mergeSort ?_).symm;intro ai _ r _;simp[leB]
     have x:=ae λn os=>ownsRow_sortedI (n:=n) (os:=os) (ts:=(f.mergeSort leB).map λc:Nat=>(c:Int)) (ss:=f.map λc:Nat=>(c:Int)) (by rw[aG,(gJ f).length_eq,aG]) H B (by rw[t];exact U) V W;rw[t] at x;rw[aa] at C;have CS:=ae C;have I:=ae (e.o.trans (S.mono (by have h:=e.o.size;rw[lY,m.o] at h;exact h)));have ad:=ae (show d<=g from aP (by have h:=e.o.size;rw[lY,m.o] at h;exact h) H);have ab:=ae (show d<=wr.heap.size from by have h:=e.o.size;rw[lY,m.o] at h;exact h);clear Z C aa Y Q S T B U V W X t H e K;go_wp2_with fail;refine CS.o.mono ?_;rintro y K ⟨rfl,t,os,rfl⟩;have B:=ae (x.o t os);have C:=ae (I.o.grown (grownBy_sortedI (w:=G) (g:=g) (n:=t) (os:=os) ((f.mergeSort leB).map λc:Nat=>(c:Int)).toArray) (by have:=ab.o;have h:=I.o.size;rw[lY,m.o] at h;exact h) (λQ H=>by cases H;exact ad.o));generalize grow _ os=H at*;clear x CS I;go_wp2_with fail;go_ret;refine⟨_,rfl,?_,by rw[m.o,E.o];exact C.o⟩;rw[E.o,ac.o];have h:=B.o;show World.ownsRow _ _ _ _ _ _ (bM _);rw[(gJ f).length_eq,P.o,m.o,show bM (f.mergeSort leB)=((f.mergeSort leB).map λc:Nat=>(c:Int)).map (Value.int .i64) by simp[bM]];exact lT h ab.o
end
section
open Go.RowKit Go.Sort
theorem FQ(l:SC)(k x:Nat):(bM l).set k (int i64 (x:Nat))=bM (l.set k x):=by simp[bM]
theorem OwnI.cellA{w:World}{C g n c:Nat}{l:SC}(a:OwnI w C (slice (some ⟨g,0,none⟩) n c) l)(b:l.length=n){k:Nat}(d:k<n):w.cell? ⟨g,k,none⟩=some (int i64 (l.getD k 0:Nat))/\w.frozen? ⟨g,k,none⟩=false:=by
 unfold OwnI at a;rw[b] at a;exact⟨(a.cellAt k (by omega)).trans (dh (by omega)),a.frozenAt k⟩
theorem OwnI.storedA{w:World}{C g n c:Nat}{l:SC}(a:OwnI w C (slice (some ⟨g,0,none⟩) n c) l)(b:l.length=n)(k x:Nat):
 OwnI (w.setCell ⟨g,k,none⟩ (int i64 (x:Nat))) C (slice (some ⟨g,0,none⟩) n c) (l.set k x):=by
 unfold OwnI at a ⊢;rw[b] at a;rw[length_set,b,<-FQ];exact(a.stored k _).1
theorem OwnI.formA{w:World}{C n c:Nat}{a:SE}{l:SC}(b:OwnI w C (slice a n c) l)(e:l.length=n)(f:0<n):∃g,a=some ⟨g,0,none⟩/\C<=g/\g<w.heap.size:=by
 unfold OwnI at b;rw[e] at b;obtain⟨g,j,d,h,i⟩:=b.form f;injection d with d;exact⟨g,d,h,i⟩
theorem OwnI.lenA{w:World}{C:Nat}{v:Value}{l:SC}(b:OwnI w C v l):∃a c,v=slice a l.length c:=by
 obtain⟨a,c,rfl,_⟩:=OwnI.rd b;exact⟨a,c,rfl⟩
theorem OwnI.ltA{w:World}{C:Nat}{v:Value}{l:SC}(a:OwnI w C v l):∀g,v.ownBlock=some g->C<=g/\g<w.heap.size:=World.ownsRow.lt a
end
section
open Go.RowKit Go.Sort
def Ru(n k:Int):Bool:=decide (0<=n/\n<=64/\0<=k/\k<=n)
def BH(s n k:Int):SC:=if Ru n k then chosen false n.toNat s k.toNat else []
def Rv(s n k:Int):Int:=if Ru n k then jX false n.toNat s k.toNat else s
theorem Ma(s n k:Int):(BH s n k).length<=64:=by
 unfold BH Ru;split
 ·rename_i a
  simp only[decide_eq_true_eq] at a;rw[xU (by omega)];omega
 ·simp
theorem IW{w:World}{b o:Nat}{s:Int}(a:At w ⟨b,o,none⟩ (.int .u64 s)):mK w (some ⟨b,o,none⟩) s=w:=ko w _ _ a.1
theorem O7(b o:Nat)(s n k:Int)(w:World)(e:At w ⟨b,o,none⟩ (.int .u64 s)):
 Calls prog 244 #[pointer (some ⟨b,o,none⟩),int i64 n,int i64 k] w λa d=>∃v,a=returned v/\OwnI d w.heap.size v (BH s n k)/\Below w.heap.size (mK w (some ⟨b,o,none⟩) (Rv s n k)) d:=by
 by_cases c:0<=n/\n<=64/\0<=k/\k<=n
 ·obtain⟨f,rfl⟩:=Int.eq_ofNat_of_zero_le c.1
  obtain⟨g,rfl⟩:=Int.eq_ofNat_of_zero_le c.2.2.1;have a:Ru (f:Int) (g:Int)=true:=bq c;unfold BH Rv;rw[bu a,bu a];exact Oi (some ⟨b,o,none⟩) s f g w (by omega) (by omega) (.inr ⟨b,o,rfl,e⟩)
 ·have a:¬Ru n k=true:=by simp only[Ru,decide_eq_true_eq];exact c
  unfold BH Rv;rw[bA a,bA a,IW e];exact(DF _ n k w c).mono λa d ⟨g,f⟩=>⟨_,g,f▸OwnI.nil _ _,f▸aC _ _⟩
structure Aft (W:World) (b o:Nat) (t:Int) (w':World):Prop where
 far:∀k,k≠b->k<W.heap.size->w'.heap[k]? =W.heap[k]?
 at_:At w' ⟨b,o,none⟩ (.int .u64 t)
 size:W.heap.size<=w'.heap.size
theorem Aft.below{W w w':World}{b o G:Nat}{s t:Int}(a:At W ⟨b,o,none⟩ (.int .u64 s))(c:Below W.heap.size (mK W (some ⟨b,o,none⟩) t) w')(d:Below G w W)(e:G<=b):Below G w w':=
 (d.setCell (p:=⟨b,o,none⟩) e (.int .u64 t)).trans (c.mono (by have:=a.lt;simp at this;omega))
end
theorem MH{xs:SC}{x:Int}{n k:Nat}(a:k<n):Ot xs x k (n-k)=if x<(xs.getD k 0:Int) then k+1 else Ot xs x (k+1) (n-(k+1)):=by
 rw[show n-k=(n-(k+1))+1 by omega,Ot]
theorem EH(xs:SC)(B:Nat)(a:SE)(n c:Nat)(x:Int)(w:World)(k:Rd w B a n (bM xs))(g:xs.length=n)(G:n<=4096)(j:∀i,xs.getD i 0<4611686018427387904)(H: -9223372036854775808<=x/\x<=9223372036854775807):
 Calls prog 308 #[slice a n c,int i64 x] w λb d=>b=returned (int i64 (xE xs x:Nat))/\w=d:=by
 have e:Sz (xE xs x=if xs=[]\/x<0\/(xs.getD (n-1) 0:Int)<=x then 0 else Ot xs x 0 n):=ae (by unfold xE;rw[g]);generalize xE xs x=I at*;by_cases u:n=0
 ·subst u
  have d:xs=[]:=eq_nil_of_length_eq_zero g;have b:=e.o;rw[bu (.inl d)] at b;have f:=ae b;clear b k j g d e;go_enter func308,ntmps308;go_wp2_with fail;go_ret;exact⟨by rw[f.o];rfl,rfl⟩
 ·obtain⟨v,y,rfl,J,o⟩:=k.2 (by omega)
  have p:¬xs=[]:=(by rintro rfl;simp at g;omega);have d:∀i,i<n->w.cell? ⟨v,y+i,none⟩=some (int i64 (xs.getD i 0:Nat)):=λi l=>o i _ (dh (by omega));have z:=ae d;have A:=ae j;have K:((n:Int) == 0)=false:=(by rw[beq_eq_false_iff_ne];omega);have L:((n:Int)-1).toNat=n-1:=(by omega);have M:0<=(n:Int)-1:=(by omega);have C:=d (n-1) (by omega);have D:=j (n-1);clear k o j d;by_cases q:x<0
  ·have b:=e.o
   rw[bu (.inr (.inl q))] at b;have f:=ae b;clear b e;go_enter func308,ntmps308;go_wp2_with fail;go_ret;exact⟨by rw[f.o];rfl,rfl⟩
  ·by_cases l:(xs.getD (n-1) 0:Int)<=x
   ·have b:=e.o
    rw[bu (.inr (.inr l))] at b;have f:=ae b;clear b e;generalize xs.getD (n-1) 0=E at*;go_enter func308,ntmps308;go_wp2_with fail;go_ret;exact⟨by rw[f.o];rfl,rfl⟩
   ·have b:=e.o
    rw[bA (by rintro(h | h | h);exact p h;exact q h;exact l h)] at b;have f:=ae b;clear b e p;generalize xs.getD (n-1) 0=E at*;go_enter func308,ntmps308;go_wp2_with fail;clear C D l;go_loopw [5,6,26] (λ_ _ i wr=>∃d:Nat,d<=n/\i=int i64 d/\Sz (Ot xs x d (n-d)=Ot xs x 0 n)/\w=wr) (λ_ _ i _=>n-(intOf i).toNat)
    case atStart=>exact⟨0,by omega,rfl,ae rfl,rfl⟩
    case round=>
     obtain⟨d,N,rfl,m,rfl⟩:=hrel;by_cases r:d<n
     ·have O:=z.o d r
      have P:=A.o d;have s:=ae (MH (xs:=xs) (x:=x) r);generalize xs.getD d 0=F at*;by_cases t:x<(F:Int)
      ·go_wp2_with fail
       go_ret;exact⟨by rw[f.o,<-m.o,s.o,bu t];rfl,rfl⟩
      ·go_wp2_with fail
       go_roundw
       case rel=>exact⟨d+1,by omega,by go_num,ae (by rw[<-m.o,s.o,bA t]),by first | rfl | trivial⟩
       case measure=>simp[intOf];omega
     ·obtain rfl:d=n:=by omega
      go_wp2_with fail;go_ret;exact⟨by rw[f.o,<-m.o,Nat.sub_self];rfl,rfl⟩
def rZ(xs:SC)(s:Int):Nat:=if xs=[] then 0 else xE xs (nY s (xs.getD (xs.length-1) 0:Nat))
def qh(xs:SC)(s:Int):Int:=if xs=[] then s else QL s (xs.getD (xs.length-1) 0:Nat)
theorem II(l:Int):∀i,(kV l).getD i 0<4611686018427387904:=by
 intro i;unfold kV;split
 ·rcases bD i l.toNat with a | a
  ·rw[mg a]
   have:=sum_lt (l:=l.toNat) (k:=i+1) (by omega) a;omega
  ·rw[af,List.getElem?_eq_none (by rw[jh];exact a)];decide
 ·simp
theorem LP(xs:SC)(B:Nat)(a:SE)(n c:Nat)(s:Int)(p:Addr)(w:World)(g:Rd w B a n (bM xs))(d:xs.length=n)(y:n<=4096)(j:∀i,xs.getD i 0<4611686018427387904)
 (k:w.cell? p=some (.int .u64 s))(l:w.frozen? p=false)(r:B<=p.block\/∃b o,a=some ⟨b,o,none⟩/\b≠p.block):
 Calls prog 242 #[slice a n c,pointer (some p)] w λe f=>e=returned (int i64 (rZ xs s:Nat))/\w.setCell p (.int .u64 (qh xs s))=f:=by
 by_cases z:n=0
 ·subst z
  have m:xs=[]:=eq_nil_of_length_eq_zero d;subst m;have q:=ae (ko w p _ k);have f:qh [] s=s:=rfl;rw[f];clear g j f;go_enter func242,ntmps242;go_wp2_with fail;go_ret;exact⟨rfl,q.o⟩
 ·obtain⟨b,o,rfl,E,m⟩:=g.2 (by omega)
  have q:¬xs=[]:=by rintro rfl;simp at d;omega
  have A:b≠p.block:=by
   rcases r with h | ⟨F,G,e,h⟩
   ·omega
   ·simp at e;rw[e.1];exact h
  clear r;have t:rZ xs s=xE xs (nY s (xs.getD (n-1) 0:Nat)):=(by unfold rZ;rw[bA q,d]);have u:qh xs s=QL s (xs.getD (n-1) 0:Nat):=(by unfold qh;rw[bA q,d]);rw[t,u];have H:=m (n-1) _ (dh (by omega));have I:=j (n-1);have v:∀f,Rd (w.setCell p f) (b+1) (some ⟨b,o,none⟩) n (bM xs):=λf=>⟨g.1,λ_=>⟨b,o,rfl,by omega,λi x C=>(World.cell?_of_block (w:=w) (bJ w p f b A)).trans (m i x C)⟩⟩;have J:=vw s (xs.getD (n-1) 0:Nat);have x:=λf=>EH xs (b+1) (some ⟨b,o,none⟩) n c (nY s (xs.getD (n-1) 0:Nat)) (w.setCell p f) (v f) d y j (by omega);have K:((n:Int) == 0)=false:=(by rw[beq_eq_false_iff_ne];omega);have L:((n:Int)-1).toNat=n-1:=(by omega);have M:0<=(n:Int)-1:=(by omega);have f:=λw k l=>wR s (xs.getD (n-1) 0:Nat) p w k l (by omega);generalize xE xs (nY s (xs.getD (n-1) 0:Nat))=N at*;generalize xs.getD (n-1) 0=O at*;have C:=ae x;have D:=ae f;clear g m j v q t u x f d;go_enter func242,ntmps242;go_wp2_with fail;refine(D.o _ k l).mono ?_;rintro e f ⟨rfl,rfl⟩;go_wp2_with fail;refine(C.o _).mono ?_;rintro e f ⟨rfl,rfl⟩;go_wp2_with fail;go_ret;exact⟨rfl,rfl⟩
def dO(K H S:Int):Value:=.agg #[int i64 K,int i64 H,int i64 S]
def fQ(K H S:Int):Bool:=decide (1<=K/\K<=16/\1<=H/\H<=4/\1<=S/\S<=24)
theorem Ai{K H S:Int}(a:1<=K/\K<=16/\1<=H/\H<=4/\1<=S/\S<=24):fQ K H S=true:=bq a
theorem Ry{K H S:Int}(a:¬(1<=K/\K<=16/\1<=H/\H<=4/\1<=S/\S<=24)):fQ K H S=false:=decide_eq_false a
theorem BL{a b:Bool}(c:a=b):Ending.returned (.bool a)=returned (.bool b):=by rw[c]
theorem gU(K H S:Int)(w:World):
 Calls prog 88 #[dO K H S] w λa b=>a=returned (bool (fQ K H S))/\Below w.heap.size w b:=by
 have a:=(aC w.heap.size w).alloc (aj _) (cells #[int i64 K,int i64 H,int i64 S] 25);have b:=ae a;clear a;unfold dO;go_enter func88,ntmps88;go_wp2_with fail
 all_goals(
  go_ret;refine⟨BL ?_,b.o⟩
  first
  | (simp[fQ];omega)
  | (simp only[fQ,decide_eq_decide];omega)
  | (simp[fQ] at*;omega))
def lW(K H S:Int):Int:=if fQ K H S then K+H else 0
theorem og(K H S:Int)(w:World):
 Calls prog 232 #[dO K H S] w λe a=>e=returned (int i64 (lW K H S))/\Below w.heap.size w a:=by
 have b:=(aC w.heap.size w).alloc (aj _) (cells #[int i64 K,int i64 H,int i64 S] 25);have a:=Blk.new w 25 #[int i64 K,int i64 H,int i64 S];have f:(w.alloc (cells #[int i64 K,int i64 H,int i64 S] 25)).cell? ⟨w.heap.size,0,none⟩=some (int i64 K):=a.cell 0;have g:(w.alloc (cells #[int i64 K,int i64 H,int i64 S] 25)).cell? ⟨w.heap.size,1,none⟩=some (int i64 H):=a.cell 1;have d:w.heap.size<(w.alloc (cells #[int i64 K,int i64 H,int i64 S] 25)).heap.size:=by simp
 have j:=ae f;have k:=ae g;have i:=ae b;have c:=ae λw=>gU K H S w;clear b a f g;unfold dO at c ⊢;by_cases h:1<=K/\K<=16/\1<=H/\H<=4/\1<=S/\S<=24
 ·have a:=Ai h
  have f:Sz (lW K H S=K+H):=ae (by unfold lW;rw[bu a]);rw[a] at c;obtain⟨n,o,q,r,-⟩:=h;clear a;go_enter func232,ntmps232;go_wp2_with fail;generalize w.alloc (cells #[int i64 K,int i64 H,int i64 S] 25)=l at*;refine(c.o _).mono ?_;rintro e m ⟨rfl,b⟩;have s:=(b.cell (p:=⟨w.heap.size,0,none⟩) d).trans j.o;have t:=(b.cell (p:=⟨w.heap.size,1,none⟩) d).trans k.o;have g:=ae (i.o.trans (b.mono (Nat.le_of_lt d)));clear b;go_wp2_with fail;go_ret;exact⟨by rw[f.o];rfl,g.o⟩
 ·have a:=Ry h
  have f:Sz (lW K H S=0):=ae (by unfold lW;rw[a];rfl);rw[a] at c;clear a h;go_enter func232,ntmps232;go_wp2_with fail;generalize w.alloc (cells #[int i64 K,int i64 H,int i64 S] 25)=l at*;refine(c.o _).mono ?_;rintro e m ⟨rfl,b⟩;have g:=ae (i.o.trans (b.mono (Nat.le_of_lt d)));clear b;go_wp2_with fail;go_ret;exact⟨by rw[f.o];rfl,g.o⟩
def Ao(n s:Int):SC:=BH (qh (kV n) s) n (rZ (kV n) s:Nat)
theorem Gp(n s:Int):(Ao n s).length<=64:=Ma _ _ _
theorem Pw{n:Nat}(b:1<=n)(a:n<=64)(s:Int):1<=rZ (kV n) s/\rZ (kV n) s<=n:=by
 rw[AC ⟨b,a⟩];have d:mV n≠[]:=λc=>by have:=jh n;rw[c] at this;simp at this;omega
 unfold rZ;rw[bA d,jh,mg (by omega:n-1<n),show n-1+1=n by omega]
 have e:0<jb n n:=by
  have:=Cw a (show n-1<n by omega);rw[show n-1+1=n by omega] at this;omega
 have c:(0:Int)<(jb n n:Nat):=by omega
 refine PV b a ?_ ?_
 ·exact(vw _ _).1
 ·rw[wQ c];exact Int.emod_lt_of_pos _ c
theorem EG{n:Nat}(b:1<=n)(c:n<=64)(s:Int):1<=(Ao n s).length/\(∀x∈Ao n s,x<n)/\(Ao n s).Pairwise (·< ·):=by
 obtain⟨d,a⟩:=Pw b c s;unfold Ao BH Ru;rw[bu (bq (by omega)),Int.toNat_natCast,Int.toNat_natCast];exact⟨by rw[xU a];exact d,Kc a,Dw a⟩
def yx(n:Nat)(L:SC):SC:=L.foldl (λa b=>a.set b 1) (replicate n 0)
theorem MG(n:Nat)(L:SC)(x:Nat):yx n (L++[x])=(yx n L).set x 1:=by unfold yx;rw[foldl_append];rfl
theorem Cc(n:Nat)(L:SC):(yx n L).length=n/\∀i,i<n->(yx n L).getD i 0=if i∈L then 1 else 0:=by
 unfold yx
 suffices ∀(e:SC) (b:SC) (g:Nat->Prop),b.length=n->(∀i,i<n->(g i/\b.getD i 0=1)\/(¬g i/\b.getD i 0=0))->
  (e.foldl (λb i=>b.set i 1) b).length=n/\∀i,i<n->((g i\/i∈e)/\(e.foldl (λb i=>b.set i 1) b).getD i 0=1)\/(¬(g i\/i∈e)/\(e.foldl (λb i=>b.set i 1) b).getD i 0=0) by
  obtain⟨h,j⟩:=this L (replicate n 0) (λ_=>False) (by simp) (λi f=>.inr ⟨id,by rw[af,List.getElem?_replicate];split <;> rfl⟩);refine⟨h,λi f=> ?_⟩;rcases j i f with⟨a,c⟩ | ⟨a,c⟩
  ·rw[c,bu (by simpa using a)]
  ·rw[c,bA (λd=>a (.inr d))]
 intro e
 induction e with
 | nil=>intro b g h j;exact⟨h,λi f=>by simpa using j i f⟩
 | cons k e m=>
   intro b g h j
   obtain⟨o,p⟩:=m (b.set k 1) (λi=>g i\/i=k) (by rw[length_set];exact h) (λi f=>by
    rw[af,List.getElem?_set];by_cases c:k=i
    ·subst c
     rw[bu rfl,bu (by omega)];exact .inl ⟨.inr rfl,rfl⟩
    ·rw[bA c,<-af]
     rcases j i f with⟨a,l⟩ | ⟨a,l⟩
     ·exact .inl ⟨.inl a,l⟩
     ·exact .inr ⟨λd=>d.elim a λq=>c q.symm,l⟩)
   refine⟨o,λi f=> ?_⟩;rcases p i f with⟨a,c⟩ | ⟨a,c⟩
   ·left
    refine⟨?_,c⟩;rcases a with(a | a) | a
    ·exact .inl a
    ·exact .inr (by rw[a];exact mem_cons_self)
    ·exact .inr (mem_cons_of_mem _ a)
   ·right
    refine⟨λd=>a ?_,c⟩;rcases d with d | d
    ·exact .inl (.inl d)
    ·rcases mem_cons.1 d with d | d
     ·exact .inl (.inr d)
     ·exact .inr d
theorem Ap(n:Nat)(L:SC):(yx n L).length=n:=(Cc n L).1
theorem Gq{n:Nat}{L:SC}{i:Nat}(a:i<n):(yx n L).getD i 0=if i∈L then 1 else 0:=(Cc n L).2 i a
def Aq(id:Int):Int:=IntKind.u32.wrap (id%4294967296*2654435761)
theorem Gs(id:Int):0<=Aq id/\Aq id<4294967296:=by unfold Aq;rw[IntKind.wrap_u32];omega
def tq(s id:Int):Int:=bits .xor .u32 s (Aq id)
theorem Px{s id:Int}(a:0<=s)(c:s<4294967296):tq s id=((s.toNat ^^^ (Aq id).toNat:Nat):Int):=by
 have b:=Gs id;unfold tq;have:=u32_xor_nat s.toNat (Aq id).toNat (by omega) (by omega)
 rwa [Int.toNat_of_nonneg a,Int.toNat_of_nonneg b.1] at this
theorem RH{s:Int}(id:Int)(a:0<=s)(b:s<4294967296):0<=tq s id/\tq s id<4294967296:=by
 have c:=Gs id;rw[Px a b];have:=Nat.xor_lt_two_pow (n:=32) (x:=s.toNat) (y:=(Aq id).toNat) (by omega) (by omega);omega
def iO(K H S s id:Int):SC:=if fQ K H S/\0<=id/\id<=65535 then Ao (K+H) (nW (tq s id)) else []
def nG(K H S s id:Int):SC:=if fQ K H S/\0<=id/\id<=65535 then yx (K+H).toNat (Ao (K+H) (nW (tq s id))) else []
theorem Ce(K H S s id:Int):(iO K H S s id).length<=64:=by
 unfold iO;split
 ·exact Gp _ _
 ·simp
def lI(n k a:Nat):Nat->SC
 | 0=>eH n k
 | j+1=>(lI n k a j).set j (ex ((a+1)*(j+1)))
def dD(K H:Nat):Nat->List SC
 | 0=>[]
 | r+1=>dD K H r++[lI (K+H) (K+r) r K]
theorem Bb(n k a j:Nat):(lI n k a j).length=n:=by
 induction j with
 | zero=>exact iN _ _
 | succ j b=>rw[lI,length_set];exact b
theorem Ou(n k b j:Nat):By (lI n k b j):=by
 induction j with
 | zero=>exact pu _ _
 | succ j c=>
   intro d e;rcases mem_or_eq_of_mem_set e with a | a
   ·exact c d a
   ·subst a;exact(uN _).2
theorem eO(K H r:Nat):(dD K H r).length=r:=by
 induction r with
 | zero=>rfl
 | succ r a=>rw[dD,aI,a];rfl
theorem Ov(K H r j:Nat):(lI (K+H) (K+r) r j).length=K+H/\By (lI (K+H) (K+r) r j):=⟨Bb _ _ _ _,Ou _ _ _ _⟩
theorem vP(K H r:Nat){i:Nat}(c:i<r):(dD K H r).getD i []=lI (K+H) (K+i) i K:=by
 induction r with
 | zero=>omega
 | succ r b=>
   rw[dD,af,List.getElem?_append,eO];by_cases a:i<r
   ·rw[bu a,<-af];exact b a
   ·obtain rfl:i=r:=by omega
    simp
theorem tu(K H r:Nat):Wf (K+H) (dD K H r):=by
 induction r with
 | zero=>intro c a;simp[dD] at a
 | succ r d=>
   intro c a;rw[dD,bF] at a;rcases a with b | b
   ·exact d c b
   ·rw[mem_singleton] at b;subst b;exact Ov _ _ _ _
theorem Ow(n:Nat)(a:n<255):exI (n:Int)=ex n:=by
 unfold exI;have:((n:Int)%255).toNat=n:=by omega
 rw[this]
theorem lJ{w:World}{g:Nat}{t:TypeId}{x y z:Value}(a:Blk w g t #[x,y,z]):w.cell? ⟨g,0,none⟩=some x/\w.cell? ⟨g,1,none⟩=some y/\w.cell? ⟨g,2,none⟩=some z:=⟨a.cell 0,a.cell 1,a.cell 2⟩
theorem zD(K H:Nat)(S:Int)(j:1<=K/\K<=16)(k:1<=H/\H<=4)(l:1<=S/\S<=24)(N:Nat)(m:K+H=N)(G:Nat)(b:Array Value)(w:World)(c:Blk w G 25 b):
 Calls prog 232 #[.agg #[int i64 K,int i64 H,int i64 S]] w λd a=>d=returned (int i64 N)/\Blk a G 25 b/\Below w.heap.size w a:=by
 have g:fQ K H S=true:=Ai (by omega);have h:lW K H S=(N:Nat):=by unfold lW;rw[bu g];omega
 have e:=og K H S w;rw[h] at e;exact e.mono λd a ⟨i,f⟩=>⟨i,c.below f c.lt,f⟩
theorem zF(n k:Nat)(G:Nat)(t:TypeId)(c:Array Value)(w:World)(d:Blk w G t c)(i:n<=64)(j:k<n):
 Calls prog 315 #[int i64 n,int i64 k] w λe a=>∃g b,e=returned (slice (some ⟨g,0,none⟩) n b)/\w.heap.size<=g/\OwnB a w.heap.size (slice (some ⟨g,0,none⟩) n b) (eH n k)/\Blk a G t c/\Below w.heap.size w a:=
 (Ms n k w i j).mono λe a ⟨m,l,f,h⟩=>by
   obtain⟨g,b,a,e,m⟩:=OwnB.form f (by rw[iN];omega);rw[iN] at a;subst a;exact⟨g,b,l,e,f,d.below h d.lt,h⟩
theorem rA(K H:Nat)(S:Int)(w:World)(hK:1<=K/\K<=16)(hH:1<=H/\H<=4)(hS:1<=S/\S<=24):
 Calls prog 257 #[dO K H S] w λx a=>∃v,x=returned v/\MOwn a w.heap.size v (dD K H H)/\Below w.heap.size w a:=by
 have n:=(aC w.heap.size w).alloc (aj _) (cells #[int i64 K,int i64 H,int i64 S] 25);have d:=Blk.new w 25 #[int i64 K,int i64 H,int i64 S];have b:w.heap.size<(w.alloc (cells #[int i64 K,int i64 H,int i64 S] 25)).heap.size:=by simp
 have e:fQ K H S=true:=Ai (by omega);have y:=ae n;have g:=ae d;have a:=ae λw=>gU K H S w;have CC:=ae λc m f B w j=>zD K H S hK hH hS c m f B w j;rw[e] at a;clear n d e;unfold dO at a ⊢;go_enter func257,ntmps257;go_wp2_with fail;generalize w.alloc (cells #[int i64 K,int i64 H,int i64 S] 25)=w1 at*;generalize d:w.heap.size=f at*;have V:=ae d;clear d;refine(a.o _).mono ?_;rintro x G ⟨rfl,o⟩;have e:=ae (g.o.below o b);have q:=ae (y.o.trans (o.mono (Nat.le_of_lt b)));have d:f<G.heap.size:=by have:=o.size;omega
 clear o g y a b;go_wp2_with fail;refine(qU _).mono ?_;rintro x I ⟨C,rfl,b,a,z⟩;have l:=ae a;have Q:=ae (e.o.below z d);have D:=ae (q.o.trans (z.mono (Nat.le_of_lt d)));clear z a b e q;have J:=(lJ Q.o).2.1;go_wp2_with fail;clear J d G w1;have W:Sz (MOwn I f (slice none 0 0) (dD K H 0)):=ae (MOwn.nil _ _);go_loopw [4,5,6,7,14] (λa _ _ _ i wr=>∃b:Nat,b<=H/\i=int i64 b/\Sz (MOwn wr f a (dD K H b))/\Sz (Fld wr C)/\Sz (Blk wr f 25 #[int i64 K,int i64 H,int i64 S])/\Sz (Below f w wr)) (λ_ _ _ _ i _=>H-(intOf i).toNat)
 case atStart=>exact⟨0,by omega,rfl,W,l,Q,D⟩
 case round=>
  clear W l D Q;obtain⟨b,hr,rfl,L,l,g,y⟩:=hrel;rename World=>d;have aF:f<d.heap.size:=Blk.lt g.o;by_cases aK:b<H
  ·have aL:(b:Int)<(H:Int):=by omega
   obtain⟨X,J,Y⟩:=lJ g.o;have ao:=ae X;have ap:=ae J;have aq:=ae Y;obtain⟨c,m⟩:∃c,K+H=c:=⟨_,rfl⟩;obtain⟨e,a⟩:∃e,K+b=e:=⟨_,rfl⟩;have ar:((K:Int)+(b:Int))=(e:Int):=(by omega);have au:e<=64:=(by omega);have Z:IntKind.i64.wrap (e:Int)=(e:Int):=(by rw[IntKind.wrap_i64];omega);have CU:=ae λw j=>zF c e f 25 #[int i64 K,int i64 H,int i64 S] w j (by omega) (by omega);have R:=ae m;have HQ:=ae a;clear m a;generalize a:d.heap.size=r at*;have s:=ae a;clear a;go_wp2_with fail
   go_region_with (first
    | (go_at_call 232
       refine(CC.o c R.o f _ d.drew g.o).mono ?_;rintro x G ⟨rfl,M,o⟩;obtain⟨k0,k1,k2⟩:=lJ M;have aa:=ae M;have q:=ae o;clear M o)
    | (go_at_call 315
       try rw[Z]
       refine(CU.o _ aa.o).mono ?_;rintro x I ⟨m,N,rfl,u,A,a,z⟩;obtain⟨m0,m1,m2⟩:=lJ a;have av:=ae a;have D:=ae z;have ab:=ae A;have ac:=ae u;clear a z A u))
   all_goals(
    have ad:Sz (Below r d I):=ae (by
     have u:Below d.heap.size d d.drew:=below_drewN (aC _ _) 1;have O:Below d.heap.size d G:=u.trans q.o;rw[<-s.o];exact O.trans (D.o.mono O.size))
    have aw:r<=m:=(by have u:=s.o;have O:=q.o.size;have h3:=ac.o;have h4:d.drew.heap.size=d.heap.size:=rfl;omega);have ag:Sz (OwnB I r (slice (some ⟨m,0,none⟩) c N) (lI c e b 0)):=ae (OwnB.base ab.o (by have u:=s.o;have O:=q.o.size;have h4:d.drew.heap.size=d.heap.size:=rfl;omega));have ai:Sz (dD K H (b+1)=dD K H b++[lI c e b K]):=ae (by rw[dD,R.o,HQ.o]);have aM:K<=c:=(by have:=R.o;omega);clear aa q av D ab ac k0 k1 k2 X J Y ao ap aq ar Z CU;go_wp2_with fail;clear m0 m1 m2 au;go_loopw [7,26] (λ_ i E=>∃a:Nat,a<=K/\i=int i64 a/\Sz (OwnB E r (slice (some ⟨m,0,none⟩) c N) (lI c e b a))/\Sz (Below r d E)) (λ_ i _=>K-(intOf i).toNat)
    case atStart=>exact⟨0,by omega,rfl,ag,ad⟩
    case round=>
     clear ag ad;obtain⟨a,hj,rfl,E,F⟩:=hrel;by_cases aR:a<K
     ·have am:(a:Int)<(K:Int):=by omega
      obtain⟨i,j⟩:∃i,(b+1)*(a+1)=i:=⟨_,rfl⟩;have M:i<=64:=(by rw[<-j];exact bC (show b+1<=4 by omega) (show a+1<=16 by omega));have an:((b:Int)+1)*((a:Int)+1)=(i:Int):=(by rw[<-j];simp);have ax:IntKind.i64.wrap (i:Int)=(i:Int):=(by rw[IntKind.wrap_i64];omega);have T:=ae (Rh C i (by omega) wr (l.o.below F.o (by have:=Blk.lt l.o;rw[s.o] at this;exact this)));rw[Ow i (by omega)] at T;have ak:Sz (lI c e b (a+1)=(lI c e b a).set a (ex i)):=ae (by rw[lI,j]);have HX:=ae j;have ay:(a:Int)<(c:Int):=(by omega);clear j;generalize ex i=P at*;go_wp2_with fail;refine T.o.mono ?_;rintro x w5 ⟨rfl,j,rfl⟩;have U:(lI c e b a).length=c:=Bb _ _ _ _;obtain⟨cc,cf⟩:=OwnB.cell (E.o.drewN j) U (k:=a) (by omega);have HS:=ae (OwnB.stored (E.o.drewN j) U a P);clear U;go_wp2_with fail;have U:Sz (OwnB ((wr.drewN j).setCell ⟨m,a,none⟩ (.int .u8 (P:Nat))) r (slice (some ⟨m,0,none⟩) c N) (lI c e b (a+1))):=ae (by rw[ak.o];exact HS.o.1);have al:Sz (Below r d ((wr.drewN j).setCell ⟨m,a,none⟩ (.int .u8 (P:Nat)))):=ae (Below.setCell (below_drewN F.o j) (p:=⟨m,a,none⟩) aw _);clear HS ak E F T cc cf;generalize (wr.drewN j).setCell ⟨m,a,none⟩ (.int .u8 (P:Nat))=w5 at*;go_wp2_with fail;go_roundw
      case rel=>exact⟨a+1,by omega,by go_num,U,al⟩
      case measure=>simp[intOf];omega
     ·obtain rfl:a=K:=by omega
      have ax:(dD a H b).length<=1000000:=(by rw[eO];omega);have ay:f<=d.heap.size:=(by rw[s.o];omega);have j:Sz (Below d.heap.size d wr):=ae (by rw[s.o];exact F.o);have U:Sz (OwnB wr d.heap.size (slice (some ⟨m,0,none⟩) c N) (lI c e b a)):=ae (by rw[s.o];exact E.o);have ak:Sz (Fld wr C):=ae (l.o.below j.o (Blk.lt l.o));have al:Sz (Blk wr f 25 #[int i64 a,int i64 H,int i64 S]):=ae (g.o.below j.o (Blk.lt g.o))
      go_wp2_with (at_builtin;refine tV (w0:=d) (w1:=wr) rfl _ _ rfl L.o j.o U.o ay ax rfl rfl ?_)
      intro v' w6 P am T az;rw[<-ai.o] at P;have aA:=ae P;have aB:=ae (y.o.trans am);obtain⟨vs,an⟩:=L.o
      have A:u4.ownBlock=none\/∃i B,u4.ownBlock=some i/\Blk d i 30 B:=by
       rcases an.hd.2 with⟨u,_⟩ | ⟨i,aS,aT,u,_,n,_⟩
       ·rw[u];exact .inl rfl
       ·rw[u];exact .inr ⟨i,_,rfl,n⟩
      have aD:Sz (Fld w6 C):=ae (by
       refine Blk.grown (Blk.alloc ak.o _) T ?_;rcases A with h | ⟨i,B,h,n⟩
       ·rw[h];simp
       ·rw[h]
        have:C≠i:=Blk.ne (t:=337) (t':=30) l.o n (by decide);simpa using this)
      have aE:Sz (Blk w6 f 25 #[int i64 a,int i64 H,int i64 S]):=ae (by
       refine Blk.grown (Blk.alloc al.o _) T ?_;rcases A with h | ⟨i,B,h,n⟩
       ·rw[h];simp
       ·rw[h]
        have:f≠i:=Blk.ne (t:=25) (t':=30) g.o n (by decide);simpa using this)
      clear P am T az L F j E U ak al ai l y g A an;go_wp2_with fail;go_roundw
      case rel=>exact⟨b+1,by omega,by go_num,aA,aD,aE,aB⟩
      case measure=>simp[intOf];omega)
  ·obtain rfl:b=H:=by omega
   go_wp2_with fail;go_ret;exact⟨_,rfl,by rw[V.o];exact L.o,by rw[V.o];exact y.o⟩
theorem sX_at(f:Nat->Nat->Nat)(j:Nat)(l:SC):sX (λa _=>f a j) 0 l=sX f j l:=by
 induction l with
 | nil=>rfl
 | cons a l b=>show f a j ^^^ sX (λa _=>f a j) 0 l=f a j ^^^ sX f j l;rw[b]
theorem lG{K H Z:Nat}{s id:Int}(b:fQ K H Z=true):(∀c∈iO K H Z s id,c<K+H)/\(iO K H Z s id).Pairwise (·< ·):=by
 have d:=bn b;unfold iO;split
 ·have a:=EG (n:=K+H) (by omega) (by omega) (nW (tq s id))
  rw[Int.natCast_add] at a;exact⟨a.2.1,a.2.2⟩
 ·exact⟨by simp,List.Pairwise.nil⟩
theorem nZ{l:SC}(a:l.Pairwise (·< ·)):l.Nodup:=a.imp λa=>Nat.ne_of_lt a
theorem vE{K H Z:Nat}{s id:Int}(b:fQ K H Z=true)(c:0<=id)(d:id<=65535):(nG K H Z s id).length=K+H/\By (nG K H Z s id)/\(∀i,i<K+H->(nG K H Z s id).getD i 0=if i∈iO K H Z s id then 1 else 0)/\1<=(iO K H Z s id).length:=by
 have k:=bn b;unfold nG iO;rw[bu ⟨b,c,d⟩,bu ⟨b,c,d⟩,show((K:Int)+(H:Int)).toNat=K+H by omega];have e:=EG (n:=K+H) (by omega) (by omega) (nW (tq s id));rw[Int.natCast_add] at e;refine⟨Ap _ _,λl h=> ?_,λi a=>Gq a,e.1⟩;obtain⟨i,a,rfl⟩:=bH h;have f:=a;rw[Ap] at f;have g:=Gq (L:=Ao ((K:Int)+(H:Int)) (nW (tq s id))) f;rw[af,ah a] at g;have j:(yx (K+H) (Ao ((K:Int)+(H:Int)) (nW (tq s id))))[i]=if i∈Ao ((K:Int)+(H:Int)) (nW (tq s id)) then 1 else 0:=g;rw[j];split <;> decide
def fK(K H Z:Nat)(s:Int)(ids:SC):List SC:=dD K H H++ids.map λa=>nG K H Z s (a:Nat)
theorem oZ{K H Z:Nat}{s:Int}{ids:SC}(b:fQ K H Z=true)(c:∀i∈ids,i<=65535):Wf (K+H) (fK K H Z s ids):=by
 intro d a;rcases bF.1 a with a | a
 ·exact tu K H H d a
 ·obtain⟨i,e,rfl⟩:=aZ.1 a
  have f:=c i e;have:=vE (s:=s) (id:=(i:Nat)) b (by omega) (by omega);exact⟨this.1,this.2.1⟩
theorem r9(K H Z:Nat)(s:Int)(ids:SC):(fK K H Z s ids).length=H+ids.length:=by unfold fK;rw[aI,aG,eO]
def iM(K H Z:Nat)(s:Int)(m:List SC)(id:Nat):SC:=bZ (λa=>m.getD a []) (iO K H Z s (id:Nat)) (replicate Z 0)
def lh(H Z:Nat)(a:List SC):List SC:=replicate H (replicate Z 0)++a
theorem F8{H Z:Nat}{b:List SC}(c:Wf Z b):Wf Z (lh H Z b):=by
 intro d a;rcases bF.1 a with a | a
 ·rw[eq_of_mem_replicate a];exact⟨aJ,By.zeros Z⟩
 ·exact c d a
structure MidOK (K H Z:Nat) (s:Int) (m:List SC):Prop where
 wf:Wf Z m
 len:m.length=K+H
 pre:∀h,h<H->∀j,eG (vO (lI (K+H) (K+h) h K)) (fun c=>(m.getD c []).getD j 0) (K+H)=0
theorem MidOK.row{K H Z:Nat}{s:Int}{m:List SC}(a:MidOK K H Z s m){c:Nat}(b:c<K+H):(m.getD c []).length=Z/\By (m.getD c []):=a.wf.get (by rw[a.len];exact b)
theorem MidOK.vb{K H Z:Nat}{s:Int}{m:List SC}(c:MidOK K H Z s m)(j:Nat):Vb λa=>(m.getD a []).getD j 0:=λa=>by
 rcases bD a (K+H) with b | b
 ·exact getD_lt (c.row b).2 j
 ·have d:m.getD a []=[]:=by rw[af,List.getElem?_eq_none (by rw[c.len];exact b)];rfl
  show((m.getD a []).getD j 0)<256;rw[d];show(0:Nat)<256;decide
theorem kR{K H Z:Nat}{s:Int}{m:List SC}(a:fQ K H Z=true)(b:MidOK K H Z s m)(id:Nat):(iM K H Z s m id).length=Z:=fM aJ λc d=>(b.row ((lG a).1 c d)).1
theorem F9{K H Z:Nat}{s:Int}{m:List SC}(a:fQ K H Z=true)(b:MidOK K H Z s m)(id:Nat):By (iM K H Z s m id):=(dU (D:=Z) (Byt.zero Z) λc d=>b.row ((lG a).1 c d)).2
theorem Mc{K H Z:Nat}{s:Int}{m:List SC}(b:fQ K H Z=true)(c:MidOK K H Z s m){id:Nat}(h:id<=65535)(j:Nat):(iM K H Z s m id).getD j 0=eG (vO (nG K H Z s (id:Nat))) (λa=>(m.getD a []).getD j 0) (K+H):=by
 obtain⟨i,k,e,_⟩:=vE (s:=s) (id:=(id:Nat)) b (by omega) (by omega);obtain⟨d,f⟩:=lG (s:=s) (id:=(id:Nat)) b;unfold iM;rw[jM j aJ λa g=>(c.row (d a g)).1,gZ (vO _),wU (c.vb j) (nZ f) d e];have g:(replicate Z 0).getD j 0=0:=by rw[af,List.getElem?_replicate];split <;> rfl
 rw[g,Nat.zero_xor];exact(sX_at (λa j=>(m.getD a []).getD j 0) j _).symm
theorem Rw{K H Z:Nat}{s:Int}{a:List SC}(d:fQ K H Z=true)(k:Wf Z a)(o:a.length=K)(p:(eT (fK K H Z s (range K))).length=K+H):
 kP (K+H) (fK K H Z s (range K)) (lh H Z a)=0/\MidOK K H Z s (kQ (K+H) (fK K H Z s (range K)) (lh H Z a))/\∀i,i<K->iM K H Z s (kQ (K+H) (fK K H Z s (range K)) (lh H Z a)) i=a.getD i []:=by
 have y:=bn d;have q:Wf (K+H) (fK K H Z s (range K)):=oZ d λi f=>by have:=bG.1 f;omega
 have m:(fK K H Z s (range K)).length=K+H:=by rw[r9,bg];omega
 have r:(lh H Z a).length=K+H:=by unfold lh;rw[aI,aJ,o];omega
 obtain⟨t,u,v,n⟩:=Qr q (F8 (H:=H) k) (by rw[m,r]) m (by omega) p;generalize kQ (K+H) (fK K H Z s (range K)) (lh H Z a)=w at*
 have g:MidOK K H Z s w:=by
  refine⟨u,v,λb e c=> ?_⟩;have:=n b (by omega) c
  have h:(fK K H Z s (range K)).getD b []=lI (K+H) (K+b) b K:=by
   unfold fK;rw[af,List.getElem?_append_left (by rw[eO];exact e),<-af];exact vP K H H e
  have j:((lh H Z a).getD b []).getD c 0=0:=by
   unfold lh;rw[af (l:=_++_),List.getElem?_append_left (by rw[aJ];exact e),List.getElem?_replicate,bu e];show(replicate Z 0).getD c 0=0;rw[af,List.getElem?_replicate];split <;> rfl
  rw[h,j] at this;exact this.symm
 refine⟨t,g,λi f=> ?_⟩;have x:a.getD i []∈a:=by rw[af,ah (by omega)];exact aQ _
 refine ext_get (by rw[kR d g,(k _ x).1]) λc=> ?_;rw[Mc d g (by omega)];have:=n (H+i) (by omega) c
 have h:(fK K H Z s (range K)).getD (H+i) []=nG K H Z s (i:Nat):=by
  unfold fK;rw[af,List.getElem?_append_right (by rw[eO];omega),eO,Nat.add_sub_cancel_left,List.getElem?_map,List.getElem?_range f];rfl
 have j:(lh H Z a).getD (H+i) []=a.getD i []:=by
  unfold lh;rw[af,List.getElem?_append_right (by rw[aJ];omega),aJ,Nat.add_sub_cancel_left,<-af]
 rw[h,j] at this;exact this.symm
theorem Sx.drew{w0 w:World}{L:List yA}(a:Sx w0 w L):Sx w0 w.drew L:=a.step ((aC _ _).drew)
theorem Sx.cut{w0 w:World}{L:List yA}(a:Sx w0 w L)(M:List yA)(hs:∀e∈M,e∈L):Sx w0 w M:=⟨a.1,λe b=>a.2 e (hs e b)⟩
theorem OwnI.rd2{w:World}{C:Nat}{v:Value}{l:SC}{n:Nat}(b:OwnI w C v l)(d:l.length=n):∃a c,v=slice a n c/\(mR a n (bM l)).ok w/\(a=none->c=0):=by
 subst d;exact jF b
