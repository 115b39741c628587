import Derived.Test.YtgccllbnfngpcaaGreatDoorW4
import Derived.Laws.Cover3
set_option linter.unusedVariables false
set_option maxRecDepth 100000
set_option maxHeartbeats 400000000
namespace Go.Proofs.YtgccllbnfngpcaaGreatDoor
open Go.RowKit _root_.Go.Proofs.Tryz List
open Value (int slice pointer bool)
open IntKind (i64)
open Ending (returned)
open Obj (cells)
theorem J1{xs:PI}{x:Int}{n k:Nat}(a:k<n):Lx xs x k (n-k)=if x<(xs.getD k 0:Int) then k+1 else Lx xs x (k+1) (n-(k+1)):=by
 rw[show n-k=(n-(k+1))+1 by omega,Lx]
theorem CH(xs:PI)(B:Nat)(a:PK)(n c:Nat)(x:Int)(w:World)(k:Rd w B a n (bH xs))(g:xs.length=n)(G:n<=4096)(j:∀i,xs.getD i 0<4611686018427387904)(H: -9223372036854775808<=x/\x<=9223372036854775807):
 Calls prog 308 #[slice a n c,int i64 x] w λb d=>b=returned (int i64 (vn xs x:Nat))/\w=d:=by
 have e:PH (vn xs x=if xs=[]\/x<0\/(xs.getD (n-1) 0:Int)<=x then 0 else Lx xs x 0 n):=ae (by unfold vn;rw[g]);generalize vn xs x=I at*;by_cases u:n=0
 ·subst u
  have d:xs=[]:=eq_nil_of_length_eq_zero g;have b:=e.o;rw[bg (.inl d)] at b;have f:=ae b;clear b k j g d e;go_enter func308,ntmps308;go_wp2_with fail;go_ret;exact⟨by rw[f.o];rfl,rfl⟩
 ·obtain⟨v,y,rfl,J,o⟩:=k.2 (by omega)
  have p:¬xs=[]:=(by rintro rfl;simp at g;omega);have d:∀i,i<n->w.cell? ⟨v,y+i,none⟩=some (int i64 (xs.getD i 0:Nat)):=λi l=>o i _ (bT (by omega));have z:=ae d;have A:=ae j;have K:((n:Int) == 0)=false:=(by rw[beq_eq_false_iff_ne];omega);have L:((n:Int)-1).toNat=n-1:=(by omega);have M:0<=(n:Int)-1:=(by omega);have C:=d (n-1) (by omega);have D:=j (n-1);clear k o j d;by_cases q:x<0
  ·have b:=e.o
   rw[bg (.inr (.inl q))] at b;have f:=ae b;clear b e;go_enter func308,ntmps308;go_wp2_with fail;go_ret;exact⟨by rw[f.o];rfl,rfl⟩
  ·by_cases l:(xs.getD (n-1) 0:Int)<=x
   ·have b:=e.o
    rw[bg (.inr (.inr l))] at b;have f:=ae b;clear b e;generalize xs.getD (n-1) 0=E at*;go_enter func308,ntmps308;go_wp2_with fail;go_ret;exact⟨by rw[f.o];rfl,rfl⟩
   ·have b:=e.o
    rw[bh (by rintro(h | h | h);exact p h;exact q h;exact l h)] at b;have f:=ae b;clear b e p;generalize xs.getD (n-1) 0=E at*;go_enter func308,ntmps308;go_wp2_with fail;clear C D l;go_loopw [5,6,26] (λ_ _ i wr=>∃d:Nat,d<=n/\i=int i64 d/\PH (Lx xs x d (n-d)=Lx xs x 0 n)/\w=wr) (λ_ _ i _=>n-(intOf i).toNat)
    case atStart=>exact⟨0,by omega,rfl,ae rfl,rfl⟩
    case round=>
     obtain⟨d,N,rfl,m,rfl⟩:=hrel;by_cases r:d<n
     ·have O:=z.o d r
      have P:=A.o d;have s:=ae (J1 (xs:=xs) (x:=x) r);generalize xs.getD d 0=F at*;by_cases t:x<(F:Int)
      ·go_wp2_with fail
       go_ret;exact⟨by rw[f.o,<-m.o,s.o,bg t];rfl,rfl⟩
      ·go_wp2_with fail
       go_roundw
       case rel=>exact⟨d+1,by omega,by go_num,ae (by rw[<-m.o,s.o,bh t]),by first | rfl | trivial⟩
       case measure=>simp[intOf];omega
     ·obtain rfl:d=n:=by omega
      go_wp2_with fail;go_ret;exact⟨by rw[f.o,<-m.o,Nat.sub_self];rfl,rfl⟩
def qf(xs:PI)(s:Int):Nat:=if xs=[] then 0 else vn xs (mf s (xs.getD (xs.length-1) 0:Nat))
def nY(xs:PI)(s:Int):Int:=if xs=[] then s else NY s (xs.getD (xs.length-1) 0:Nat)
theorem FU(l:Int):∀i,(jO l).getD i 0<4611686018427387904:=by
 intro i;unfold jO;split
 ·rcases bq i l.toNat with a | a
  ·rw[kW a]
   have:=sum_lt (l:=l.toNat) (k:=i+1) (by omega) a;omega
  ·rw[af,List.getElem?_eq_none (by rw[iz];exact a)];decide
 ·simp
theorem Jq(xs:PI)(B:Nat)(a:PK)(n c:Nat)(s:Int)(p:Addr)(w:World)(g:Rd w B a n (bH xs))(d:xs.length=n)(y:n<=4096)(j:∀i,xs.getD i 0<4611686018427387904)
 (k:w.cell? p=some (.int .u64 s))(l:w.frozen? p=false)(r:B<=p.block\/∃b o,a=some ⟨b,o,none⟩/\b≠p.block):
 Calls prog 242 #[slice a n c,pointer (some p)] w λe f=>e=returned (int i64 (qf xs s:Nat))/\w.setCell p (.int .u64 (nY xs s))=f:=by
 by_cases z:n=0
 ·subst z
  have m:xs=[]:=eq_nil_of_length_eq_zero d;subst m;have q:=ae (jm w p _ k);have f:nY [] s=s:=rfl;rw[f];clear g j f;go_enter func242,ntmps242;go_wp2_with fail;go_ret;exact⟨rfl,q.o⟩
 ·obtain⟨b,o,rfl,E,m⟩:=g.2 (by omega)
  have q:¬xs=[]:=by rintro rfl;simp at d;omega
  have A:b≠p.block:=by
   rcases r with h | ⟨F,G,e,h⟩
   ·omega
   ·simp at e;rw[e.1];exact h
  clear r;have t:qf xs s=vn xs (mf s (xs.getD (n-1) 0:Nat)):=(by unfold qf;rw[bh q,d]);have u:nY xs s=NY s (xs.getD (n-1) 0:Nat):=(by unfold nY;rw[bh q,d]);rw[t,u];have H:=m (n-1) _ (bT (by omega));have I:=j (n-1);have v:∀f,Rd (w.setCell p f) (b+1) (some ⟨b,o,none⟩) n (bH xs):=λf=>⟨g.1,λ_=>⟨b,o,rfl,by omega,λi x C=>(World.cell?_of_block (w:=w) (bE w p f b A)).trans (m i x C)⟩⟩;have J:=sV s (xs.getD (n-1) 0:Nat);have x:=λf=>CH xs (b+1) (some ⟨b,o,none⟩) n c (mf s (xs.getD (n-1) 0:Nat)) (w.setCell p f) (v f) d y j (by omega);have K:((n:Int) == 0)=false:=(by rw[beq_eq_false_iff_ne];omega);have L:((n:Int)-1).toNat=n-1:=(by omega);have M:0<=(n:Int)-1:=(by omega);have f:=λw k l=>uG s (xs.getD (n-1) 0:Nat) p w k l (by omega);generalize vn xs (mf s (xs.getD (n-1) 0:Nat))=N at*;generalize xs.getD (n-1) 0=O at*;have C:=ae x;have D:=ae f;clear g m j v q t u x f d;go_enter func242,ntmps242;go_wp2_with fail;refine(D.o _ k l).mono ?_;rintro e f ⟨rfl,rfl⟩;go_wp2_with fail;refine(C.o _).mono ?_;rintro e f ⟨rfl,rfl⟩;go_wp2_with fail;go_ret;exact⟨rfl,rfl⟩
def yK(n s:Int):PI:=zZ (nY (jO n) s) n (qf (jO n) s:Nat)
theorem Ez(n s:Int):(yK n s).length<=64:=JE _ _ _
theorem ME{n:Nat}(b:1<=n)(a:n<=64)(s:Int):1<=qf (jO n) s/\qf (jO n) s<=n:=by
 rw[yR ⟨b,a⟩];have d:lC n≠[]:=λc=>by have:=iz n;rw[c] at this;simp at this;omega
 unfold qf;rw[bh d,iz,kW (by omega:n-1<n),show n-1+1=n by omega]
 have e:0<ic n n:=by
  have:=AF a (show n-1<n by omega);rw[show n-1+1=n by omega] at this;omega
 have c:(0:Int)<(ic n n:Nat):=by omega
 refine MS b a ?_ ?_
 ·exact(sV _ _).1
 ·rw[uF c];exact Int.emod_lt_of_pos _ c
theorem Cy{n:Nat}(b:1<=n)(c:n<=64)(s:Int):1<=(yK n s).length/\(∀x∈yK n s,x<n)/\(yK n s).Pairwise (·< ·):=by
 obtain⟨d,a⟩:=ME b c s;unfold yK zZ OT;rw[bg (bf (by omega)),Int.toNat_natCast,Int.toNat_natCast];exact⟨by rw[vP a];exact d,Hz a,Be a⟩
def wF(n:Nat)(L:PI):PI:=L.foldl (λa b=>a.set b 1) (replicate n 0)
theorem J0(n:Nat)(L:PI)(x:Nat):wF n (L++[x])=(wF n L).set x 1:=by unfold wF;rw[foldl_append];rfl
theorem Am(n:Nat)(L:PI):(wF n L).length=n/\∀i,i<n->(wF n L).getD i 0=if i∈L then 1 else 0:=by
 unfold wF
 suffices ∀(e:PI) (b:PI) (g:Nat->Prop),b.length=n->(∀i,i<n->(g i/\b.getD i 0=1)\/(¬g i/\b.getD i 0=0))->
  (e.foldl (λb i=>b.set i 1) b).length=n/\∀i,i<n->((g i\/i∈e)/\(e.foldl (λb i=>b.set i 1) b).getD i 0=1)\/(¬(g i\/i∈e)/\(e.foldl (λb i=>b.set i 1) b).getD i 0=0) by
  obtain⟨h,j⟩:=this L (replicate n 0) (λ_=>False) (by simp) (λi f=>.inr ⟨id,by rw[af,List.getElem?_replicate];split <;> rfl⟩);refine⟨h,λi f=> ?_⟩;rcases j i f with⟨a,c⟩ | ⟨a,c⟩
  ·rw[c,bg (by simpa using a)]
  ·rw[c,bh (λd=>a (.inr d))]
 intro e
 induction e with
 | nil=>intro b g h j;exact⟨h,λi f=>by simpa using j i f⟩
 | cons k e m=>
   intro b g h j
   obtain⟨o,p⟩:=m (b.set k 1) (λi=>g i\/i=k) (by rw[length_set];exact h) (λi f=>by
    rw[af,List.getElem?_set];by_cases c:k=i
    ·subst c
     rw[bg rfl,bg (by omega)];exact .inl ⟨.inr rfl,rfl⟩
    ·rw[bh c,<-af]
     rcases j i f with⟨a,l⟩ | ⟨a,l⟩
     ·exact .inl ⟨.inl a,l⟩
     ·exact .inr ⟨λd=>d.elim a λq=>c q.symm,l⟩)
   refine⟨o,λi f=> ?_⟩;rcases p i f with⟨a,c⟩ | ⟨a,c⟩
   ·left
    refine⟨?_,c⟩;rcases a with(a | a) | a
    ·exact .inl a
    ·exact .inr (by rw[a];exact mem_cons_self)
    ·exact .inr (mem_cons_of_mem _ a)
   ·right
    refine⟨λd=>a ?_,c⟩;rcases d with d | d
    ·exact .inl (.inl d)
    ·rcases mem_cons.1 d with d | d
     ·exact .inl (.inr d)
     ·exact .inr d
theorem yL(n:Nat)(L:PI):(wF n L).length=n:=(Am n L).1
theorem EA{n:Nat}{L:PI}{i:Nat}(a:i<n):(wF n L).getD i 0=if i∈L then 1 else 0:=(Am n L).2 i a
def yM(id:Int):Int:=IntKind.u32.wrap (id%4294967296*2654435761)
theorem EB(id:Int):0<=yM id/\yM id<4294967296:=by unfold yM;rw[IntKind.wrap_u32];omega
def qM(s id:Int):Int:=bits .xor .u32 s (yM id)
theorem MF{s id:Int}(a:0<=s)(c:s<4294967296):qM s id=((s.toNat ^^^ (yM id).toNat:Nat):Int):=by
 have b:=EB id;unfold qM;have:=u32_xor_nat s.toNat (yM id).toNat (by omega) (by omega)
 rwa [Int.toNat_of_nonneg a,Int.toNat_of_nonneg b.1] at this
theorem O6{s:Int}(id:Int)(a:0<=s)(b:s<4294967296):0<=qM s id/\qM s id<4294967296:=by
 have c:=EB id;rw[MF a b];have:=Nat.xor_lt_two_pow (n:=32) (x:=s.toNat) (y:=(yM id).toNat) (by omega) (by omega);omega
def gQ(K H S s id:Int):PI:=if fB K H S/\0<=id/\id<=65535 then yK (K+H) (ma (qM s id)) else []
def lM(K H S s id:Int):PI:=if fB K H S/\0<=id/\id<=65535 then wF (K+H).toNat (yK (K+H) (ma (qM s id))) else []
theorem Ao(K H S s id:Int):(gQ K H S s id).length<=64:=by
 unfold gQ;split
 ·exact Ez _ _
 ·simp
def kC(n k a:Nat):Nat->PI
 | 0=>dO n k
 | j+1=>(kC n k a j).set j (ex ((a+1)*(j+1)))
def cG(K H:Nat):Nat->List PI
 | 0=>[]
 | r+1=>cG K H r++[kC (K+H) (K+r) r K]
theorem zu(n k a j:Nat):(kC n k a j).length=n:=by
 induction j with
 | zero=>exact gP _ _
 | succ j b=>rw[kC,length_set];exact b
theorem Ly(n k b j:Nat):By (kC n k b j):=by
 induction j with
 | zero=>exact ng _ _
 | succ j c=>
   intro d e;rcases mem_or_eq_of_mem_set e with a | a
   ·exact c d a
   ·subst a;exact(sj _).2
theorem dP(K H r:Nat):(cG K H r).length=r:=by
 induction r with
 | zero=>rfl
 | succ r a=>rw[cG,aH,a];rfl
theorem Lz(K H r j:Nat):(kC (K+H) (K+r) r j).length=K+H/\By (kC (K+H) (K+r) r j):=⟨zu _ _ _ _,Ly _ _ _ _⟩
theorem tK(K H r:Nat){i:Nat}(c:i<r):(cG K H r).getD i []=kC (K+H) (K+i) i K:=by
 induction r with
 | zero=>omega
 | succ r b=>
   rw[cG,af,List.getElem?_append,dP];by_cases a:i<r
   ·rw[bg a,<-af];exact b a
   ·obtain rfl:i=r:=by omega
    simp
theorem qN(K H r:Nat):Wf (K+H) (cG K H r):=by
 induction r with
 | zero=>intro c a;simp[cG] at a
 | succ r d=>
   intro c a;rw[cG,bz] at a;rcases a with b | b
   ·exact d c b
   ·rw[mem_singleton] at b;subst b;exact Lz _ _ _ _
theorem LC(n:Nat)(a:n<255):exI (n:Int)=ex n:=by
 unfold exI;have:((n:Int)%255).toNat=n:=by omega
 rw[this]
theorem lQ{w:World}{g:Nat}{t:TypeId}{x y z:Value}(a:Blk w g t #[x,y,z]):w.cell? ⟨g,0,none⟩=some x/\w.cell? ⟨g,1,none⟩=some y/\w.cell? ⟨g,2,none⟩=some z:=⟨a.cell 0,a.cell 1,a.cell 2⟩
theorem xP(K H:Nat)(S:Int)(k:1<=K/\K<=16)(l:1<=H/\H<=4)(m:1<=S/\S<=24)(a:Nat)(n:K+H=a)(G:Nat)(c:Array Value)(w:World)(d:Blk w G 25 c):
 Calls prog 232 #[.agg #[int i64 K,int i64 H,int i64 S]] w λe b=>e=returned (int i64 a)/\Blk b G 25 c/\Below w.heap.size w b:=by
 have h:fB K H S=true:=yG (by omega);have i:kM K H S=(a:Nat):=by unfold kM;rw[bg h];omega
 have f:=mi K H S w;rw[i] at f;exact f.mono λe b ⟨j,g⟩=>⟨j,d.below g d.lt,g⟩
theorem xQ(n k:Nat)(G:Nat)(t:TypeId)(c:Array Value)(w:World)(d:Blk w G t c)(i:n<=64)(j:k<n):
 Calls prog 315 #[int i64 n,int i64 k] w λe a=>∃g b,e=returned (slice (some ⟨g,0,none⟩) n b)/\w.heap.size<=g/\OwnB a w.heap.size (slice (some ⟨g,0,none⟩) n b) (dO n k)/\Blk a G t c/\Below w.heap.size w a:=
 (JS n k w i j).mono λe a ⟨m,l,f,h⟩=>by
   obtain⟨g,b,a,e,m⟩:=OwnB.form f (by rw[gP];omega);rw[gP] at a;subst a;exact⟨g,b,l,e,f,d.below h d.lt,h⟩
theorem pJ(K H:Nat)(S:Int)(w:World)(hK:1<=K/\K<=16)(hH:1<=H/\H<=4)(hS:1<=S/\S<=24):
 Calls prog 257 #[dD K H S] w λx a=>∃v,x=returned v/\MOwn a w.heap.size v (cG K H H)/\Below w.heap.size w a:=by
 have n:=(az w.heap.size w).alloc (aj _) (cells #[int i64 K,int i64 H,int i64 S] 25);have d:=Blk.new w 25 #[int i64 K,int i64 H,int i64 S];have b:w.heap.size<(w.alloc (cells #[int i64 K,int i64 H,int i64 S] 25)).heap.size:=by simp
 have e:fB K H S=true:=yG (by omega);have y:=ae n;have g:=ae d;have a:=ae λw=>fK K H S w;have CC:=ae λc m f B w j=>xP K H S hK hH hS c m f B w j;rw[e] at a;clear n d e;unfold dD at a ⊢;go_enter func257,ntmps257;go_wp2_with fail;generalize w.alloc (cells #[int i64 K,int i64 H,int i64 S] 25)=w1 at*;generalize d:w.heap.size=f at*;have V:=ae d;clear d;refine(a.o _).mono ?_;rintro x G ⟨rfl,o⟩;have e:=ae (g.o.below o b);have q:=ae (y.o.trans (o.mono (Nat.le_of_lt b)));have d:f<G.heap.size:=by have:=o.size;omega
 clear o g y a b;go_wp2_with fail;refine(oV _).mono ?_;rintro x I ⟨C,rfl,b,a,z⟩;have l:=ae a;have Q:=ae (e.o.below z d);have D:=ae (q.o.trans (z.mono (Nat.le_of_lt d)));clear z a b e q;have J:=(lQ Q.o).2.1;go_wp2_with fail;clear J d G w1;have W:PH (MOwn I f (slice none 0 0) (cG K H 0)):=ae (MOwn.nil _ _);go_loopw [4,5,6,7,14] (λa _ _ _ i wr=>∃b:Nat,b<=H/\i=int i64 b/\PH (MOwn wr f a (cG K H b))/\PH (Fld wr C)/\PH (Blk wr f 25 #[int i64 K,int i64 H,int i64 S])/\PH (Below f w wr)) (λ_ _ _ _ i _=>H-(intOf i).toNat)
 case atStart=>exact⟨0,by omega,rfl,W,l,Q,D⟩
 case round=>
  clear W l D Q;obtain⟨b,hr,rfl,L,l,g,y⟩:=hrel;rename World=>d;have aK:f<d.heap.size:=Blk.lt g.o;by_cases aL:b<H
  ·have aM:(b:Int)<(H:Int):=by omega
   obtain⟨X,J,Y⟩:=lQ g.o;have ao:=ae X;have ap:=ae J;have aq:=ae Y;obtain⟨c,m⟩:∃c,K+H=c:=⟨_,rfl⟩;obtain⟨e,a⟩:∃e,K+b=e:=⟨_,rfl⟩;have ar:((K:Int)+(b:Int))=(e:Int):=(by omega);have au:e<=64:=(by omega);have Z:IntKind.i64.wrap (e:Int)=(e:Int):=(by rw[IntKind.wrap_i64];omega);have CU:=ae λw j=>xQ c e f 25 #[int i64 K,int i64 H,int i64 S] w j (by omega) (by omega);have R:=ae m;have HQ:=ae a;clear m a;generalize a:d.heap.size=r at*;have s:=ae a;clear a;go_wp2_with fail
   go_region_with (first
    | (go_at_call 232
       refine(CC.o c R.o f _ d.drew g.o).mono ?_;rintro x G ⟨rfl,M,o⟩;obtain⟨k0,k1,k2⟩:=lQ M;have aa:=ae M;have q:=ae o;clear M o)
    | (go_at_call 315
       try rw[Z]
       refine(CU.o _ aa.o).mono ?_;rintro x I ⟨m,N,rfl,u,A,a,z⟩;obtain⟨m0,m1,m2⟩:=lQ a;have av:=ae a;have D:=ae z;have ab:=ae A;have ac:=ae u;clear a z A u))
   all_goals(
    have ad:PH (Below r d I):=ae (by
     have u:Below d.heap.size d d.drew:=below_drewN (az _ _) 1;have O:Below d.heap.size d G:=u.trans q.o;rw[<-s.o];exact O.trans (D.o.mono O.size))
    have aw:r<=m:=(by have u:=s.o;have O:=q.o.size;have h3:=ac.o;have h4:d.drew.heap.size=d.heap.size:=rfl;omega);have ag:PH (OwnB I r (slice (some ⟨m,0,none⟩) c N) (kC c e b 0)):=ae (OwnB.base ab.o (by have u:=s.o;have O:=q.o.size;have h4:d.drew.heap.size=d.heap.size:=rfl;omega));have ai:PH (cG K H (b+1)=cG K H b++[kC c e b K]):=ae (by rw[cG,R.o,HQ.o]);have aO:K<=c:=(by have:=R.o;omega);clear aa q av D ab ac k0 k1 k2 X J Y ao ap aq ar Z CU;go_wp2_with fail;clear m0 m1 m2 au;go_loopw [7,26] (λ_ i E=>∃a:Nat,a<=K/\i=int i64 a/\PH (OwnB E r (slice (some ⟨m,0,none⟩) c N) (kC c e b a))/\PH (Below r d E)) (λ_ i _=>K-(intOf i).toNat)
    case atStart=>exact⟨0,by omega,rfl,ag,ad⟩
    case round=>
     clear ag ad;obtain⟨a,hj,rfl,E,F⟩:=hrel;by_cases aR:a<K
     ·have am:(a:Int)<(K:Int):=by omega
      obtain⟨i,j⟩:∃i,(b+1)*(a+1)=i:=⟨_,rfl⟩;have M:i<=64:=(by rw[<-j];exact bn (show b+1<=4 by omega) (show a+1<=16 by omega));have an:((b:Int)+1)*((a:Int)+1)=(i:Int):=(by rw[<-j];simp);have ax:IntKind.i64.wrap (i:Int)=(i:Int):=(by rw[IntKind.wrap_i64];omega);have T:=ae (OC C i (by omega) wr (l.o.below F.o (by have:=Blk.lt l.o;rw[s.o] at this;exact this)));rw[LC i (by omega)] at T;have ak:PH (kC c e b (a+1)=(kC c e b a).set a (ex i)):=ae (by rw[kC,j]);have HX:=ae j;have ay:(a:Int)<(c:Int):=(by omega);clear j;generalize ex i=P at*;go_wp2_with fail;refine T.o.mono ?_;rintro x w5 ⟨rfl,j,rfl⟩;have U:(kC c e b a).length=c:=zu _ _ _ _;obtain⟨cc,cf⟩:=OwnB.cell (E.o.drewN j) U (k:=a) (by omega);have HS:=ae (OwnB.stored (E.o.drewN j) U a P);clear U;go_wp2_with fail;have U:PH (OwnB ((wr.drewN j).setCell ⟨m,a,none⟩ (.int .u8 (P:Nat))) r (slice (some ⟨m,0,none⟩) c N) (kC c e b (a+1))):=ae (by rw[ak.o];exact HS.o.1);have al:PH (Below r d ((wr.drewN j).setCell ⟨m,a,none⟩ (.int .u8 (P:Nat)))):=ae (Below.setCell (below_drewN F.o j) (p:=⟨m,a,none⟩) aw _);clear HS ak E F T cc cf;generalize (wr.drewN j).setCell ⟨m,a,none⟩ (.int .u8 (P:Nat))=w5 at*;go_wp2_with fail;go_roundw
      case rel=>exact⟨a+1,by omega,by go_num,U,al⟩
      case measure=>simp[intOf];omega
     ·obtain rfl:a=K:=by omega
      have ax:(cG a H b).length<=1000000:=(by rw[dP];omega);have ay:f<=d.heap.size:=(by rw[s.o];omega);have j:PH (Below d.heap.size d wr):=ae (by rw[s.o];exact F.o);have U:PH (OwnB wr d.heap.size (slice (some ⟨m,0,none⟩) c N) (kC c e b a)):=ae (by rw[s.o];exact E.o);have ak:PH (Fld wr C):=ae (l.o.below j.o (Blk.lt l.o));have al:PH (Blk wr f 25 #[int i64 a,int i64 H,int i64 S]):=ae (g.o.below j.o (Blk.lt g.o))
      go_wp2_with (at_builtin;refine rq (w0:=d) (w1:=wr) rfl _ _ rfl L.o j.o U.o ay ax rfl rfl ?_)
      intro v' w6 P am T aA;rw[<-ai.o] at P;have aB:=ae P;have aD:=ae (y.o.trans am);obtain⟨vs,an⟩:=L.o
      have A:u4.ownBlock=none\/∃i B,u4.ownBlock=some i/\Blk d i 30 B:=by
       rcases an.hd.2 with⟨u,_⟩ | ⟨i,aS,aT,u,_,n,_⟩
       ·rw[u];exact .inl rfl
       ·rw[u];exact .inr ⟨i,_,rfl,n⟩
      have aE:PH (Fld w6 C):=ae (by
       refine Blk.grown (Blk.alloc ak.o _) T ?_;rcases A with h | ⟨i,B,h,n⟩
       ·rw[h];simp
       ·rw[h]
        have:C≠i:=Blk.ne (t:=337) (t':=30) l.o n (by decide);simpa using this)
      have aF:PH (Blk w6 f 25 #[int i64 a,int i64 H,int i64 S]):=ae (by
       refine Blk.grown (Blk.alloc al.o _) T ?_;rcases A with h | ⟨i,B,h,n⟩
       ·rw[h];simp
       ·rw[h]
        have:f≠i:=Blk.ne (t:=25) (t':=30) g.o n (by decide);simpa using this)
      clear P am T aA L F j E U ak al ai l y g A an;go_wp2_with fail;go_roundw
      case rel=>exact⟨b+1,by omega,by go_num,aB,aE,aF,aD⟩
      case measure=>simp[intOf];omega)
  ·obtain rfl:b=H:=by omega
   go_wp2_with fail;go_ret;exact⟨_,rfl,by rw[V.o];exact L.o,by rw[V.o];exact y.o⟩
theorem sX_at(f:Nat->Nat->Nat)(j:Nat)(l:PI):sX (λa _=>f a j) 0 l=sX f j l:=by
 induction l with
 | nil=>rfl
 | cons a l b=>show f a j ^^^ sX (λa _=>f a j) 0 l=f a j ^^^ sX f j l;rw[b]
theorem kw{K H Z:Nat}{s id:Int}(b:fB K H Z=true):(∀c∈gQ K H Z s id,c<K+H)/\(gQ K H Z s id).Pairwise (·< ·):=by
 have d:=ba b;unfold gQ;split
 ·have a:=Cy (n:=K+H) (by omega) (by omega) (ma (qM s id))
  rw[Int.natCast_add] at a;exact⟨a.2.1,a.2.2⟩
 ·exact⟨by simp,List.Pairwise.nil⟩
theorem mg{l:PI}(a:l.Pairwise (·< ·)):l.Nodup:=a.imp λa=>Nat.ne_of_lt a
theorem tq{K H Z:Nat}{s id:Int}(b:fB K H Z=true)(c:0<=id)(d:id<=65535):(lM K H Z s id).length=K+H/\By (lM K H Z s id)/\(∀i,i<K+H->(lM K H Z s id).getD i 0=if i∈gQ K H Z s id then 1 else 0)/\1<=(gQ K H Z s id).length:=by
 have k:=ba b;unfold lM gQ;rw[bg ⟨b,c,d⟩,bg ⟨b,c,d⟩,show((K:Int)+(H:Int)).toNat=K+H by omega];have e:=Cy (n:=K+H) (by omega) (by omega) (ma (qM s id));rw[Int.natCast_add] at e;refine⟨yL _ _,λl h=> ?_,λi a=>EA a,e.1⟩;obtain⟨i,a,rfl⟩:=bC h;have f:=a;rw[yL] at f;have g:=EA (L:=yK ((K:Int)+(H:Int)) (ma (qM s id))) f;rw[af,ah a] at g;have j:(wF (K+H) (yK ((K:Int)+(H:Int)) (ma (qM s id))))[i]=if i∈yK ((K:Int)+(H:Int)) (ma (qM s id)) then 1 else 0:=g;rw[j];split <;> decide
def eP(K H Z:Nat)(s:Int)(ids:PI):List PI:=cG K H H++ids.map λa=>lM K H Z s (a:Nat)
theorem mY{K H Z:Nat}{s:Int}{ids:PI}(b:fB K H Z=true)(c:∀i∈ids,i<=65535):Wf (K+H) (eP K H Z s ids):=by
 intro d a;rcases bz.1 a with a | a
 ·exact qN K H H d a
 ·obtain⟨i,e,rfl⟩:=aY.1 a
  have f:=c i e;have:=tq (s:=s) (id:=(i:Nat)) b (by omega) (by omega);exact⟨this.1,this.2.1⟩
theorem qh(K H Z:Nat)(s:Int)(ids:PI):(eP K H Z s ids).length=H+ids.length:=by unfold eP;rw[aH,aC,dP]
def gN(K H Z:Nat)(s:Int)(m:List PI)(id:Nat):PI:=bR (λa=>m.getD a []) (gQ K H Z s (id:Nat)) (replicate Z 0)
def jU(H Z:Nat)(a:List PI):List PI:=replicate H (replicate Z 0)++a
theorem Em{H Z:Nat}{b:List PI}(c:Wf Z b):Wf Z (jU H Z b):=by
 intro d a;rcases bz.1 a with a | a
 ·rw[eq_of_mem_replicate a];exact⟨aI,By.zeros Z⟩
 ·exact c d a
structure MidOK (K H Z:Nat) (s:Int) (m:List PI):Prop where
 wf:Wf Z m
 len:m.length=K+H
 pre:∀h,h<H->∀j,dN (vO (kC (K+H) (K+h) h K)) (fun c=>(m.getD c []).getD j 0) (K+H)=0
theorem MidOK.row{K H Z:Nat}{s:Int}{m:List PI}(a:MidOK K H Z s m){c:Nat}(b:c<K+H):(m.getD c []).length=Z/\By (m.getD c []):=a.wf.get (by rw[a.len];exact b)
theorem MidOK.vb{K H Z:Nat}{s:Int}{m:List PI}(c:MidOK K H Z s m)(j:Nat):Vb λa=>(m.getD a []).getD j 0:=λa=>by
 rcases bq a (K+H) with b | b
 ·exact getD_lt (c.row b).2 j
 ·have d:m.getD a []=[]:=by rw[af,List.getElem?_eq_none (by rw[c.len];exact b)];rfl
  show((m.getD a []).getD j 0)<256;rw[d];show(0:Nat)<256;decide
theorem jJ{K H Z:Nat}{s:Int}{m:List PI}(a:fB K H Z=true)(b:MidOK K H Z s m)(id:Nat):(gN K H Z s m id).length=Z:=eQ aI λc d=>(b.row ((kw a).1 c d)).1
theorem En{K H Z:Nat}{s:Int}{m:List PI}(a:fB K H Z=true)(b:MidOK K H Z s m)(id:Nat):By (gN K H Z s m id):=(dF (D:=Z) (Byt.zero Z) λc d=>b.row ((kw a).1 c d)).2
theorem JF{K H Z:Nat}{s:Int}{m:List PI}(b:fB K H Z=true)(c:MidOK K H Z s m){id:Nat}(h:id<=65535)(j:Nat):(gN K H Z s m id).getD j 0=dN (vO (lM K H Z s (id:Nat))) (λa=>(m.getD a []).getD j 0) (K+H):=by
 obtain⟨i,k,e,_⟩:=tq (s:=s) (id:=(id:Nat)) b (by omega) (by omega);obtain⟨d,f⟩:=kw (s:=s) (id:=(id:Nat)) b;unfold gN;rw[iQ j aI λa g=>(c.row (d a g)).1,fP (vO _),uL (c.vb j) (mg f) d e];have g:(replicate Z 0).getD j 0=0:=by rw[af,List.getElem?_replicate];split <;> rfl
 rw[g,Nat.zero_xor];exact(sX_at (λa j=>(m.getD a []).getD j 0) j _).symm
theorem OV{K H Z:Nat}{s:Int}{a:List PI}(d:fB K H Z=true)(k:Wf Z a)(o:a.length=K)(p:(dS (eP K H Z s (range K))).length=K+H):
 jH (K+H) (eP K H Z s (range K)) (jU H Z a)=0/\MidOK K H Z s (jI (K+H) (eP K H Z s (range K)) (jU H Z a))/\∀i,i<K->gN K H Z s (jI (K+H) (eP K H Z s (range K)) (jU H Z a)) i=a.getD i []:=by
 have y:=ba d;have q:Wf (K+H) (eP K H Z s (range K)):=mY d λi f=>by have:=bA.1 f;omega
 have m:(eP K H Z s (range K)).length=K+H:=by rw[qh,aZ];omega
 have r:(jU H Z a).length=K+H:=by unfold jU;rw[aH,aI,o];omega
 obtain⟨t,u,v,n⟩:=NA q (Em (H:=H) k) (by rw[m,r]) m (by omega) p;generalize jI (K+H) (eP K H Z s (range K)) (jU H Z a)=w at*
 have g:MidOK K H Z s w:=by
  refine⟨u,v,λb e c=> ?_⟩;have:=n b (by omega) c
  have h:(eP K H Z s (range K)).getD b []=kC (K+H) (K+b) b K:=by
   unfold eP;rw[af,List.getElem?_append_left (by rw[dP];exact e),<-af];exact tK K H H e
  have j:((jU H Z a).getD b []).getD c 0=0:=by
   unfold jU;rw[af (l:=_++_),List.getElem?_append_left (by rw[aI];exact e),List.getElem?_replicate,bg e];show(replicate Z 0).getD c 0=0;rw[af,List.getElem?_replicate];split <;> rfl
  rw[h,j] at this;exact this.symm
 refine⟨t,g,λi f=> ?_⟩;have x:a.getD i []∈a:=by rw[af,ah (by omega)];exact aQ _
 refine iM (by rw[jJ d g,(k _ x).1]) λc=> ?_;rw[JF d g (by omega)];have:=n (H+i) (by omega) c
 have h:(eP K H Z s (range K)).getD (H+i) []=lM K H Z s (i:Nat):=by
  unfold eP;rw[af,List.getElem?_append_right (by rw[dP];omega),dP,Nat.add_sub_cancel_left,List.getElem?_map,List.getElem?_range f];rfl
 have j:(jU H Z a).getD (H+i) []=a.getD i []:=by
  unfold jU;rw[af,List.getElem?_append_right (by rw[aI];omega),aI,Nat.add_sub_cancel_left,<-af]
 rw[h,j] at this;exact this.symm
theorem Sx.drew{w0 w:World}{L:List wH}(a:Sx w0 w L):Sx w0 w.drew L:=a.step ((az _ _).drew)
theorem Sx.cut{w0 w:World}{L:List wH}(a:Sx w0 w L)(M:List wH)(hs:∀e∈M,e∈L):Sx w0 w M:=⟨a.1,λe b=>a.2 e (hs e b)⟩
theorem OwnI.rd2{w:World}{C:Nat}{v:Value}{l:PI}{n:Nat}(b:OwnI w C v l)(d:l.length=n):∃a c,v=slice a n c/\(mF a n (bH l)).ok w/\(a=none->c=0):=by
 subst d;exact jM b
def qW(l:PI):List Value:=l.map λa:Nat=>Value.int .u8 a
def lZ(l:PI):Array Value:=(qW l).toArray
theorem BL{l:PI}{i:Nat}(a:i<l.length):(qW l)[i]? =some (.int .u8 (l.getD i 0:Nat)):=by
 unfold qW;rw[List.getElem?_map,ah a,af,ah a];rfl
theorem I0(l:PI)(i x:Nat):(lZ l).setIfInBounds i (.int .u8 (x:Nat))=lZ (l.set i x):=by
 apply Array.ext';simp[lZ,qW]
theorem Ow(n:Nat):madeCells #[Value.int .u8 0] n=lZ (replicate n 0):=by
 apply Array.ext (by rw[size_madeCells];simp[lZ,qW]);intro b a c;rw[size_madeCells] at a;simp[lZ,qW,madeCells,Nat.mod_one]
theorem nQ{w:World}{g:Nat}{t:TypeId}{x y z:Value}(a:Blk w g t #[x,y,z]):w.cell? ⟨g,0,none⟩=some x/\w.cell? ⟨g,1,none⟩=some y/\w.cell? ⟨g,2,none⟩=some z:=⟨a.cell 0,a.cell 1,a.cell 2⟩
theorem LW{K H S s id:Int}(a:¬(fB K H S/\0<=id/\id<=65535)):gQ K H S s id=[]:=by unfold gQ;rw[bh a]
theorem Eg{K H S:Int}(b:fB K H S=true):∃n:Nat,kM K H S=(n:Int)/\K+H=(n:Int)/\2<=n/\n<=20:=by
 have d:=ba b;obtain⟨n,c⟩:=Int.eq_ofNat_of_zero_le (a:=K+H) (by omega);exact⟨n,by unfold kM;rw[bg b];exact c,c,by omega,by omega⟩
theorem FB{K H S id:Int}(b:¬(fB K H S/\0<=id/\id<=65535)):fB K H S=false\/(fB K H S=true/\id<0)\/(fB K H S=true/\¬id<0/\65535<id):=by
 cases hk:fB K H S with
 | false=>exact .inl rfl
 | true=>
   right;by_cases a:id<0
   ·exact .inl ⟨rfl,a⟩
   ·exact .inr ⟨rfl,a,by
     by_cases c:65535<id
     ·exact c
     ·exact absurd ⟨hk,by omega,by omega⟩ b⟩
theorem BN(K H S s id:Int)(w:World)(h:¬(fB K H S/\0<=id/\id<=65535)):
 Calls prog 176 #[dD K H S,.int .u32 s,int i64 id] w λc a=>c=returned (slice none 0 0)/\Below w.heap.size w a:=by
 have a:=ae λw=>fK K H S w;have d:=ae ((az w.heap.size w).alloc (aj _) (cells #[int i64 K,int i64 H,int i64 S] 25));unfold dD at a ⊢;rcases FB h with b | ⟨b,f⟩ | ⟨b,f,i⟩
 all_goals(
  rw[b] at a;clear h b;go_enter func176,ntmps176;go_wp2_with fail;generalize w.alloc (cells #[int i64 K,int i64 H,int i64 S] 25)=j at*;refine(a.o _).mono ?_;rintro c k ⟨rfl,e⟩;have g:=ae (d.o.trans (e.mono d.o.size));clear e a;go_wp2_with fail;go_ret;exact⟨rfl,g.o⟩)
theorem I1{w:World}{C n:Nat}{v:Value}(a:OwnI w C v (jO n))(e:1<=n)(f:n<=64):∃g c,v=slice (some ⟨g,0,none⟩) n c/\C<=g/\g<w.heap.size/\Rd w w.heap.size (some ⟨g,0,none⟩) n (bH (jO n))/\(jO n).length=n:=by
 have b:(jO (n:Int)).length=n:=by rw[yR ⟨e,f⟩,iz]
 obtain⟨j,c,rfl,d⟩:=a.rd;rw[b] at a d ⊢;obtain⟨g,rfl,h,i⟩:=a.formA b (by omega);exact⟨g,c,rfl,h,i,d,rfl⟩
theorem rU(K H S s id:Int)(w:World)(i:fB K H S=true)(M:0<=id)(N:id<=65535)(t:0<=s)(u:s<4294967296):
 Calls prog 176 #[dD K H S,.int .u32 s,int i64 id] w λd a=>∃v,d=returned v/\OwnI a w.heap.size v (yK (K+H) (ma (qM s id)))/\Below w.heap.size w a:=by
 obtain⟨b,a,e,k,l⟩:=Eg i;have c:=ae λw=>fK K H S w;have f:=ae ((az w.heap.size w).alloc (aj _) (cells #[int i64 K,int i64 H,int i64 S] 25));have j:=ae (Blk.new w 25 #[int i64 K,int i64 H,int i64 S]);have g:=ae λw=>mi K H S w;rw[i] at c;rw[a] at g;rw[e];have m:=O6 id t u;have O:¬id<0:=by omega
 have P:¬65535<id:=by omega
 have Q:bits .xor .u32 s (IntKind.u32.wrap (id%4294967296*2654435761))=qM s id:=rfl;have R:bits .xor .u32 s (IntKind.u32.wrap (id*2654435761))=qM s id:=by unfold qM yM;rw[show id%4294967296=id by omega]
 have T:bits .xor .u32 s (id*2654435761%4294967296)=qM s id:=by unfold qM yM;rw[show id%4294967296=id by omega,IntKind.wrap_u32]
 unfold dD at c g ⊢;unfold yK;have x:=ae m;have y:=ae (And.intro k l);have U:b<=64:=by omega
 clear i a e k l t u m;generalize qM s id=a at*;go_enter func176,ntmps176;go_wp2_with fail;generalize w.alloc (cells #[int i64 K,int i64 H,int i64 S] 25)=V at*;refine(c.o _).mono ?_;rintro d W ⟨rfl,e⟩;have k:=ae (f.o.trans (e.mono f.o.size));have F:=ae (j.o.below e j.o.lt);obtain⟨X,Y,Z⟩:=nQ F.o;clear e c f j;go_wp2_with fail;refine(g.o _).mono ?_;rintro d f ⟨rfl,e⟩;have c:=ae (k.o.trans (e.mono k.o.size));clear e g k;go_wp2_with fail;refine(Jr a f x.o.1 (by have:=x.o.2;omega)).mono ?_;rintro d j ⟨rfl,rfl⟩;have g:=ae (At.new f (.int .u64 a) 371);have o:=ae (c.o.alloc c.o.size (cells #[.int .u64 a] 371));have k:w.heap.size<=f.heap.size:=c.o.size;clear c;generalize f.alloc (cells #[.int .u64 a] 371)=j at*;generalize f.heap.size=c at*;go_wp2_with fail;refine(wV a ⟨c,0,none⟩ j g.o.1 g.o.2).mono ?_;rintro d l ⟨rfl,rfl⟩;have m:=ae (g.o.put (.int .u64 (ma a)));have n:=ae (o.o.setCell (p:=⟨c,0,none⟩) k (.int .u64 (ma a)));clear g o;generalize j.setCell ⟨c,0,none⟩ (.int .u64 (ma a))=l at*;have G:c<l.heap.size:=m.o.lt;go_wp2_with fail;refine(Hg b (by omega) l).mono ?_;rintro d o ⟨v,rfl,z,q⟩;obtain⟨r,I,rfl,aa,J,A,B⟩:=I1 z (by have:=y.o;omega) (by have:=y.o;omega);have C:=ae A;have D:=ae B;have g:=ae (m.o.below q G);have E:=ae (n.o.trans (q.mono n.o.size));have L:=ae (FU b);clear z A B q m n J;go_wp2_with fail;refine(Jq (jO b) o.heap.size (some ⟨r,0,none⟩) b I (ma a) ⟨c,0,none⟩ o C.o D.o (by omega) L.o g.o.1 g.o.2 (.inr ⟨r,0,rfl,by show r≠c;omega⟩)).mono ?_;rintro d m ⟨rfl,rfl⟩;have n:=ae (g.o.put (.int .u64 (nY (jO b) (ma a))));have q:=ae (E.o.setCell (p:=⟨c,0,none⟩) k (.int .u64 (nY (jO b) (ma a))));clear g E C D;generalize o.setCell ⟨c,0,none⟩ (.int .u64 (nY (jO b) (ma a)))=m at*;go_wp2_with fail;refine(Mk c 0 (nY (jO b) (ma a)) b (qf (jO b) (ma a)) m n.o).mono ?_;rintro d D ⟨v,rfl,g,z⟩;obtain⟨E,J,rfl⟩:=g.lenA;have A:=ae g;have B:=ae (Aft.below n.o z q.o k);have C:w.heap.size<=m.heap.size:=q.o.size;clear g z;go_wp2_with fail;go_ret;exact⟨_,rfl,A.o.base C,B.o⟩
theorem xY(K H S s id:Int)(w:World)(d:0<=s)(e:s<4294967296):
 Calls prog 176 #[dD K H S,.int .u32 s,int i64 id] w λb c=>∃v,b=returned v/\OwnI c w.heap.size v (gQ K H S s id)/\Below w.heap.size w c:=by
 by_cases a:fB K H S/\0<=id/\id<=65535
 ·have b:gQ K H S s id=yK (K+H) (ma (qM s id)):=by unfold gQ;rw[bg a]
  rw[b];exact rU K H S s id w a.1 a.2.1 a.2.2 d e
 ·rw[LW a]
  exact(BN K H S s id w a).mono λb c ⟨f,g⟩=>⟨_,f,OwnI.nil _ _,g⟩
theorem infoY:(prog.info? 5).map (λa=>(a.zero,a.size,a.bytes))=some (some (.int .u8 0),1,1):=by kernel_rfl
theorem Ox{n:Nat}(g:n<=1000000)(w:World):(Instr.makeSlice 30 (int i64 (n:Int)) (int i64 (n:Int))).run prog w=.ok (slice (some ⟨w.heap.size,0,none⟩) n n) (w.alloc (cells (lZ (replicate n 0)) 5)):=by
 obtain⟨b,c,d,e,f⟩:=info_parts infoY;have a:=run_make (P:=prog) w 30 5 b (.int .u8 0) underlying30 c d .i64 .i64 (n:Int) (n:Int) (by omega) (by omega) (by rw[f];omega) (by omega);rw[e,Nat.mul_one,Int.toNat_natCast] at a;rw[<-Ow];exact a
theorem OwnI.far{w:World}{C:Nat}{v:Value}{l:PI}(b:OwnI w C v l){B:Nat}(e:B<C)(i:Nat)(u:Value):OwnI (w.setCell ⟨B,i,none⟩ u) C v l:=by
 have c:w.grownBy (w.setCell ⟨B,i,none⟩ u) (some B):=⟨rfl,rfl,rfl,by simp,λa _ d=>heap_setCell_other w ⟨B,i,none⟩ a u (λa=>d (by rw[a]))⟩;refine World.ownsRow.kept b c ?_;cases hv:v.ownBlock with
 | none=>exact .inl rfl
 | some d=>
   right;intro a;have:=(OwnI.ltA b d hv).1;injection a with a;omega
theorem BO(K H S s id:Int)(w:World)(o:fB K H S=true)(T:0<=id)(U:id<=65535)(D:0<=s)(E:s<4294967296):
 Calls prog 277 #[dD K H S,.int .u32 s,int i64 id] w λt a=>∃g n,t=returned (slice (some ⟨g,0,none⟩) n n)/\Blk a g 5 (lZ (wF (K+H).toNat (yK (K+H) (ma (qM s id)))))/\(K+H).toNat=n/\Below w.heap.size w a:=by
 obtain⟨n,b,d,k,q⟩:=Eg o;have a:=ae λw=>fK K H S w;have f:=ae ((az w.heap.size w).alloc (aj _) (cells #[int i64 K,int i64 H,int i64 S] 25));have j:=ae (Blk.new w 25 #[int i64 K,int i64 H,int i64 S]);have c:=ae λw=>mi K H S w;have m:=ae λw=>rU K H S s id w o T U D E;rw[o] at a;rw[b] at c;rw[d] at m ⊢;rw[Int.toNat_natCast];have V:n<=64:=by omega
 obtain⟨-,e,-⟩:=Cy (n:=n) (by omega) V (ma (qM s id));have W:=Ez n (ma (qM s id));have ad:¬id<0:=by omega
 have ag:¬65535<id:=by omega
 have u:=Ox (n:=n) (by omega);unfold dD at a c m ⊢;have X:=ae e;clear o b d k q D E e;generalize yK (n:Int) (ma (qM s id))=b at*;obtain⟨e,d⟩:∃e,b.length=e:=⟨_,rfl⟩;have q:=ae d;rw[d] at W;clear d;go_enter func277,ntmps277;go_wp2_with fail;generalize w.alloc (cells #[int i64 K,int i64 H,int i64 S] 25)=w0 at*;refine(a.o _).mono ?_;rintro t w1 ⟨rfl,d⟩;have r:=ae (f.o.trans (d.mono f.o.size));have v:=ae (j.o.below d j.o.lt);obtain⟨x,y,z⟩:=nQ v.o;clear d a f j;go_wp2_with fail;refine(c.o _).mono ?_;rintro t j ⟨rfl,d⟩;have k:=ae (r.o.trans (d.mono r.o.size));have F:=ae (v.o.below d v.o.lt);clear d c r x y z;obtain⟨x,y,z⟩:=nQ F.o;obtain⟨a,f,A⟩:=nQ (F.o.alloc (cells (lZ (replicate n 0)) 5))
 go_wp2_with (simp only[])
 have c:PH (Blk (j.alloc (cells (lZ (replicate n 0)) 5)) j.heap.size 5 (lZ (wF n (b.take 0)))):=ae (Blk.new j 5 (lZ (replicate n 0)));have r:=ae (k.o.alloc k.o.size (cells (lZ (replicate n 0)) 5));have Y:w.heap.size<=j.heap.size:=k.o.size;clear k u x y z a f A;generalize j.alloc (cells (lZ (replicate n 0)) 5)=A at*;generalize j.heap.size=f at*;have G:f<A.heap.size:=c.o.lt;refine(m.o A).mono ?_;rintro t w4 ⟨ai,rfl,a,d⟩;obtain⟨Z,I,rfl⟩:=a.lenA;rw[q.o] at a ⊢;have J:=ae a;have L:=ae (c.o.below d G);have M:=ae (r.o.trans (d.mono r.o.size));generalize A.heap.size=N at*;clear a d c r m;generalize a:w.heap.size=O at*;have HG:=ae a;clear a;go_wp2_with fail;go_loopw [29] (λi wr=>∃a:Nat,a<=e/\i=int i64 a/\PH (Blk wr f 5 (lZ (wF n (b.take a))))/\PH (OwnI wr N (slice Z e I) b)/\PH (Below O w wr)) (λi _=>e-(intOf i).toNat)
 case atStart=>exact⟨0,by omega,rfl,L,J,M⟩
 case round=>
  clear L J M;obtain⟨a,o,rfl,m,u,B⟩:=hrel;by_cases P:a<e
  ·have ak:(a:Int)<(e:Int):=by omega
   have r:a<b.length:=(by rw[q.o];exact P);obtain⟨g,rfl,al,am⟩:=u.o.formA q.o (by omega);obtain⟨an,-⟩:=u.o.cellA q.o P;have aa:b.getD a 0<n:=X.o _ (by rw[getD_at r];exact aQ r);have Q:PH (wF n (b.take (a+1))=(wF n (b.take a)).set (b.getD a 0) 1):=ae (by rw[aN r,J0,getD_at r]);have R:=yL n (b.take a);generalize C:b.getD a 0=c at*;clear C
   have ao:wr.cell? ⟨f,c,none⟩=some (.int .u8 ((wF n (b.take a)).getD c 0:Nat)):=by
    rw[m.o.cell c];have:=BL (l:=wF n (b.take a)) (i:=c) (by rw[R];exact aa);simpa[lZ] using this
   have ap:=m.o.frozen c;have C:=m.o.set c (.int .u8 ((1:Nat):Int));rw[I0,<-Q.o] at C;have ab:PH (Blk (wr.setCell ⟨f,c,none⟩ (.int .u8 1)) f 5 (lZ (wF n (b.take (a+1))))):=ae C;have ac:PH (OwnI (wr.setCell ⟨f,c,none⟩ (.int .u8 1)) N (slice (some ⟨g,0,none⟩) e I) b):=ae (u.o.far G c (.int .u8 1));have k:PH (Below O w (wr.setCell ⟨f,c,none⟩ (.int .u8 1))):=ae (B.o.setCell (p:=⟨f,c,none⟩) Y _);have aq:(c:Int)<(n:Int):=(by omega);clear C Q R m u B r;generalize (wF n (b.take a)).getD c 0=r at*;go_wp2_with fail;go_roundw
   case rel=>exact⟨a+1,by omega,by go_num,ab,ac,k⟩
   case measure=>simp[intOf];omega
  ·obtain rfl:a=e:=by omega
   rw[aJ (by rw[q.o];exact aj _)] at m;go_wp2_with fail;go_ret;exact⟨_,_,rfl,m.o,rfl,by rw[HG.o];exact B.o⟩
theorem GK(K H Z:Nat)(s:Int){ids:PI}{k:Nat}(a:k<ids.length):(eP K H Z s (ids.take (k+1))).map rB=(eP K H Z s (ids.take k)).map rB++[rB (lM K H Z s (ids.getD k 0:Nat))]:=by
 unfold eP;rw[aN a,aU (l:=ids.take k),<-append_assoc,aU (k:=[ids[k]].map _),af,ah a];rfl
theorem MU{K H Z:Nat}{s id:Int}(a:fB K H Z=true)(b:0<=id)(c:id<=65535):wF ((K:Int)+H).toNat (yK (K+H) (ma (qM s id)))=lM K H Z s id:=by unfold lM;rw[bg ⟨a,b,c⟩]
theorem iA{w:World}{B:Nat}{a:PK}{n:Nat}{l:PI}(c:Rd w B a n (bH l)){i:Nat}(g:i<n):∃b o,a=some ⟨b,o,none⟩/\b<B/\w.cell? ⟨b,o+i,none⟩=some (int i64 (l.getD i 0:Nat)):=by
 have h:l.length=n:=by have:=c.len;simpa[bH] using this
 obtain⟨b,o,d,e,f⟩:=c.2 (by omega);exact⟨b,o,d,e,f i _ (by unfold bH;rw[List.getElem?_map,af,ah (by omega)];rfl)⟩
theorem oz(K H Z:Nat)(s:Int)(ids:PI)(a:PK)(n c:Nat)(w:World)(f:fB K H Z=true)(S:0<=s)(T:s<4294967296)(g:Rd w w.heap.size a n (bH ids))(x:∀i∈ids,i<=65535)(hn:n<=1000):
 Calls prog 217 #[dD K H Z,.int .u32 s,slice a n c] w λo b=>∃v,o=returned v/\(rM (eP K H Z s ids)).ok b Any [v]/\Below w.heap.size w b:=by
 have e:=ba f;have d:ids.length=n:=by have:=g.len;simpa[bH] using this
 have b:=ae λw=>pJ K H Z w (by omega) (by omega) (by omega);have y:=ae λ(id:Nat) (z:id<=65535) w=>BO K H Z s id w f (by omega) (by omega) S T;have U:=ae x;have A:=ae d;have B:=ae f;have HX:=ae g
 have V:PH (Sx w (w.alloc (cells #[int i64 K,int i64 H,int i64 Z] 25)) [bS w.heap.size 25 #[int i64 K,int i64 H,int i64 Z],mF a n (bH ids)]):=
  ae (((((Sx.nil w).add (mF a n (bH ids)) g).alloc _).add (bS _ _ _) (Blk.new w 25 #[int i64 K,int i64 H,int i64 Z])))
 have al:H<=4:=by omega
 have am:K<=16:=by omega
 clear g x d e f;unfold dD at b y ⊢;go_enter func217,ntmps217;go_wp2_with fail;generalize w.alloc (cells #[int i64 K,int i64 H,int i64 Z] 25)=j at*;refine(b.o _).mono ?_;rintro o W ⟨X,rfl,e,p⟩;have C:=ae p
 have d:PH (OwnS W j.heap.size 30 1 Any X ((eP K H Z s (ids.take 0)).map rB)):=ae (by
  have:=(Gg e).base (aj _) (G:=Any) λ_ _=>trivial;unfold eP;rw[take_zero,map_nil,append_nil];exact this)
 obtain⟨b1,n1,an,rfl⟩:=d.o.sl;generalize w.heap.size=P at*;clear e p b;go_wp2_with fail;go_loopw [7,15] (λv i wr=>∃b:Nat,b<=n/\i=int i64 b/\PH (OwnS wr j.heap.size 30 1 Any v ((eP K H Z s (ids.take b)).map rB))/\PH (Below j.heap.size j wr)) (λ_ i _=>n-(intOf i).toNat)
 case atStart=>exact⟨0,by omega,rfl,d,C⟩
 case round=>
  clear d C;obtain⟨b,ao,rfl,d,k⟩:=hrel;have l:=ae (V.o.step k.o);obtain⟨D,E,F,rfl⟩:=d.o.sl;by_cases I:b<n
  ·have ap:(b:Int)<(n:Int):=by omega
   have m:b<ids.length:=(by rw[A.o];exact I);obtain⟨q,aq,rfl,p,Y⟩:=iA (l.o.rd 1 rfl) I;have z:ids.getD b 0<=65535:=U.o _ (by rw[getD_at m];exact aQ m);have aa:=ae (GK K H Z s m);have ab:((eP K H Z s (ids.take b)).map rB).length<=1000000:=(by rw[aC,qh,aG];omega);have ac:=ae (MU (s:=s) (id:=(ids.getD b 0:Nat)) B.o (by omega) (by omega));have J:=ae (tq (s:=s) (id:=(ids.getD b 0:Nat)) B.o (by omega) (by omega));obtain⟨k0,k1,k2⟩:=nQ (l.o.blk 0 rfl);generalize ids.getD b 0=e at*;clear m;go_wp2_with fail;refine(y.o e z wr).mono ?_;rintro o L ⟨M,n3,rfl,m,rfl,r⟩;rw[ac.o] at m;have t:=ae (k.o.trans (r.mono k.o.size));have u:=ae (d.o.new r);have N:=ae m;have O:=t.o.size;have Q:(lM K H Z s e).length=((K:Int)+H).toNat:=(by rw[J.o.1];omega);have ad:PH (some M≠(Value.slice D E F).ownBlock):=ae (u.o.ty m (by decide));have ag:=ae Q;have hq:=λai a ak c=>run_neq_slice_nil (P:=prog) ai 30 5 a ak c underlying30;clear m r Q Y k0 k1 k2 d l k;generalize ((K:Int)+H).toNat=ai at*
   go_wp2_with (at_builtin;refine gT (w:=L) rfl _ _ rfl underlying45 dA rfl (by decide) (by decide) u.o (az _ _) O ab (R:=rB (lM K H Z s e)) ?r1 rfl rfl rfl ?_)
   case r1=>
    have m:(rB (lM K H Z s e)).ok L (λq=>Any q/\some q≠(Value.slice D E F).ownBlock) [slice (some ⟨M,0,none⟩) (lM K H Z s e).length (lM K H Z s e).length]:=mq N.o ⟨trivial,ad.o⟩ (by rw[J.o.1];unfold maxLen;omega);rw[ag.o] at m;exact m
   intro v4 w4 m r;rw[<-aa.o] at m;have Q:=ae m;have Y:=ae (t.o.trans r);clear m r u N t O;obtain⟨b4,m,r,rfl⟩:=Q.o.sl;go_wp2_with fail;go_roundw
   case rel=>exact⟨b+1,by omega,by go_num,Q,Y⟩
   case measure=>simp[intOf];omega
  ·obtain rfl:b=n:=by omega
   rw[aJ (by rw[A.o];exact aj _)] at d;go_wp2_with fail;go_ret;exact⟨_,rfl,(rM _).any d.o.rep,l.o.1⟩
theorem kQ{w:World}{ops:Array Oper}{rest:List Oper}{o:Oper}{a:Act}{Q:Exit->Act->World->Prop}(j:o.guard=none)(s x:Operand){C y:Nat}{i:Int}{v:Value}{xs:PI}(k:i=(y:Int))
 (l:o.op=.call { callee:=.builtin .append,args:=#[s,x],argTypes:=#[22,22] })
 (m:OwnI w C v xs)(f:C<=w.heap.size)(z:xs.length<=1000000)(hs:a.eval s=v)(n:a.eval x=slice (some ⟨w.heap.size,0,none⟩) 1 1)
 (K:∀c b,OwnI b C c (xs++[y])->Below C w b->wpList prog ops Q rest (a.put o.dst c) b):
 wpList prog ops Q (o :: rest) a (w.alloc (cells #[int i64 i] 3)):=by
 subst k;have d:=(az w.heap.size w).alloc (aj _) (cells #[int i64 (y:Int)] 3);have g:OwnI (w.alloc (cells #[int i64 (y:Int)] 3)) C v xs:=fI m d;have h:=aP f d.size;have p:=dZ w #[int i64 (y:Int)] 3 0;have q:=d.mono f;generalize w.alloc (cells #[int i64 (y:Int)] 3)=r at*;refine jv (P:=prog) r j s x 22 l C 3 (int i64 0) 8 underlying22 iU rfl v xs.length (bH xs) hs g w.heap.size (int i64 (y:Int)) n p rfl (by omega) (by unfold maxLen;omega) h λc b t e A=> ?_;refine K c b ?_ (q.trans ((az _ _).grown e h λu e=>(World.ownsRow.lt g u e).1));unfold OwnI;rw[aH];have u:bH (xs++[y])=bH xs++[int i64 (y:Int)]:=by unfold bH;rw[aU];rfl
 rw[u];exact t
theorem OwnI.sl{w:World}{C:Nat}{v:Value}{l:PI}(b:OwnI w C v l):∃a n c,v=slice a n c:=by
 obtain⟨a,c,d,_⟩:=dB b;exact⟨a,_,c,d⟩
def rI(l:PI):Rp:=rC (bH l)
theorem gH{l:PI}{w:World}{C:Nat}{v:Value}(a:OwnI w C v l):(rI l).ok w (Fr C) [v]:=JP a
theorem dI{l:PI}{w:World}{F:Nat->Prop}{v:Value}{n:Nat}(b:(rI l).ok w F [v])(d:l.length=n):∃a c,v=slice a n c/\Rd w w.heap.size a n (bH l)/\(a=none->c=0)/\n<=c/\c<=maxLen:=by
 subst d;have:=Ae b
 rwa [BF] at this
theorem qC(K H Z:Nat)(w:World)(e:fB K H Z=true):
 Calls prog 218 #[dD K H Z] w λb a=>∃v,b=returned v/\OwnI a w.heap.size v (range K)/\Below w.heap.size w a:=by
 have a:=ba e;have l:K<=16:=by omega
 have m:1<=K:=by omega
 have f:=ae ((az w.heap.size w).alloc (aj _) (cells #[int i64 K,int i64 H,int i64 Z] 25));have g:=ae (OwnI.nil (w.alloc (cells #[int i64 K,int i64 H,int i64 Z] 25)) w.heap.size);clear a e;have n:¬(16:Int)<(K:Int):=by omega
 have o:(0:Int)<(K:Int):=by omega
 unfold dD;go_enter func218,ntmps218;go_wp2_with fail;generalize w.alloc (cells #[int i64 K,int i64 H,int i64 Z] 25)=p at*;go_loopw [3,9] (λv b wr=>∃a:Nat,a<=K/\b=int i64 a/\PH (OwnI wr w.heap.size v (range a))/\PH (Below w.heap.size w wr)) (λ_ b _=>K-(intOf b).toNat)
 case atStart=>exact⟨0,by omega,rfl,g,f⟩
 case round=>
  clear g f;obtain⟨a,q,rfl,b,c⟩:=hrel;obtain⟨r,s,t,rfl⟩:=b.o.sl;by_cases u:a<K
  ·have x:(a:Int)<(K:Int):=by omega
   go_wp2_with (at_builtin;refine kQ (w:=wr) (y:=a) rfl _ _ ?hi rfl b.o c.o.size (by rw[aZ];omega) rfl rfl ?_)
   case hi=>first | rfl | trivial
   intro z A d i;rw[<-range_succ] at d;have j:=ae d;have k:=ae (c.o.trans i);clear d i b c;obtain⟨d,i,B,rfl⟩:=j.o.sl;go_wp2_with fail;go_roundw
   case rel=>exact⟨a+1,by omega,by go_num,j,k⟩
   case measure=>simp[intOf];omega
  ·obtain rfl:a=K:=by omega
   go_wp2_with fail;go_ret;exact⟨_,rfl,b.o,c.o⟩
theorem Au(K H Z:Nat)(s:Int)(ids:PI)(a:PK)(n c:Nat)(w:World)(d:fB K H Z=true)(v:0<=s)(x:s<4294967296)(j:Rd w w.heap.size a n (bH ids))(k:∀i∈ids,i<=65535)(y:n<=1000):
 Calls prog 231 #[dD K H Z,.int .u32 s,slice a n c] w λe b=>e=returned (int i64 ((dS (eP K H Z s ids)).length:Nat))/\Below w.heap.size w b:=by
 have g:=ba d;have f:ids.length=n:=by have:=j.len;simpa[bH] using this
 have m:=ae λw (h:Rd w w.heap.size a n (bH ids))=>oz K H Z s ids a n c w d v x h k y;have z:=ae (mY (s:=s) d k);have A:PH ((eP K H Z s ids).length=H+n):=ae (by rw[qh,f])
 have o:PH (Sx w (w.alloc (cells #[int i64 K,int i64 H,int i64 Z] 25)) [bS w.heap.size 25 #[int i64 K,int i64 H,int i64 Z],mF a n (bH ids)]):=
  ae (((((Sx.nil w).add (mF a n (bH ids)) j).alloc _).add (bS _ _ _) (Blk.new w 25 #[int i64 K,int i64 H,int i64 Z])))
 have C:H<=4:=by omega
 have D:K<=16:=by omega
 clear j k f g d;unfold dD at m ⊢;generalize eP K H Z s ids=p at*;go_enter func231,ntmps231;go_wp2_with fail;generalize w.alloc (cells #[int i64 K,int i64 H,int i64 Z] 25)=E at*;generalize w.heap.size=l at*;obtain⟨F,G,I⟩:=nQ (o.o.blk 0 rfl)
 go_region_held3 (λb=>b.cell? ⟨l,0,none⟩=some (int i64 K)/\b.cell? ⟨l,1,none⟩=some (int i64 H)/\b.cell? ⟨l,2,none⟩=some (int i64 Z)) (go_keep) (first
  | (go_at_call 216
     refine(oV _).mono ?_;rintro e J ⟨q,rfl,r,g,b⟩;have f:=ae ((o.o.drew.step b).add (eFp (some ⟨q,0,none⟩)) (Fp.of g));obtain⟨L,M,N⟩:=nQ (f.o.blk 1 rfl);clear r g b)
  | (go_at_call 217
     have O:=f;refine(m.o _ (f.o.rd 2 rfl)).mono ?_;rintro e P ⟨Q,rfl,r,b⟩;obtain⟨t,B,rfl,u,-⟩:=eZ r A.o;have g:=ae ((f.o.step b).add (ww t (H+n) p) u);obtain⟨R,S,T⟩:=nQ (g.o.blk 2 rfl);clear r u b)
  | (go_at_call 290
     refine(KW (some ⟨q,0,none⟩) (K+H) (H+n) B p t _ (g.o.fp 1 rfl) (g.o.get 0 rfl) z.o (by omega) (by omega)).mono ?_;rintro e u ⟨rfl,b⟩;have r:=ae (g.o.step b);obtain⟨U,V,W⟩:=nQ (r.o.blk 2 rfl);clear b))
 all_goals(
  go_wp2_with fail;go_ret;exact⟨rfl,r.o.1⟩)
def fQ(q:Nat)(l:PI)(i:Nat):PI:=(l.drop (i*q)).take q++replicate (q-((l.drop (i*q)).take q).length) 0
def lw(q:Nat)(l:PI):List PI:=(range (ja q l.length)).map (fQ q l)
theorem Aq(q:Nat)(l:PI)(i:Nat):(fQ q l i).length=q:=by
 unfold fQ;rw[aH,aI];have:((l.drop (i*q)).take q).length<=q:=by rw[aG];omega
 omega
theorem cnt_lt{q n i:Nat}(c:1<=q)(a:i<ja q n):i*q<n:=by
 unfold ja at a;split at a
 ·omega
 ·rename_i d
  have b:i<=(n-1)/q:=(by omega);have e:=Nat.mul_le_mul_right q b;have f:=Nat.div_mul_le_self (n-1) q;omega
theorem EC(q n:Nat):ja q n<=n:=by
 unfold ja;split
 ·omega
 ·have:=Nat.div_le_self (n-1) q
  omega
theorem Ar(K H Z:Nat)(l:PI)(a:PK)(n c:Nat)(w:World)(D:fB K H Z=true)(E:Rd w w.heap.size a n (bF l))(hn:n<=1000)(hc:n<=c)(hm:c<=maxLen):
 Calls prog 157 #[dD K H Z,slice a n c] w λj b=>∃v,j=returned v/\(rM (lw (K*Z) l)).ok b (Fr w.heap.size) [v]/\Below w.heap.size w b:=by
 have e:=ba D;have b:l.length=n:=by have:=E.len;rwa [bG] at this
 have d:=ae λw=>kr K H Z n w D (by omega);have G:=ae λw=>pI K H Z w (by omega) (by omega);have ao:1<=K*Z:=bn (show 1<=K by omega) (show 1<=Z by omega);have aL:K*Z<=16*24:=bn (by omega) (by omega);have ap:PH (lw (K*Z) l=(range (ja (K*Z) n)).map (fQ (K*Z) l)):=ae (by unfold lw;rw[b]);have aq:=ae λi=>cnt_lt (q:=K*Z) (n:=n) (i:=i) ao;have aM:=EC (K*Z) n
 have S0:PH (Sx w (w.alloc (cells #[int i64 K,int i64 H,int i64 Z] 25)) [bS w.heap.size 25 #[int i64 K,int i64 H,int i64 Z],mF a n (bF l)]):=
  ae (((((Sx.nil w).add (mF a n (bF l)) E).alloc _).add (bS _ _ _) (Blk.new w 25 #[int i64 K,int i64 H,int i64 Z])))
 have ar:w.heap.size<=(w.alloc (cells #[int i64 K,int i64 H,int i64 Z] 25)).heap.size:=by simp
 have HL:=ae b;clear E b e D;unfold maxLen at hm;unfold dD at d G ⊢;generalize lw (K*Z) l=SP at*;generalize K*Z=q at*;have au:∀w:World,(Instr.makeSlice 30 (int i64 (q:Int)) (int i64 (q:Int))).run prog w=.ok (slice (some ⟨w.heap.size,0,none⟩) q q) (w.alloc (cells (bK (replicate q 0)) 5)):=λw=>dR (n:=q) (by omega) w;have av:(prog.info? 5).map (·.size)=some 1:=by kernel_rfl
 generalize b:ja q n=r at*;have HN:=ae b;clear b;go_enter func157,ntmps157;go_wp2_with fail;generalize w.alloc (cells #[int i64 K,int i64 H,int i64 Z] 25)=e at*;refine(d.o _).mono ?_;rintro j w1 ⟨rfl,s⟩;have T:=ae s;have U:PH (OwnS w1 e.heap.size 30 1 (Fr e.heap.size) (slice none 0 0) (((range 0).map (fQ q l)).map rB)):=ae (OwnS.nil _ _ _ _ _);clear s d;go_wp2_with fail;go_loopw [5,12] (λv i wr=>∃k:Nat,k<=r/\i=int i64 k/\PH (OwnS wr e.heap.size 30 1 (Fr e.heap.size) v (((range k).map (fQ q l)).map rB))/\PH (Below e.heap.size e wr)) (λ_ i _=>r-(intOf i).toNat)
 case atStart=>exact⟨0,by omega,rfl,U,T⟩
 case round=>
  clear U T;obtain⟨k,aO,rfl,t,A⟩:=hrel;have m:=ae (S0.o.step A.o);obtain⟨V,W,X,rfl⟩:=t.o.sl;by_cases aw:k<r
  ·have aR:(k:Int)<(r:Int):=by omega
   have aS:=aq.o k aw;obtain⟨d,o,ea,s,-⟩:=(m.o.rd 1 rfl).2 (by omega);have b:(l.drop (k*q)).length=n-k*q:=(by rw[length_drop,HL.o]);obtain⟨b',p',I,p,g⟩:=qD (m.o.rd 1 rfl) (o:=k*q) (k:=n-k*q) (by omega) (by omega);subst ea;injection I with I;injection I with f J _;subst f J;rw[aJ (by rw[b];exact aj _)] at g;obtain⟨u,x,y⟩:=pF (m.o.blk 0 rfl);have ax:PH (((range (k+1)).map (fQ q l)).map rB=((range k).map (fQ q l)).map rB++[rB (fQ q l k)]):=ae (by rw[range_succ,aU,aU];rfl);have ay:(((range k).map (fQ q l)).map rB).length<=1000000:=(by simp;omega);have aT:(k:Int)*(q:Int)=((k*q:Nat):Int):=(by rw[Int.natCast_mul]);have aA:PH (fQ q l k=(l.drop (k*q)).take q++replicate (q-((l.drop (k*q)).take q).length) 0):=ae rfl;have aB:=ae (Aq q l k);have z:=ae g;have aD:=ae b;clear g p b;generalize l.drop (k*q)=Y at*;generalize fQ q l k=B at*;generalize k*q=p at*;go_wp2_with fail;refine(G.o _).mono ?_;rintro j b ⟨rfl,g⟩;have L:=ae (m.o.step g);have M:=ae (A.o.trans (g.mono A.o.size));have N:=ae (t.o.new g);have aa:=ae ((z.o.below g (aj _)).more g.size);have aV:=g.size;clear g t A m z u x y;have g:=ae (L.o.alloc (cells (bK (replicate q 0)) 5));obtain⟨u,x,y⟩:=pF (g.o.blk 0 rfl);clear g
   go_wp2_with (simp only[])
   clear u x y;have O:=Blk.new b 5 (bK (replicate q 0));have ab:=(az b.heap.size b).alloc (aj _) (cells (bK (replicate q 0)) 5);have aE:(b.alloc (cells (bK (replicate q 0)) 5)).heap.size=b.heap.size+1:=(by simp);generalize b.alloc (cells (bK (replicate q 0)) 5)=w3 at*;refine(G.o _).mono ?_;rintro j w4 ⟨rfl,Q⟩;have ac:=O.below Q O.lt;have g:Below b.heap.size b w4:=ab.trans (Q.mono (by omega));have ad:=aa.o.below g (aj _)
   obtain⟨S,aF,C,ag⟩:=qR (P:=prog) w4 30 3 5 underlying30 av b.heap.size 0 q q (some ⟨d,o+p,none⟩) (n-p) (c-p) (bF (replicate q 0)) 5 ac (bF (Y.take q))
    (by rw[bG,aG,aD.o];exact Nat.min_comm _ _)
    (λ_=>⟨⟨d,o+p,none⟩,rfl,λai v z=>by
      obtain⟨b2,o2,f,_,aK⟩:=ad.2 (by omega);injection f with f;injection f with f J _;subst f J;rw[Addr.add_lit];refine aK ai v ?_;unfold bF at z ⊢;rw[List.getElem?_map,List.getElem?_take] at z;split at z
      ·rw[List.getElem?_map];exact z
      ·cases z⟩)
    (by rw[bG,bG,aI,aG];omega) (iI _)
   rw[ku] at C
   have z:splice (replicate q 0) 0 (Y.take q)=B:=by
    rw[aA.o];unfold splice;rw[take_zero,nil_append,drop_replicate,Nat.zero_add]
   rw[z] at C;have ai:Below b.heap.size b S:=g.grown ag g.size (λak hg=>by simp at hg;omega);have ak:=M.o.size
   have al:PH ((rB B).ok S (λd=>Fr e.heap.size d/\some d≠(Value.slice V W X).ownBlock) [slice (some ⟨b.heap.size,0,none⟩) q q]):=ae (by
    have am:B.length=q:=aB.o;have:=mq (F:=λd=>Fr e.heap.size d/\some d≠(Value.slice V W X).ownBlock) C ⟨ak,λj=>by have:=(N.o.lt _ j.symm).2;omega⟩ (by rw[am];unfold maxLen;omega)
    rwa [am] at this)
   have an:=ae ai;have S4:=ae (L.o.step g);obtain⟨u,x,y⟩:=pF (S4.o.blk 0 rfl);have aX:¬c=p:=(by omega);have a0:(p:Int)<=(n:Int):=(by omega);clear O ab aE Q ac g ad C ag z ai L aa
   go_wp2_with (first
    | simp only[]
    | (at_builtin;refine gT (w:=b) (w1:=S) rfl _ _ rfl underlying45 dA rfl (by decide) (by decide) N.o an.o ak ay (R:=rB B) al.o rfl rfl rfl ?_))
   intro O Q g z;rw[<-ax.o] at g;have C:=ae g;have L:=ae (M.o.trans z);clear g z N al an S4 u x y M;obtain⟨g,z,M,rfl⟩:=C.o.sl;go_wp2_with fail;go_roundw
   case rel=>exact⟨k+1,by omega,by go_num,C,L⟩
   case measure=>simp[intOf];omega
  ·obtain rfl:k=r:=by omega
   rw[<-ap.o] at t;go_wp2_with fail;go_ret;exact⟨_,rfl,(rM _).more t.o.fr λd s _=>aP ar s,m.o.1⟩
theorem MP{l:PI}{w:World}{F:Nat->Prop}{a:PK}{m c k:Nat}(f:(rB l).ok w F [slice a m c])(y:k<=m):(rB (l.take k)).ok w F [slice a k k]:=by
 obtain⟨g,h,i,b,z,A,j,n,o⟩:=f;obtain⟨⟨rfl,rfl,rfl⟩,-⟩:(a=g/\m=h/\c=i)/\True:=by injection b with b _;injection b with e p q;exact⟨⟨e,p,q⟩,trivial⟩
 refine⟨a,k,k,rfl,aj _,by omega,λb=>by have:=j b;omega,?_,λB=> ?_⟩
 ·rw[bG] at n ⊢
  rw[aG];omega
 ·obtain⟨r,s,e,t,u⟩:=o (by omega)
  refine⟨r,s,e,t,λv x d=>u v x ?_⟩;unfold bF at d ⊢;rw[List.getElem?_map,List.getElem?_take] at d;split at d
  ·rw[List.getElem?_map];exact d
  ·cases d
theorem vg{q:Nat}:∀ {L:List PI},(∀x∈L,x.length=q)->L.flatten.length=L.length*q:=by
 intro L
 induction L with
 | nil=>intro _;simp
 | cons x L b=>intro a;rw[flatten_cons,aH,a x (by simp),b λc d=>a c (by simp[d]),length_cons,Nat.succ_mul];omega
theorem Kb{q n:Nat}(a:1<=q):n<=ja q n*q:=by
 unfold ja;split
 ·omega
 ·have b:=Nat.div_add_mod (n-1) q
  have c:=Nat.mod_lt (n-1) (show 0<q by omega);rw[Nat.succ_mul,Nat.mul_comm];omega
theorem OwnB.sl{w:World}{C:Nat}{v:Value}{l:PI}(b:OwnB w C v l):∃a n c,v=slice a n c/\l.length=n:=by
 obtain⟨a,c,d,_⟩:=b.rd;exact⟨a,_,c,d,rfl⟩
theorem Di(K H Z:Nat)(L:List PI)(F:Nat->Prop)(a:PK)(d c n:Nat)(w:World)(l:fB K H Z=true)(m:(rM L).ok w F [slice a d c])(y:L.length=d)(o:d=ja (K*Z) n)(r:∀x∈L,x.length=K*Z)(hn:n<=1000):
 Calls prog 115 #[dD K H Z,slice a d c,int i64 n] w λs b=>∃v,s=returned (.tuple #[v,bool true])/\(rB (L.flatten.take n)).ok b (Fr w.heap.size) [v]/\Below w.heap.size w b:=by
 have g:=ba l;obtain⟨a1,c1,z,e,-⟩:=eZ m y;injection z with z _ V;subst z V;have f:=ae λw=>fK K H Z w;rw[l] at f;have j:=ae λw=>kr K H Z n w l (by omega);rw[<-o] at j;have N:=ae λw=>pI K H Z w (by omega) (by omega);have W:1<=K*Z:=bn (show 1<=K by omega) (show 1<=Z by omega);have am:K*Z<=16*24:=bn (by omega) (by omega);have X:=EC (K*Z) n;rw[<-o] at X;have A:=Kb (n:=n) W;rw[<-o] at A;have Y:=ae (vg r);have aa:=ae λb=>vg (L:=L.take b) (q:=K*Z) λx m=>r x (bD m);have an:d*(K*Z)<=1000*384:=bn (by omega) (by omega)
 have B:PH (Sx w (w.alloc (cells #[int i64 K,int i64 H,int i64 Z] 25)) [bS w.heap.size 25 #[int i64 K,int i64 H,int i64 Z],ww a d L]):=
  ae (((((Sx.nil w).add (ww a d L) e).alloc _).add (bS _ _ _) (Blk.new w 25 #[int i64 K,int i64 H,int i64 Z])))
 have ab:w.heap.size<=(w.alloc (cells #[int i64 K,int i64 H,int i64 Z] 25)).heap.size:=by simp
 have t:=ae y;have HL:=ae r;clear m e g l r y o;unfold dD at f j N ⊢;generalize K*Z=q at*;go_enter func115,ntmps115;go_wp2_with fail;generalize w.alloc (cells #[int i64 K,int i64 H,int i64 Z] 25)=g at*;refine(f.o _).mono ?_;rintro s w1 ⟨rfl,e⟩;have k:=ae e;have i:=ae (B.o.step e);obtain⟨C,D,E⟩:=pF (i.o.blk 0 rfl);clear e f;go_wp2_with fail;refine(j.o _).mono ?_;rintro s w2 ⟨rfl,e⟩;have O:=ae (k.o.trans (e.mono k.o.size));have P:PH (OwnB w2 g.heap.size (slice none 0 0) (L.take 0).flatten):=ae (OwnB.nil _ _);clear e j i k C D E;go_wp2_with fail;go_loopw [8,28] (λv f wr=>∃b:Nat,b<=d/\f=int i64 b/\PH (OwnB wr g.heap.size v (L.take b).flatten)/\PH (Below g.heap.size g wr)) (λ_ f _=>d-(intOf f).toNat)
 case atStart=>exact⟨0,by omega,rfl,P,O⟩
 case round=>
  clear P O;obtain⟨b,ao,rfl,j,f⟩:=hrel;have i:=ae (B.o.step f.o);obtain⟨bv,nv,cv,rfl,u⟩:=j.o.sl;have G:=aa.o b;rw[aG,t.o] at G;by_cases Q:b<d
  ·have ap:(b:Int)<(d:Int):=by omega
   have M:RdM g g.heap.size a d L:=B.o.get 1 rfl;obtain⟨I,R,a',c',rfl,e,S,T,ac,aq,ad⟩:=M.at Q;have ag:wr.cell? ⟨I,R+b,none⟩=some (slice a' (L.getD b []).length c'):=(f.o.cell (p:=⟨I,R+b,none⟩) e).trans S;have J:=ae (T.below f.o (aj _));have k:b<L.length:=(by rw[t.o];exact Q);have U:(L.getD b []).length=q:=HL.o _ (by rw[af,ah k];exact aQ k);rw[U] at ag J;have HT:PH ((L.take (b+1)).flatten=(L.take b).flatten++L.getD b []):=ae (by rw[aN k,flatten_append,af,ah k];simp);obtain⟨C,D,E⟩:=pF (i.o.blk 0 rfl);have ar:((q:Int) != (q:Int))=false:=by simp
   have ai:(L.take b).flatten.length+q<=1000000:=by
    have:min b d*q<=d*q:=Nat.mul_le_mul_right _ (Nat.min_le_right _ _);omega
   clear M S T U k G u;generalize L.getD b []=au at*;go_wp2_with fail;refine(N.o _).mono ?_;rintro s w3 ⟨rfl,k⟩;have M:=ae (f.o.trans (k.mono f.o.size));have S:=ae (j.o.below k);have T:=ae (J.o.below k f.o.size);have ak:=M.o.size;clear k f j J C D E i
   go_wp2_with (at_builtin;refine ni rfl _ _ rfl S.o ak ai rfl rfl ac T.o ?_)
   intro v4 w4 k J _ _;rw[<-HT.o] at k;have U:=ae k;have al:=ae (M.o.trans J);clear k J S M T;obtain⟨b4,k,J,rfl,-⟩:=U.o.sl;go_wp2_with fail;go_roundw
   case rel=>exact⟨b+1,by omega,by go_num,U,al⟩
   case measure=>simp[intOf];omega
  ·obtain rfl:b=d:=by omega
   rw[aJ (by rw[t.o];exact aj _)] at j u;have k:n<=nv:=(by rw[<-u,Y.o,t.o];exact A);have J:=ae (MP (gG j.o) k);have M:=j.o.caps;have ad:(n:Int)<=(cv:Int):=(by omega);have R:(0:Int)<=(n:Int):=(by omega);clear G u A;go_wp2_with fail;go_ret2;exact⟨_,rfl,(rB _).more J.o λI e _=>aP ab e,i.o.1⟩
def dK(K H Z:Nat)(s:Int)(ids:PI):Bool:=decide ((dS (eP K H Z s ids)).length=K+H)
theorem sx(K H Z:Nat)(s:Int)(ids:PI)(a:PK)(n c:Nat)(w:World)(d:fB K H Z=true)(t:0<=s)(u:s<4294967296)(l:Rd w w.heap.size a n (bH ids))(m:∀i∈ids,i<=65535)(v:n<=1000):
 Calls prog 173 #[dD K H Z,.int .u32 s,slice a n c] w λe b=>e=returned (bool (dK K H Z s ids))/\Below w.heap.size w b:=by
 have f:=ae λw=>fK K H Z w;rw[d] at f;have o:=ae λw (h:Rd w w.heap.size a n (bH ids))=>Au K H Z s ids a n c w d t u h m v;have g:=ae λw=>mi K H Z w;have j:kM K H Z=((K+H:Nat):Int):=by unfold kM;rw[bg d,Int.natCast_add]
 rw[j] at g
 have p:PH (Sx w (w.alloc (cells #[int i64 K,int i64 H,int i64 Z] 25)) [bS w.heap.size 25 #[int i64 K,int i64 H,int i64 Z],mF a n (bH ids)]):=
  ae (((((Sx.nil w).add (mF a n (bH ids)) l).alloc _).add (bS _ _ _) (Blk.new w 25 #[int i64 K,int i64 H,int i64 Z])))
 have x:PH (dK K H Z s ids=decide ((dS (eP K H Z s ids)).length=K+H)):=ae rfl;clear l m d j;unfold dD at f o g ⊢;generalize (dS (eP K H Z s ids)).length=y at*;generalize K+H=z at*;go_enter func173,ntmps173;go_wp2_with fail;generalize w.alloc (cells #[int i64 K,int i64 H,int i64 Z] 25)=A at*;generalize w.heap.size=j at*;obtain⟨B,C,D⟩:=nQ (p.o.blk 0 rfl)
 go_region_held3 (λb=>b.cell? ⟨j,0,none⟩=some (int i64 K)/\b.cell? ⟨j,1,none⟩=some (int i64 H)/\b.cell? ⟨j,2,none⟩=some (int i64 Z)) (go_keep) (first
  | (go_at_call 88
     refine(f.o _).mono ?_;rintro e E ⟨rfl,b⟩;have k:=ae (p.o.drew.step b);obtain⟨F,G,I⟩:=nQ (k.o.blk 0 rfl);clear b)
  | (go_at_call 231
     refine(o.o _ (k.o.rd 1 rfl)).mono ?_;rintro e J ⟨rfl,b⟩;have q:=ae (k.o.step b);obtain⟨L,M,N⟩:=nQ (q.o.blk 0 rfl);clear b)
  | (go_at_call 232
     refine(g.o _).mono ?_;rintro e O ⟨rfl,b⟩;have r:=ae (q.o.step b);obtain⟨P,Q,R⟩:=nQ (r.o.blk 0 rfl);clear b))
 all_goals(
  go_wp2_with fail;go_ret;refine⟨Aa ?_,r.o.1⟩;rw[x.o,Bool.eq_iff_iff,beq_iff_eq,decide_eq_true_iff];omega)
theorem lH(K H Z:Nat)(s:Int)(w:World)(b:fB K H Z=true)(l:0<=s)(m:s<4294967296):
 Calls prog 214 #[dD K H Z,.int .u32 s] w λc a=>c=returned (bool (dK K H Z s (range K)))/\Below w.heap.size w a:=by
 have e:=ba b;have f:=ae λw=>qC K H Z w b;have g:=ae λd i w (h:Rd w w.heap.size d K (bH (range K)))=>sx K H Z s (range K) d K i w b l m h (λi d=>by have:=bA.1 d;omega) (by omega)
 have i:PH (Sx w (w.alloc (cells #[int i64 K,int i64 H,int i64 Z] 25)) [bS w.heap.size 25 #[int i64 K,int i64 H,int i64 Z]]):=
  ae ((((Sx.nil w).alloc _).add (bS _ _ _) (Blk.new w 25 #[int i64 K,int i64 H,int i64 Z])))
 clear b e;unfold dD at f g ⊢;generalize dK K H Z s (range K)=o at*;go_enter func214,ntmps214;go_wp2_with fail;generalize w.alloc (cells #[int i64 K,int i64 H,int i64 Z] 25)=p at*;generalize w.heap.size=d at*;obtain⟨q,r,t⟩:=nQ (i.o.blk 0 rfl)
 go_region_held3 (λa=>a.cell? ⟨d,0,none⟩=some (int i64 K)/\a.cell? ⟨d,1,none⟩=some (int i64 H)/\a.cell? ⟨d,2,none⟩=some (int i64 Z)) (go_keep) (first
  | (go_at_call 218
     refine(f.o _).mono ?_;rintro c u ⟨v,rfl,j,a⟩;obtain⟨n,x,rfl,k,-⟩:=dI (gH j) aZ;have e:=ae ((i.o.drew.step a).add (mF n K (bH (range K))) k);obtain⟨y,z,A⟩:=nQ (e.o.blk 1 rfl);clear a j k)
  | (go_at_call 173
     refine(g.o _ _ _ (e.o.rd 0 rfl)).mono ?_;rintro c k ⟨rfl,a⟩;have j:=ae (e.o.step a);obtain⟨B,C,D⟩:=nQ (j.o.blk 1 rfl);clear a))
 all_goals(
  go_wp2_with fail;go_ret;exact⟨rfl,j.o.1⟩)
theorem ms01:[0,1].mergeSort leB=[0,1]:=by simp[mergeSort,leB]
theorem Ml:yK 2 (ma (qM 0 0))=[0,1]:=by
 unfold yK;rw[show qf (jO 2) (ma (qM 0 0))=2 by kernel_rfl];unfold zZ;rw[bg (by kernel_rfl)];unfold chosen;rw[show(iY false (Int.toNat 2) (nY (jO 2) (ma (qM 0 0))) (Int.toNat ((2:Nat):Int))).take (Int.toNat ((2:Nat):Int))=[0,1] by kernel_rfl];exact ms01
theorem w_row(i:Int)(a:0<=i/\i<=65535):lM 1 1 4 0 i=wF 2 (yK 2 (ma (qM 0 i))):=by
 unfold lM;rw[bg ⟨by decide,a⟩];rfl
theorem Mm:dK 1 1 4 (0:Nat) (range 1)=true:=by
 have a:eP 1 1 4 (0:Nat) (range 1)=[[3,1],[1,1]]:=by
  show cG 1 1 1++[lM 1 1 4 0 0]=_;rw[w_row 0 (by omega),Ml]
  kernel_rfl
 have b:(dS [[3,1],[1,1]]).length=2:=by kernel_rfl
 unfold dK;rw[a,b];rfl
structure Chg (M:Nat->Prop) (w w':World):Prop where
 os:w'.os=w.os
 tape:w'.tape=w.tape
 output:w'.output=w.output
 size:w.heap.size<=w'.heap.size
 block:∀k,k<w.heap.size->¬M k->w'.heap[k]? =w.heap[k]?
theorem Chg.refl(M:Nat->Prop)(w:World):Chg M w w:=⟨rfl,rfl,rfl,aj _,λ_ _ _=>rfl⟩
theorem Chg.trans{M:Nat->Prop}{a b c:World}(d:Chg M a b)(k:Chg M b c):Chg M a c:=
 ⟨k.os.trans d.os,k.tape.trans d.tape,k.output.trans d.output,aP d.size k.size,λe f g=>(k.block e (aW f d.size) g).trans (d.block e f g)⟩
theorem Chg.mono{M d:Nat->Prop}{a b:World}(c:Chg M a b)(f:∀k,k<a.heap.size->M k->d k):Chg d a b:=⟨c.os,c.tape,c.output,c.size,λk e g=>c.block k e λh=>g (f k e h)⟩
theorem Chg.of{M:Nat->Prop}{a b:World}(c:Below a.heap.size a b):Chg M a b:=⟨c.os,c.tape,c.output,c.size,λd e _=>c.block d e⟩
theorem Chg.grown{M:Nat->Prop}{a b:World}{r:Option Nat}(c:a.grownBy b r)(e:∀k,r=some k->k<a.heap.size->M k):Chg M a b:=⟨c.os,c.tape,c.output,c.size,λk d f=>c.block k d λg=>f (e k g.symm d)⟩
theorem Chg.below{M:Nat->Prop}{a b:World}{C:Nat}(c:Chg M a b)(f:C<=a.heap.size)(d:∀k,M k->C<=k):Below C a b:=⟨c.os,c.tape,c.output,c.size,λk e=>c.block k (by omega) λe=>by have:=d k e;omega⟩
theorem Chg.set{M:Nat->Prop}{a b:World}(c:Chg M a b)(p:Addr)(v:Value)(g:p.block<a.heap.size->M p.block):Chg M a (b.setCell p v):=
 ⟨c.os,c.tape,c.output,by simpa[World.setCell] using c.size,λd e f=>(bE b p v d λh=>f (by subst h;exact g e)).trans (c.block d e f)⟩
theorem Blk.chg{w w':World}{M:Nat->Prop}{g:Nat}{t:TypeId}{a:Array Value}(b:Blk w g t a)(c:Chg M w w')(d:¬M g):Blk w' g t a:=(c.block g b.lt d).trans b
def pwC:Array Value:=#[bool false,bool false,int i64 0,int i64 0]
def PwS(w:World)(g:Nat):Prop:=Blk w g 138 pwC
theorem PwS.cells{w:World}{g:Nat}(a:PwS w g):w.cell? ⟨g,0,none⟩=some (bool false)/\w.cell? ⟨g,1,none⟩=some (bool false)/\w.cell? ⟨g,2,none⟩=some (int i64 0)/\w.cell? ⟨g,3,none⟩=some (int i64 0):=⟨Blk.cell a 0,Blk.cell a 1,Blk.cell a 2,Blk.cell a 3⟩
theorem Pv(w:World):Calls prog 42 #[] w λb a=>b=returned (pointer (some ⟨w.heap.size,0,none⟩))/\PwS a w.heap.size/\a=w.alloc (.cells pwC 138):=by
 go_enter func42,ntmps42;go_wp2_with fail;go_ret;exact⟨rfl,Blk.new w _ _,rfl⟩
theorem Bd(g:Nat)(w:World)(h:PwS w g):Calls prog 81 #[pointer (some ⟨g,0,none⟩)] w λa b=>a=returned (bool true)/\b=w:=by
 obtain⟨a,b,c,d⟩:=h.cells;go_enter func81,ntmps81;go_wp2_with fail;go_ret;exact⟨rfl,rfl⟩
theorem EN(g:Nat)(w:World)(h:PwS w g):Calls prog 89 #[pointer (some ⟨g,0,none⟩)] w λa b=>a=returned (int i64 0)/\b=w:=by
 obtain⟨a,b,c,d⟩:=h.cells;go_enter func89,ntmps89;go_wp2_with fail;go_ret;exact⟨rfl,rfl⟩
theorem ze(g:Nat)(w:World)(h:PwS w g):Calls prog 200 #[pointer (some ⟨g,0,none⟩)] w λa b=>a=returned (bool true)/\b=w:=by
 obtain⟨c,d,e,f⟩:=h.cells;have b:=ae (Bd g w h);go_enter func200,ntmps200;go_wp2_with fail;refine b.o.mono ?_;rintro a i ⟨rfl,rfl⟩;go_wp2_with fail;go_ret;exact⟨rfl,rfl⟩
def drC(p a:Nat)(v:Value)(b:Nat):Array Value:=#[pointer (some ⟨p,0,none⟩),int i64 a,v,int i64 b,slice none 0 0,bool false,bool false]
def DrB(w:World)(g p a:Nat)(v:Value)(b:Nat):Prop:=Blk w g 88 (drC p a v b)
theorem DrB.cells{w:World}{g p b:Nat}{v:Value}{c:Nat}(a:DrB w g p b v c):w.cell? ⟨g,0,none⟩=some (pointer (some ⟨p,0,none⟩))/\w.cell? ⟨g,1,none⟩=some (int i64 b)/\w.cell? ⟨g,2,none⟩=some v/\
 w.cell? ⟨g,3,none⟩=some (int i64 c)/\w.cell? ⟨g,4,none⟩=some (slice none 0 0)/\w.cell? ⟨g,5,none⟩=some (bool false)/\w.cell? ⟨g,6,none⟩=some (bool false):=⟨Blk.cell a 0,Blk.cell a 1,Blk.cell a 2,Blk.cell a 3,Blk.cell a 4,Blk.cell a 5,Blk.cell a 6⟩
theorem Pw(n p:Nat)(w:World)(c:1<=n/\n<=512):Calls prog 61 #[int i64 n,pointer (some ⟨p,0,none⟩)] w λb a=>b=returned (pointer (some ⟨w.heap.size,0,none⟩))/\DrB a w.heap.size p n (slice none 0 0) 0/\Below w.heap.size w a:=by
 have a:¬(n:Int)<1:=by omega
 have b:¬(512:Int)<(n:Int):=by omega
 have d:(decide ((n:Int)<1))=false:=by simpa using a
 have e:(decide ((512:Int)<(n:Int)))=false:=by simpa using b
 go_enter func61,ntmps61;go_wp2_with fail;go_ret;exact⟨rfl,Blk.new w _ _,(az _ _).alloc (aj _) _⟩
theorem NC(g p a b:Nat)(v:Value)(w:World)(h:DrB w g p a v b):Calls prog 199 #[pointer (some ⟨g,0,none⟩)] w λc d=>c=returned (int i64 a)/\d=w:=by
 obtain⟨c,d,e,f,i,j,k⟩:=h.cells;go_enter func199,ntmps199;go_wp2_with fail;go_ret;exact⟨rfl,rfl⟩
theorem KZ(g p b d n c:Nat)(a:PK)(w:World)(h:DrB w g p b (slice a n c) d):Calls prog 133 #[pointer (some ⟨g,0,none⟩)] w λe f=>e=returned (int i64 n)/\f=w:=by
 obtain⟨e,f,i,j,k,l,m⟩:=h.cells;go_enter func133,ntmps133;go_wp2_with fail;go_ret;exact⟨rfl,rfl⟩
theorem zf(g p a b:Nat)(v:Value)(w:World)(h:DrB w g p a v b):Calls prog 90 #[pointer (some ⟨g,0,none⟩)] w λc d=>c=returned (bool false)/\d=w:=by
 obtain⟨c,d,e,f,i,j,k⟩:=h.cells;go_enter func90,ntmps90;go_wp2_with fail;go_ret;exact⟨rfl,rfl⟩
theorem zg(g p b c:Nat)(v:Value)(w:World)(h:DrB w g p b v c):Calls prog 201 #[pointer (some ⟨g,0,none⟩)] w λd a=>d=returned (int i64 0)/\DrB a g p b v c/\Chg (·=g) w a:=by
 obtain⟨i,j,k,l,m,n,o⟩:=h.cells;have q:=Blk.frozen h 4;have r:=Blk.frozen h 5;have a:=Blk.set h 4 (slice none 0 0);have d:=Blk.set a 5 (bool false);have s:=Blk.frozen a 5;have t:(w.setCell ⟨g,4,none⟩ (slice none 0 0)).cell? ⟨g,5,none⟩=some (bool false):=Blk.cell a 5;have e:=ae d;have f:PH (Chg (·=g) w ((w.setCell ⟨g,4,none⟩ (slice none 0 0)).setCell ⟨g,5,none⟩ (bool false))):=ae (((Chg.refl (·=g) w).set ⟨g,4,none⟩ _ λ_=>rfl).set ⟨g,5,none⟩ _ λ_=>rfl);clear a d;go_enter func201,ntmps201;go_wp2_with fail;go_ret;exact⟨rfl,e.o,f.o⟩
theorem ND(g p a i:Nat)(v:Value)(w:World)(h:DrB w g p a v i)(j:PwS w p):Calls prog 204 #[pointer (some ⟨g,0,none⟩)] w λb c=>b=returned (int i64 0)/\DrB c g p a v 0/\Chg (·=g) w c:=by
 obtain⟨n,o,q,r,s,t,u⟩:=h.cells;have k:=ae (ze p w j);have x:=Blk.frozen h 3;have c:DrB (w.setCell ⟨g,3,none⟩ (int i64 0)) g p a v 0:=Blk.set h 3 (int i64 0);have d:=ae (zg g p a 0 v _ c);have e:PH (Chg (·=g) w (w.setCell ⟨g,3,none⟩ (int i64 0))):=ae ((Chg.refl (·=g) w).set ⟨g,3,none⟩ _ λ_=>rfl);clear c;go_enter func204,ntmps204;go_wp2_with fail;refine k.o.mono ?_;rintro b y ⟨rfl,rfl⟩;go_wp2_with fail;refine d.o.mono ?_;rintro b z ⟨rfl,c,f⟩;have l:=ae c;have m:=ae (e.o.trans f);clear c f e d;go_wp2_with fail;go_ret;exact⟨rfl,l.o,m.o⟩
