import Derived.Test.YtgccllbnfngpcaaGreatDoorW17
import Derived.Maps.OwnSet
import Derived.Maps.Views
import Derived.StringKeys
set_option linter.unusedVariables false
set_option maxRecDepth 100000
set_option maxHeartbeats 400000000
namespace Go.Proofs.YtgccllbnfngpcaaGreatDoor
open Go.RowKit _root_.Go.Proofs.Tryz List
open Value (int slice pointer bool)
open IntKind (i64)
open Ending (returned)
open Obj (cells)
section
open Go.RowKit Go.Sort
structure ManV where
 m:cZ
 a1:SE
 n1:Nat
 c1:Nat
 a2:SE
 n2:Nat
 c2:Nat
instance:Inhabited ManV:=⟨⟨⟨0,0,0,0,0,0,[],[]⟩,none,0,0,none,0,0⟩⟩
def ManV.arr(y:ManV):Array Value:=bV y.m (slice y.a1 y.n1 y.c1) (slice y.a2 y.n2 y.c2)
def dK(y:ManV):List Value:=y.arr.toList
def yH(y z:ManV):Int:=Lib.compareInt z.m.seq y.m.seq
theorem KL(y z:ManV):ltOf yH y z=decide (z.m.seq<y.m.seq):=by
 unfold ltOf yH Lib.compareInt;by_cases c:(z.m.seq:Int)<(y.m.seq:Int)
 ·have a:z.m.seq<y.m.seq:=by omega
  simp[a]
 ·have a:¬z.m.seq<y.m.seq:=by omega
  by_cases d:(y.m.seq:Int)<(z.m.seq:Int)
  ·have b:y.m.seq<z.m.seq:=by omega
   simp[a,b]
  ·have b:¬y.m.seq<z.m.seq:=by omega
   simp[a,b]
theorem Q6:SWO (ltOf yH) where
 irrefl x:=by rw[KL];simp
 trans x y z h1 h2:=by rw[KL] at*;simp at*;omega
 ntrans x y z h1 h2:=by rw[KL] at*;simp at*;omega
theorem KM(y z:ManV)(r:Int)(I:Lib.compareInt z.m.seq y.m.seq=r)(w:World):Calls prog 327 #[.agg y.arr,.agg z.arr] w λJ a=>J=returned (int i64 r)/\∃q b,a=grow (w.drewN q) b:=by
 obtain⟨⟨a,c,d,e,f,g,R,S⟩,i,j,k,l,m,n⟩:=y;obtain⟨⟨b,t,u,v,x,A,T,U⟩,C,D,E,F,G,H⟩:=z;unfold ManV.arr bV at*;simp only at*;have K:=ae λw=>Tryz.cmp_Compare_int b a w;rw[I] at K;clear I;go_enter func327,ntmps327;go_upto_region 1 with fail;have L:(w.alloc (cells #[int i64 a,int i64 c,int i64 d,int i64 e,int i64 f,int i64 g,slice i j k,slice l m n] 68)).heap.size=w.heap.size+1:=by simp
 have N:=ae ((Blk.new w 68 #[int i64 a,int i64 c,int i64 d,int i64 e,int i64 f,int i64 g,slice i j k,slice l m n]).alloc (cells #[int i64 b,int i64 t,int i64 u,int i64 v,int i64 x,int i64 A,slice C D E,slice F G H] 68));have O:Sz (Blk ((w.alloc (cells #[int i64 a,int i64 c,int i64 d,int i64 e,int i64 f,int i64 g,slice i j k,slice l m n] 68)).alloc (cells #[int i64 b,int i64 t,int i64 u,int i64 v,int i64 x,int i64 A,slice C D E,slice F G H] 68)) (w.heap.size+1) 68 #[int i64 b,int i64 t,int i64 u,int i64 v,int i64 x,int i64 A,slice C D E,slice F G H]):=ae (by rw[<-L];exact Blk.new _ _ _);clear L;generalize L:(w.alloc (cells #[int i64 a,int i64 c,int i64 d,int i64 e,int i64 f,int i64 g,slice i j k,slice l m n] 68)).alloc (cells #[int i64 b,int i64 t,int i64 u,int i64 v,int i64 x,int i64 A,slice C D E,slice F G H] 68)=M at*;have Q:=ae L;clear L;have L:M.cell? ⟨w.heap.size,0,none⟩=some (int i64 a):=N.o.cell 0;have V:M.cell? ⟨w.heap.size+1,0,none⟩=some (int i64 b):=O.o.cell 0;go_wp2_with fail;refine(K.o _).mono ?_;rintro J W ⟨rfl,rfl⟩;go_wp2_with fail;go_ret;exact⟨rfl,0,_,by rw[<-Q.o,alloc_eq_grow,alloc_eq_grow,grow_grow];rfl⟩
theorem OB(y z:ManV)(w:World):Calls prog 327 #[.agg (dK y).toArray,.agg (dK z).toArray] w λa b=>a=returned (int i64 (yH y z))/\∃q a,b=grow (w.drewN q) a:=by
 have a:∀y:ManV,(dK y).toArray=y.arr:=λy=>by unfold dK;simp
 rw[a,a];exact KM y z _ rfl w
theorem Q7:∀w,(isAgg (Tryz.laysMan_ren.t 24)).run prog w=.ok true w:=λw=>Tryz.isAgg68 w
theorem OC:∀w,(Go.sizeOf (Tryz.laysMan_ren.t 24)).run prog w=.ok 8 w:=λw=>Tryz.sizeOf68 w
theorem OD(a:List ManV)(g n c:Nat)(w:World)(l:HoldsK dK 8 w g 0 a.toArray)(f:g<w.heap.size)(u:a.length=n)(C:n<=1000):
 Calls prog 389 #[slice (some ⟨g,0,none⟩) n c,int i64 0,int i64 n,.func (.func 327) #[] #[]] w λe h=>e=returned (.tuple #[])/\∃b:List ManV,b.Perm a/\HoldsK dK 8 h g 0 b.toArray/\Chg (·=g) w h:=by
 have d:a.toArray.size=n:=by simpa using u
 have i:=AnyQ.insertionSortCmpFunc Tryz.laysMan 8 Q7 OC dK (λ_=>rfl) (λk m j=>by simp[dK,ManV.arr,bV] at j;rcases j with rfl | rfl | rfl | rfl | rfl | rfl | rfl | rfl <;> rfl) yH 327 #[] g 0 c 0 n a.toArray w (enters_of func327 (by kernel_rfl) rfl) (λq j r t k m=>by rw[Array.append_empty];exact OB k m _) l f (bE _) (by rw[d];exact aj _) (by rw[d];omega);rw[d] at i;change Calls prog 389 _ _ _ at i;refine i.mono ?_;rintro e h ⟨rfl,m,j,rfl⟩;have q:=(insertionSort_holds Q6 a.toArray 0 n (bE _) (by rw[d];exact aj _)).1;generalize insertionSort (ltOf yH) a.toArray 0 n=b at*;have r:b.size=a.toArray.size:=q.1
 have v:b.toList.Perm a:=by
  have k:=q.2.2;rw[<-d] at k;have x:b.extract 0 a.toArray.size=b:=(by rw[<-r];simp);have y:a.toArray.extract 0 a.toArray.size=a.toArray:=(by simp);rw[x,y] at k;simpa using k
 refine⟨rfl,b.toList,v,?_,?_⟩
 ·have t:=holdsK_sortWorldK dK 8 w g 0 m a.toArray b j f l r
  simpa using t
 ·refine⟨rfl,rfl,rfl,size_sortWorldK_c dK 8 w g 0 m b j,λz t A=> ?_⟩
  unfold sortWorldK putRowK;rw[heap_grow_old _ _ (by have:g<w.heap.size:=f;simp;omega)];have:g≠z:=λe=>A e.symm;simp[putRow,mapBlock,Sort.ahead,Array.getElem?_modify,this]
theorem DN(a:List ManV)(g n c:Nat)(w:World)(e:HoldsK dK 8 w g 0 a.toArray)(l:g<w.heap.size)(f:a.length=n)(q:n<=19):
 Calls prog 373 #[slice (some ⟨g,0,none⟩) n c,int i64 n,.func (.func 327) #[] #[]] w λi b=>i=returned (.tuple #[])/\∃d:List ManV,d.Perm a/\HoldsK dK 8 b g 0 d.toArray/\Chg (·=g) w b:=by
 have j:=ae (OD a g n c w e l f (by omega));have r:¬(20:Int)<=(n:Int):=by omega
 have t:¬(20:Int)<(n:Int):=by omega
 clear e f;go_enter func373,ntmps373;go_wp2_with fail;go_loopw [7,8] (λb d wr=>b=int i64 0/\d=int i64 20/\Sz (wr=w)) (λ_ _ _=>0)
 case atStart=>exact⟨rfl,rfl,ae rfl⟩
 case round=>
  obtain⟨rfl,rfl,d⟩:=hrel;obtain rfl:=d.o;go_wp2_with fail;refine j.o.mono ?_;rintro i u ⟨rfl,k⟩;have m:=ae k;clear k j;go_wp2_with fail;rename World=>k;go_loopw [6] (λb wr=>b=int i64 20/\Sz (wr=k)) (λ_ _=>0)
  case atStart=>exact⟨rfl,ae rfl⟩
  case round=>
   obtain⟨rfl,d⟩:=hrel;obtain rfl:=d.o;go_wp2_with fail
   (try simp only[Exit.inBlock,Exit.then])
   refine bodyPost_end (results_none rfl _ _ _) rfl ?_;exact⟨rfl,m.o⟩
theorem KN(a:List ManV)(g n c:Nat)(w:World)(b:HoldsK dK 8 w g 0 a.toArray)(j:g<w.heap.size)(d:a.length=n)(k:n<=19):
 Calls prog 326 #[slice (some ⟨g,0,none⟩) n c,.func (.func 327) #[] #[]] w λe f=>e=returned (.tuple #[])/\∃i:List ManV,i.Perm a/\HoldsK dK 8 f g 0 i.toArray/\Chg (·=g) w f:=by
 have f:=ae (DN a g n c w b j d k);clear b d;go_enter func326,ntmps326;go_wp2_with fail;refine f.o.mono ?_;rintro e m ⟨rfl,i⟩;have l:=ae i;clear i f;go_wp2_with fail
 (try simp only[Exit.inBlock,Exit.then])
 refine bodyPost_end (results_none rfl _ _ _) rfl ?_;exact⟨rfl,l.o⟩
end
section
open Go.RowKit Go.Sort
theorem GU(y:ManV):(dK y).length=8:=rfl
theorem Q3(a:List ManV){t:Nat}(c:t<a.length*8):(flatK dK 8 a.toArray)[t]! =(dK (a.getD (t/8) default))[t%8]! :=by
 rw[get_flatK _ _ _ _ (by simpa using c)];congr 2;have b:t/8<a.length:=by omega
 rw[getElem!_pos a.toArray (t/8) (by simpa using b),af,ah b];simp
def Sr(w:World)(g:Nat)(c:List ManV):Prop:=∀a,a<c.length->∀b,b<8->w.cell? ⟨g,a*8+b,none⟩=(dK (c.getD a default))[b]?
theorem Kz{w:World}{g:Nat}{a:List ManV}(f:HoldsK dK 8 w g 0 a.toArray):Sr w g a:=by
 intro c j b h;have i:(flatK dK 8 a.toArray).size=a.length*8:=by simp
 have d:=(f (c*8+b) (by rw[i];omega)).1;rw[Q3 a (by omega),Nat.zero_add,show(c*8+b)/8=c by omega,show(c*8+b)%8=b by omega] at d;rw[d];have e:b<(dK (a.getD c default)).length:=by rw[GU];exact h
 rw[getElem!_pos _ b e,ah e];rfl
theorem QC{w:World}{C:Nat}{F:Nat->Prop}{v:Value}{b:List ManV}(h:OwnS w C 68 8 F v (b.map λa=>Gg (dK a)))(z:0<b.length):∃g c,v=slice (some ⟨g,0,none⟩) b.length c/\C<=g/\g<w.heap.size/\HoldsK dK 8 w g 0 b.toArray:=by
 have m:=h.lt;obtain⟨i,d,n⟩:=h;rw[aG] at d;have e:i.length=b.length*8:=d.1;rcases d.2 with⟨_,q⟩ | ⟨g,r,j,rfl,t,k,_,_,A,u⟩
 ·exact absurd q (by omega)
 ·refine⟨g,r,rfl,t,(m g rfl).2,λa f=> ?_⟩
  have f:a<b.length*8:=(by simpa using f);have x:a/8<b.length:=(by omega);rw[Nat.zero_add];refine⟨?_,Blk.frozen (show Blk w g _ j from k) a⟩;have y:=(n (a/8) (Gg (dK (b.getD (a/8) default))) (by rw[List.getElem?_map,af,ah x];rfl)).1;rw[Q3 b f,Blk.cell (show Blk w g _ j from k)];have l:((i.drop (a/8*8)).take 8)[a%8]? =(dK (b.getD (a/8) default))[a%8]? :=(by rw[y]);rw[List.getElem?_take,bu (by omega),List.getElem?_drop,show a/8*8+a%8=a by omega,<-u,List.getElem?_take,bu (by omega),Array.getElem?_toList] at l;rw[l];have e:a%8<(dK (b.getD (a/8) default)).length:=(by rw[GU];omega);rw[getElem!_pos _ (a%8) e,ah e];rfl
def ManR(w:World)(F:Nat->Prop)(y:ManV):Prop:=(rI y.m.drives).ok w F [slice y.a1 y.n1 y.c1]/\(rS 4 (y.m.objs.map df)).ok w F [slice y.a2 y.n2 y.c2]
theorem ManR.keep{w w':World}{F G:Nat->Prop}{y:ManV}(a:ManR w F y)(c:∀b,F b->b<w.heap.size->w'.heap[b]? =w.heap[b]? /\G b):ManR w' G y:=⟨(rI _).keep a.1 c,(rS 4 _).keep a.2 c⟩
end
section
open Go.RowKit Go.Sort Go.Maps
def Pp(m:cZ):Rp:=rP (Gg [int i64 m.seq,int i64 0,int i64 1]) (rP (rB (bX m)) (rB (eD m 0)))
theorem Pq:(prog.info? 386).map (λa=>(a.zero,a.size,a.bytes))=some (some (.agg #[int i64 0,int i64 0,int i64 0,slice none 0 0,slice none 0 0]),5,72):=by kernel_rfl
theorem Mx:(prog.info? 68).map (λa=>(a.zero,a.size,a.bytes))=some (some (.agg #[int i64 0,int i64 0,int i64 0,int i64 0,int i64 0,int i64 0,slice none 0 0,slice none 0 0]),8,96):=by kernel_rfl
def Gj(m:cZ):Prop:=gP m/\jE m/\(bX m).length<=40/\m.objs.length<=1/\(∀a∈m.drives,a<64)/\By (eD m 0)
def RF(x:Option cZ×SC):Prop:=x.2.length=64/\By x.2/\(∀a,x.1=some a->x.2=eD a 0/\Gj a)/\(x.1=none->¬(iH x.2/\x.2.getD 3 0=2))
def nE(X:List (Option cZ×SC)):List cZ:=X.filterMap (·.1)
theorem Jc{X:List (Option cZ×SC)}{k:Nat}(a:k<X.length):nE (X.take (k+1))=nE (X.take k)++(X.getD k (none,[])).1.toList:=by
 unfold nE;rw[aO a,filterMap_append];congr 1;have b:X.getD k (none,[])=X[k]:=by rw[af,ah a];rfl
 rw[b];cases h:X[k].1 with
 | none=>rw[filterMap_cons_none h];rfl
 | some c=>rw[filterMap_cons_some h];rfl
theorem MB{X:List (Option cZ×SC)}(a:∀x∈X,RF x):∀m∈nE X,Gj m:=λm b=>by
 obtain⟨x,c,d⟩:=mem_filterMap.1 b;exact((a x c).2.2.1 m d).2
def um(m:cZ):ByteArray:=strOfNums (kS (bX m))
def xh(m:cZ):Lit:=.string (um m).data.toList
theorem Ps{m a:cZ}(b:Gj m)(c:Gj a)(hs:m.seq≠a.seq):xh m≠xh a:=λd=>by
 have e:(um m).data.toList=(um a).data.toList:=by unfold xh at d;injection d
 have d:um m=um a:=by
  rcases hx:um m with⟨h⟩;rcases hy:um a with⟨i⟩;rw[hx,hy] at e;have:h=i:=Array.ext' e;rw[this]
 have j:bX m=bX a:=(Gb b.2.1.2.2 c.2.1.2.2).1 (by unfold um at d;rw[d])
 have k:bT m.seq 4=bT a.seq 4:=by
  have f:∀m:cZ,(bX m).take 4=bT m.seq 4:=λm=>by
   unfold bX;simp only[append_assoc];exact take_left' (dz _ _)
  rw[<-f m,<-f a,j]
 have l:=b.1.1.2;have n:=c.1.1.2;have g:=congrArg dJ k;rw[yM (by omega),yM (by omega)] at g;exact hs g
theorem Pt(X:List (Option cZ×SC))(a:SE)(n c:Nat)(w:World)(hx:(rM (X.map (·.2))).ok w Any [slice a n c])(r:X.length=n)(hn:n<=1000)(hX:∀x∈X,RF x)(v:1<=(nE X).length)(aY:(nE X).length<=19)(a0:((nE X).map cZ.seq).Pairwise (·≠ ·)):
 Calls prog 262 #[slice a n c] w λi b=>∃g d A q,i=returned (slice (some ⟨g,0,none⟩) d A)/\q.length=d/\d<=19/\(q.map ManV.m).Perm (nE X)/\Sr b g q/\(∀y∈q,ManR b (Fr w.heap.size) y)/\(w.heap.size<=g/\g<b.heap.size)/\Below w.heap.size w b:=by
 have HX:=ae ((rM _).more hx λd _ r=>(r:Bl w.heap.size d));have aA:=ae hX;have HL:=ae r;have bw:=ae a0;have H1:=ae v;have ap:=ae aY;have bz:=λb w=>run_makeMap (P:=prog) b w;have a3:Sz (OwnS w w.heap.size 386 5 Any (slice none 0 0) ((nE (X.take 0)).map Pp)):=ae (OwnS.nil _ _ _ _ _);have a4:=ae (aC w.heap.size w);clear hx r hX a0 v aY;go_enter func262,ntmps262;go_wp2_with fail;go_loopw [3,18] (λab C wr=>∃k:Nat,k<=n/\C=int i64 k/\Sz (OwnS wr w.heap.size 386 5 Any ab ((nE (X.take k)).map Pp))/\Sz (Below w.heap.size w wr)) (λ_ C _=>n-(intOf C).toNat)
 case atStart=>exact⟨0,by omega,rfl,a3,a4⟩
 case round=>
  clear a3 a4;obtain⟨k,bB,rfl,m,L⟩:=hrel;obtain⟨av,O,cv,rfl⟩:=m.o.sl;by_cases V:k<n
  ·have b0:(k:Int)<(n:Int):=by omega
   have W:k<X.length:=(by rw[HL.o];exact V);have an:=aA.o (X.getD k (none,[])) (by rw[af,ah W];exact aQ W);have J:=ae (Jc W);have hR:((X.map (·.2)).map rB)[k]? =some (rB (X.getD k (none,[])).2):=(by rw[List.getElem?_map,List.getElem?_map,af,ah W];rfl);obtain⟨bx,ox,ds,rfl,hF,az,b,aq,e⟩:=su (k:=1) ((rM _).new HX.o L.o) (by decide) V hR;obtain⟨u0,rfl⟩:=length_eq_one_iff.1 aq;have aB:((nE (X.take k)).map Pp).length<=1000000:=(by rw[aG];unfold nE;have v:=length_filterMap_le (·.1) (X.take k);rw[aH] at v;omega);generalize nE (X.take k)=aD at*;generalize X.getD k (none,[])=ao at*;obtain⟨oy,ak⟩:=ao;obtain⟨U,G,Z,q4⟩:=an;simp only at*;obtain⟨f,j,rfl,K,-,S⟩:=eU b U;have ar:=e 0 _ rfl;rw[Nat.mul_one,Nat.add_zero] at ar;have ac:=ae b;have aE:=ae G;clear e aq hR b;cases oy with
   | none=>
     have D:=ae (DR ak f j wr K G S (q4 rfl));rw[Option.toList_none,append_nil] at J;rw[<-J.o] at m;unfold yI at D;clear K U G Z q4 ac S;go_wp2_with fail;refine D.o.mono ?_;rintro i M ⟨rfl,l⟩;have t:=(aC M.heap.size M).alloc (aj _) (cells #[int i64 0,int i64 0,int i64 0,slice none 0 0,slice none 0 0] 386);have T:=ae ((m.o.new l).new t);have I:=ae (L.o.trans ((l.trans (t.mono l.size)).mono L.o.size));clear t l D m;go_wp2_with fail;go_roundw
     case rel=>exact⟨k+1,by omega,by go_num,T,I⟩
     case measure=>simp[intOf];omega
   | some b=>
     obtain⟨rfl,aa⟩:=Z b rfl;have D:=ae (Pk b f j wr aa.2.1 aa.2.2.1 (by have:=aa.1.1.2;omega) K G S);rw[show(some b).toList=[b] from rfl] at J;unfold yh at D;clear K U G Z q4 S;go_wp2_with fail;refine D.o.mono ?_;rintro i M ⟨E,u,A,al,rfl,ad,l⟩;have t:=(aC M.heap.size M).alloc (aj _) (cells #[int i64 b.seq,int i64 0,int i64 1,slice E u A,slice f 64 j] 386);have Y:=l.trans (t.mono l.size);have ag:=ae (Blk.new M 386 #[int i64 b.seq,int i64 0,int i64 1,slice E u A,slice f 64 j]);have T:=ae (m.o.new Y);have I:=ae (L.o.trans (Y.mono L.o.size));have au:w.heap.size<=(M.alloc (cells #[int i64 b.seq,int i64 0,int i64 1,slice E u A,slice f 64 j] 386)).heap.size:=I.o.size;have ai:Sz ((Pp b).ok (M.alloc (cells #[int i64 b.seq,int i64 0,int i64 1,slice E u A,slice f 64 j] 386)) (λd=>Any d/\some d≠(Value.slice av O cv).ownBlock) [int i64 b.seq,int i64 0,int i64 1,slice E u A,slice f 64 j]):=ae (qj (x:=[int i64 b.seq,int i64 0,int i64 1]) (uf (by intro b1 Q;simp at Q;rcases Q with rfl | rfl | rfl <;> rfl)) (qj (x:=[slice E u A]) ((rB _).more ((rB _).new ad t) λd e _=>⟨trivial,λi=>by have v:=(m.o.lt d i.symm).2;have N:wr.heap.size<=d:=e;omega⟩) ((rB _).more ((rB _).new ac.o Y) λd e _=>⟨trivial,λi=>by have v:=(m.o.lt d i.symm).1;have N:d<w.heap.size:=e;omega⟩)));clear t Y ad l D m al;go_upto_region 7 with fail;generalize M.alloc (cells #[int i64 b.seq,int i64 0,int i64 1,slice E u A,slice f 64 j] 386)=w4 at*;generalize M.heap.size=G4 at*;obtain⟨x0,x1,x2,x3,x4⟩:=ni ag.o
     go_wp2_with (at_builtin;refine iA (w:=w4) (w1:=w4) rfl _ _ rfl underlying384 Pq rfl (by decide) (by decide) T.o (aC _ _) au aB (R:=Pp b) ai.o rfl rfl rfl ?_)
     intro v6 w6 ad am;have aw:Sz (OwnS w6 w.heap.size 386 5 Any v6 ((nE (X.take (k+1))).map Pp)):=ae (by rw[J.o,aU];exact ad);have ay:=ae (I.o.trans am);clear ad am T ai ag I x0 x1 x2 x3 x4;go_wp2_with fail;go_roundw
     case rel=>exact⟨k+1,by omega,by go_num,aw,ay⟩
     case measure=>simp[intOf];omega
  ·obtain rfl:k=n:=by omega
   rw[aN (by rw[HL.o];exact aj _)] at m;have a5:=ae (MB aA.o);generalize f:nE X=l at*;have b2:=ae f;clear f;have f:l.length=O:=(by have h:=xe m.o.repAny;rwa [aG] at h);have j:Sz ((rS 5 (l.map Pp)).ok wr (Bl wr.heap.size) [slice av O cv]):=ae ((rS 5 _).more m.o.repAny λd _ r=>r);have b3:=L.o.size;have ac:=ae f;clear m HX aA HL f;go_wp2_with fail;have f:=(aC wr.heap.size wr).alloc (aj _) (.map #[] 0);have b5:=ae ((rS 5 _).new j.o f);have a6:Sz ((wr.alloc (.map #[] 0)).ownsMap prog 9 (plainElem (H:=Unit) prog 4) wr.heap.size 0 (.map [])):=ae (World.ownsMap_made wr _ _ _);have b6:Sz (Below w.heap.size w (wr.alloc (.map #[] 0))):=ae (L.o.trans (f.mono L.o.size));have a8:Sz (wr.heap.size+1<=(wr.alloc (.map #[] 0)).heap.size):=ae (by simp);have a9:=ae (aC wr.heap.size (wr.alloc (.map #[] 0)));clear f j L bz;generalize wr.alloc (.map #[] 0)=w1 at*;generalize wr.heap.size=j at*;go_loopw [8,36] (λab C f=>∃k:Nat,k<=O/\C=int i64 k/\∃q:List ManV,Sz (q.map ManV.m=l.take k)/\Sz (OwnS f (j+1) 68 8 (λ_=>False) ab (q.map λy=>Gg (dK y)))/\Sz (∀y∈q,ManR f (λd=>j<d/\some d≠ab.ownBlock) y)/\Sz (∃am,f.ownsMap prog 9 (plainElem (H:=Unit) prog 4) j k am/\∀b∈l.drop k,am.atKey (xh b) (.lit (.bool false))=.lit (.bool false))/\Sz (Below j w1 f)/\Sz (j+1<=f.heap.size)) (λ_ C _=>O-(intOf C).toNat)
   case atStart=>exact⟨0,by omega,rfl,[],ae rfl,ae (OwnS.nil _ _ _ _ _),ae λy Z=>(by cases Z),ae ⟨_,a6.o,λb _=>rfl⟩,a9,a8⟩
   case round=>
    clear a6 a9 a8;obtain⟨k,bB,rfl,q,HD,m,aD,ba,L,HS⟩:=hrel;rename World=>f;obtain⟨bv,mv,ev,rfl⟩:=m.o.sl;have ce:O<=19:=(by rw[<-ac.o];exact ap.o);by_cases V:k<O
    ·have b0:(k:Int)<(O:Int):=by omega
     have W:k<l.length:=(by rw[ac.o];exact V);have b7:Sz (l.take (k+1)=l.take k++[l[k]]):=ae (aO W);have aE:Sz (l.drop k=l[k] :: l.drop (k+1)):=ae (drop_eq_getElem_cons W);have S:=ae (a5.o l[k] (aQ W))
     have b8:Sz (∀T∈l.drop (k+1),xh T≠xh l[k]):=ae λT an=>by
      have v:=bw.o;rw[<-take_append_drop k l,aE.o,aU,map_cons,pairwise_append] at v;have N:=(pairwise_cons.1 v.2.1).1 T.seq (aZ.2 ⟨T,an,rfl⟩);exact Ps (a5.o T (mem_of_mem_drop an)) S.o (Ne.symm N)
     have hR:(l.map Pp)[k]? =some (Pp l[k]):=(by rw[List.getElem?_map,ah W];rfl);have ad:q.length=k:=(by have h:=congrArg List.length HD.o;rw[aG,aH] at h;omega);obtain⟨bp,op,ds,rfl,hF,U,b9,aq,G⟩:=su (k:=5) ((rS 5 _).keep b5.o λd e _=>(⟨L.o.block d e,e⟩:_/\Bl j d)) (by decide) V hR;obtain⟨x,y,rfl,hx,y1,y2,rfl,hv,Q⟩:=b9;have ca:x=[int i64 l[k].seq,int i64 0,int i64 1]:=hx.1;subst ca;generalize l[k]=b at*;obtain⟨v1,rfl⟩:=length_eq_one_iff.1 ((rB (bX b)).len hv);obtain⟨u1,rfl⟩:=length_eq_one_iff.1 ((rB (eD b 0)).len Q);obtain⟨E,A,rfl,-⟩:=eU hv rfl;obtain⟨b',d',rfl,-⟩:=eU Q (jO b 0);obtain⟨u,al⟩:∃u,u=(bX b).length:=⟨_,rfl⟩;rw[<-al] at hv G;have cb:=ae al;have aF:=ae ad;clear al ad;have c0:f.cell? ⟨bp,op+k*5,none⟩=some (int i64 b.seq):=G 0 _ rfl;have C:f.cell? ⟨bp,op+k*5+1,none⟩=some (int i64 0):=G 1 _ rfl;have D:f.cell? ⟨bp,op+k*5+2,none⟩=some (int i64 1):=G 2 _ rfl;have c3:f.cell? ⟨bp,op+k*5+3,none⟩=some (slice E u A):=G 3 _ rfl;have c4:f.cell? ⟨bp,op+k*5+4,none⟩=some (slice b' 64 d'):=G 4 _ rfl;have t:=(aC f.heap.size f).alloc (aj _) (cells #[int i64 b.seq,int i64 0,int i64 1,slice E u A,slice b' 64 d'] 386);have J:=ae (Blk.new f 386 #[int i64 b.seq,int i64 0,int i64 1,slice E u A,slice b' 64 d']);have K:=ae ((rB (bX b)).new ((rB (bX b)).any hv) t);have aa:=ae ((rB (eD b 0)).new ((rB (eD b 0)).any Q) t);have I:=ae t;clear G aq hR U hF hv Q hx t;go_upto_region 14 with fail;clear c0 C D c3 c4;generalize f.alloc (cells #[int i64 b.seq,int i64 0,int i64 1,slice E u A,slice b' 64 d'] 386)=M at*;obtain⟨x0,x1,x2,x3,x4⟩:=ni J.o;have G:=ae (JP b.seq (slice E u A) (slice b' 64 d') (slice (some ⟨bp,op,none⟩) O cv) M rfl rfl);unfold yh at G;go_wp2_with fail;refine G.o.mono ?_;rintro i w4 ⟨g4,rfl,ar,ag,Y⟩;have ai:=ae ((rB _).new K.o Y);have ao:=ae ((rB _).new aa.o Y);have U:=ae (I.o.trans (Y.mono I.o.size));have CW:=ae (NA b S.o.2.2.2.1 g4 u A d' E b' w4 S.o.1 S.o.2.1 S.o.2.2.1 S.o.2.2.2.2.1 ag ai.o ao.o S.o.2.2.2.2.2);clear ar ag Y G J K aa I ai ao x0 x1 x2 x3 x4;unfold bV at CW;go_wp2_with fail;refine CW.o.mono ?_;rintro i w5 ⟨G,I,C,J,K,D,rfl,ag,ai,aa⟩;have t:=(aC w5.heap.size w5).alloc (aj _) (cells #[int i64 b.seq,int i64 b.next,int i64 b.K,int i64 b.H,int i64 b.Z,int i64 b.extra,slice G I C,slice J K D] 68);have ar:=ae (Blk.new w5 68 #[int i64 b.seq,int i64 b.next,int i64 b.K,int i64 b.H,int i64 b.Z,int i64 b.extra,slice G I C,slice J K D])
     have au:Sz ((rI b.drives).ok (w5.alloc (cells #[int i64 b.seq,int i64 b.next,int i64 b.K,int i64 b.H,int i64 b.Z,int i64 b.extra,slice G I C,slice J K D] 68)) (Fr f.heap.size) [slice G I C]):=ae ((rI _).new ((rI _).more ag λd e _=>aP U.o.size e) t);have aw:Sz ((rS 4 (b.objs.map df)).ok (w5.alloc (cells #[int i64 b.seq,int i64 b.next,int i64 b.K,int i64 b.H,int i64 b.Z,int i64 b.extra,slice G I C,slice J K D] 68)) (Fr f.heap.size) [slice J K D]):=ae ((rS 4 _).new ((rS 4 _).more ai λd e _=>aP U.o.size e) t);have aK:=ae ((U.o.trans (aa.mono U.o.size)).trans (t.mono (aP U.o.size aa.size)));have bb:Sz (f.heap.size<=w5.heap.size):=ae (aP U.o.size aa.size);clear ag ai aa t CW U;go_upto_region 18 with fail;generalize w5.alloc (cells #[int i64 b.seq,int i64 b.next,int i64 b.K,int i64 b.H,int i64 b.Z,int i64 b.extra,slice G I C,slice J K D] 68)=w6 at*;generalize w5.heap.size=G6 at*;obtain⟨x0,x1,x2,x3,x4,x5,x6,x7⟩:=bW ar.o;have CP:=ae (uw b S.o.2.2.2.1 G J I C K D (Fr f.heap.size) w6 au.o (rI_n au.o) aw.o (by have:=xe aw.o;rwa [aG] at this) S.o.1);unfold bV at CP;go_wp2_with fail;refine CP.o.mono ?_;rintro i w7 ⟨v7,rfl,bc,ao⟩;obtain⟨a7,c7,rfl,bd,-⟩:=bc.rd2 cb.o.symm;have cf:(convert 30 9 (slice a7 u c7)).run prog w7=.ok (.string (um b)) w7:=wV bd c7;have aL:=ae (ar.o.below ao ar.o.lt);have be:=ae ((rI _).new au.o ao);have bf:=ae ((rS 4 _).new aw.o ao);have ag:=ae (aK.o.trans (ao.mono aK.o.size));have bh:Sz (f.heap.size<=G6/\G6<w7.heap.size):=ae ⟨bb.o,aL.o.lt⟩;obtain⟨Dm,aM,aR⟩:=ba.o
     have aS:w7.ownsMap prog 9 (plainElem (H:=Unit) prog 4) j k Dm:=by
      have V:=aM.lt;obtain⟨es,aT,e,ak⟩:=aM;exact⟨es,aT,(ag.o.block j V).trans e,ak⟩
     have bi:(um b).size<=maxLen:=by
      unfold um;rw[strOfNums_size];unfold kS;rw[aG];have:=S.o.2.2.1;unfold maxLen;omega
     have aV:keyOf prog 9 (.string (um b))=some (xh b):=WideMaps.keyOf_string_mk underlying9 bi
     have ch:(Instr.lookup 389 (.map (some j)) (.string (um b)) false).run prog w7=.ok (bool false) w7:=by
      obtain⟨ab,ps,v,N⟩:=aS.lookup (string_keyed underlying9) underlying389 (z:=bool false) (Tryz.zeroValue4 w7) (plainElem_bool underlying4 false) aV;rw[aR b (by rw[aE.o];exact mem_cons_self ..)] at N;rw[v]
      have hv:ab=bool false:=by
       unfold plainElem at N;rw[underlying4] at N;cases ab <;> simp at N;rw[N.1]
      rw[hv]
     obtain⟨U,ci,bj,ay⟩:=aS.update (string_keyed underlying9) underlying389 (by have:=ap.o;have:=ac.o;unfold maxLen;omega) aV (plainElem_bool (H:=Unit) underlying4 true);have cc:j<f.heap.size:=(by have:=HS.o;omega);have ai:∀d,d<w7.heap.size->d≠j->U.heap[d]? =w7.heap[d]? :=λd e aa=>ay.block d e (λi=>aa (Option.some.inj i));have bk:Sz (Blk U G6 68 #[int i64 b.seq,int i64 b.next,int i64 b.K,int i64 b.H,int i64 b.Z,int i64 b.extra,slice G I C,slice J K D]):=ae ((ai G6 bh.o.2 (by have:=bh.o;omega)).trans aL.o);have az:=ae (m.o.new ag.o);have bl:Sz (OwnS U (j+1) 68 8 (λ_=>False) (slice bv mv ev) (q.map λy=>Gg (dK y))):=ae (az.o.keepAt (λd e=>ai d (az.o.lt d e).2 (by have:=(az.o.lt d e).1;omega)) λd e _ _=>e.elim);have bm:=ae ((rI _).keep be.o λd e r=>(⟨ai d r (by have h:f.heap.size<=d:=e;omega),e⟩:_/\Fr f.heap.size d));have bo:=ae ((rS 4 _).keep bf.o λd e r=>(⟨ai d r (by have h:f.heap.size<=d:=e;omega),e⟩:_/\Fr f.heap.size d));have cd:=ay.size;have aX:Sz (Below j f U):=ae ((ag.o.mono (Nat.le_of_lt cc)).grown ay (by have:=ag.o.size;omega) λg hg=>by cases hg;exact aj _);have br:Sz (∀d,d<f.heap.size->d≠j->U.heap[d]? =f.heap[d]?):=ae λd e aa=>(ai d (by have:=ag.o.size;omega) aa).trans (ag.o.block d e)
     have bs:Sz (U.ownsMap prog 9 (plainElem (H:=Unit) prog 4) j (k+1) (Dm.put (xh b) (.lit (.bool true)))/\∀T∈l.drop (k+1),(Dm.put (xh b) (.lit (.bool true))).atKey (xh T) (.lit (.bool false))=.lit (.bool false)):=ae ⟨bj,λT an=>by
      rw[atKey_put_other (b8.o T an)];exact aR T (by rw[aE.o];exact mem_cons_of_mem _ an)⟩
     have bt:j+1<=U.heap.size:=(by have:=ag.o.size;omega);have aB:(q.map λy=>Gg (dK y)).length<=1000000:=(by rw[aG,aF.o];have:=ap.o;have:=ac.o;omega);have HY:Sz ((Gg (dK ⟨b,G,I,C,J,K,D⟩)).ok U (λd=>False/\some d≠(Value.slice bv mv ev).ownBlock) [int i64 b.seq,int i64 b.next,int i64 b.K,int i64 b.H,int i64 b.Z,int i64 b.extra,slice G I C,slice J K D]):=ae ⟨rfl,by intro b1 Q;simp[dK,ManV.arr,bV] at Q;rcases Q with rfl | rfl | rfl | rfl | rfl | rfl | rfl | rfl <;> rfl⟩;clear bc bd ao CP ar au aw aK bb x0 x1 x2 x3 x4 x5 x6 x7 aM aR aS aV bi bj ay ai cd aL be bf az;obtain⟨x0,x1,x2,x3,x4,x5,x6,x7⟩:=bW bk.o
     go_wp2_with (at_builtin;refine iL (w:=U) rfl _ _ rfl underlying259 Mx rfl (by decide) (by decide) bl.o bt aB (R:=Gg (dK ⟨b,G,I,C,J,K,D⟩)) HY.o rfl rfl rfl ?_)
     intro v9 T ao ar au ai aw;have ay:Sz (OwnS T (j+1) 68 8 (λ_=>False) v9 ((q++[(⟨b,G,I,C,J,K,D⟩:ManV)]).map λy=>Gg (dK y))):=ae (by rw[aU];exact ao);have az:Sz (Below j w1 T):=ae ((L.o.trans aX.o).trans (ar.mono (Nat.le_succ j)));have aK:Sz (j+1<=T.heap.size):=ae (aP bt au)
     have an:∀d,d<U.heap.size->some d≠(Value.slice bv mv ev).ownBlock->some d≠v9.ownBlock:=λd e aa i=>by
      rcases aw with h | ⟨aL,h,hq⟩
      ·exact aa (i.trans h)
      ·rw[h] at i
       injection i with i;omega
     have aM:Sz (∀y∈q++[(⟨b,G,I,C,J,K,D⟩:ManV)],ManR T (λd=>j<d/\some d≠v9.ownBlock) y):=ae λy Z=>by
      have aR:=aX.o.size;rcases bF.1 Z with Z | Z
      ·exact(aD.o y Z).keep λd e r=>⟨(ai d (by omega) e.2).trans (br.o d r (by omega)),e.1,an d (by omega) e.2⟩
      ·obtain rfl:=mem_singleton.1 Z
       have aa:∀d,Fr f.heap.size d->some d≠(Value.slice bv mv ev).ownBlock:=λd e i=>(by have v:=(m.o.lt d i.symm).2;have N:f.heap.size<=d:=e;omega);exact ManR.keep (F:=Fr f.heap.size) ⟨bm.o,bo.o⟩ λd e r=>⟨ai d r (aa d e),by have N:f.heap.size<=d:=e;omega,an d r (aa d e)⟩
     have aa:Sz (∃am,T.ownsMap prog 9 (plainElem (H:=Unit) prog 4) j (k+1) am/\∀b∈l.drop (k+1),am.atKey (xh b) (.lit (.bool false))=.lit (.bool false)):=ae (by
      obtain⟨v,N⟩:=bs.o;refine⟨_,?_,N⟩;have V:=v.lt;obtain⟨es,aT,e,ak⟩:=v;exact⟨es,aT,(ai j V λi=>by have v:=(m.o.lt j i.symm).1;omega).trans e,ak⟩)
     have am:Sz ((q++[(⟨b,G,I,C,J,K,D⟩:ManV)]).map ManV.m=l.take (k+1)):=ae (by rw[aU,HD.o,b7.o];rfl);clear ao ar au ai aw an bl aD ba aX br bs HY bk bm bo x0 x1 x2 x3 x4 x5 x6 x7;go_wp2_with fail;go_roundw
     case rel=>exact⟨k+1,by omega,by go_num,_,am,ay,aM,aa,az,aK⟩
     case measure=>simp[intOf];omega
    ·obtain rfl:k=O:=by omega
     have b:q.map ManV.m=l:=(by rw[HD.o];exact aN (by rw[ac.o];exact aj _));have ad:q.length=k:=(by have h:=congrArg List.length b;rw[aG,ac.o] at h;exact h);have K:=H1.o;have t:=ap.o;rw[ac.o] at K t;obtain⟨g,U,i,u,A,C⟩:=QC m.o (by omega);injection i with N D Q;subst N Q;rw[ad] at D;subst D;have E:=ae (KN q g mv ev f C A ad t);have S:=ae b;have aF:=ae ad;have G:=ae u;clear b ad u C m;go_wp2_with fail;refine E.o.mono ?_;rintro i M ⟨rfl,d',C,I,J⟩;have T:=ae I;have b:=ae C;have u:=ae J;clear C I J E;go_wp2_with fail;go_ret;refine⟨g,_,_,d',rfl,?_,t,?_,Kz T.o,λy Z=> ?_,?_,?_⟩
     ·rw[b.o.length_eq];exact aF.o
     ·rw[b2.o,<-S.o];exact b.o.map _
     ·exact(aD.o y (b.o.mem_iff.1 Z)).keep λd e r=>⟨u.o.block d r λi=>e.2 (by rw[i];rfl),by show w.heap.size<=d;omega⟩
     ·exact⟨by have:=G.o;omega,aW A u.o.size⟩
     ·exact b6.o.trans ((L.o.mono b3).trans (u.o.below (by have:=HS.o;omega) λaL i=>by have:=G.o;omega))
end
section
open Go.RowKit Go.Sort
variable {B:Nat}
def EI(a m:cZ):Prop:=m.seq<=a.seq/\(m.seq=a.seq->m=a)
def Py(c:cZ)(C:Nat)(w':World)(g d:Nat)(a:List ManV):Prop:=a.length=d/\d<=19/\Sr w' g a/\(∀b∈a,ManR w' (Fr C) b)/\(C<=g/\g<w'.heap.size)/\(∀b∈a,EI c b.m)/\∃b∈a,b.m=c
theorem xq{w w':World}{g o:Nat}(a:w'.heap[g]? =w.heap[g]?):w'.cell? ⟨g,o,none⟩=w.cell? ⟨g,o,none⟩:=by
 unfold World.cell?;rw[a]
theorem Jk(y:cZ)(ga aa N c:Nat)(D:Nat->Nat)(w:World)(hN:1<=N/\N<=64)(hc:∀i,i<64->w.cell? ⟨ga,aa+i,none⟩=some (iF N D i))(aS:ga<w.heap.size)
 (hL:∀k,k<N->∀W,Below w.heap.size w W->Calls prog 90 #[pointer (some ⟨D k,0,none⟩)] W λA a=>A=returned (bool false)/\a=W)
 (J:∀k,k<N->∀W,Below w.heap.size w W->Calls prog 208 #[pointer (some ⟨D k,0,none⟩)] W λA a=>∃g T c' t,A=returned (slice (some ⟨g,0,none⟩) T c')/\Py y W.heap.size a g T t/\Below W.heap.size W a):
 Calls prog 143 #[slice (some ⟨ga,aa,none⟩) 64 c] w λA a=>∃f j c1 l m c2,A=returned (.tuple #[.agg (bV y (slice f j c1) (slice l m c2)),bool true])/\(rI y.drives).ok a (Fr w.heap.size) [slice f j c1]/\(rS 4 (y.objs.map df)).ok a (Fr w.heap.size) [slice l m c2]/\Below w.heap.size w a:=by
 have F:=ae hc;have HL:=ae hL;have HM:=ae J;have b:(w.alloc (.cells jB 68)).heap.size=w.heap.size+1:=by simp
 obtain⟨w0,a⟩:∃w0,w0=(w.alloc (.cells jB 68)).alloc (.cells jB 68):=⟨_,rfl⟩;have ax:Sz (Below w.heap.size w w0):=ae (by rw[a];exact((aC _ _).alloc (aj _) _).alloc (by simp) _);have ay:Sz (Blk w0 w.heap.size 68 jB):=ae (by rw[a];exact(Blk.new w _ _).alloc _);have ao:Sz (Blk w0 (w.heap.size+1) 68 jB):=ae (by rw[a,<-b];exact Blk.new _ _ _);have ap:=ae a;have aT:=ae hN;clear hc hL J a b hN;go_enter func143,ntmps143;unfold jB at ap;refine wp_seq_k λK1 G=> ?_;have H:=ae G;clear G;go_wp2_with fail;refine H.o _ _ ?_;clear H;refine mU 0 0 (λak a' u=>∃(k:Nat) (i:Int) (I:Bool),(64<k+ak/\k<=64/\Sz (i=(k:Int)-1)/\Sz (Below w.heap.size w u)/\Sz (Blk u w.heap.size 68 jB)/\Sz (k=0/\I=false/\Blk u (w.heap.size+1) 68 jB\/I=true/\∃b:ManV,Blk u (w.heap.size+1) 68 b.arr/\ManR u (Fr (w.heap.size+2)) b/\b.m=y)/\Sz (w.heap.size+2<=u.heap.size))/\∃e:Nat->Value,a'= { tmps:=#[slice (some ⟨ga,aa,none⟩) 64 c,undef,pointer (some ⟨w.heap.size,0,none⟩),bool false,pointer (some ⟨w.heap.size+1,0,none⟩),.bool I,int i64 i,e 7,e 8,e 9,e 10,e 11,e 12,e 13,e 14,e 15,e 16,e 17,e 18,e 19,e 20,e 21,e 22,e 23,e 24,e 25,e 26,e 27,e 28,e 29,e 30,e 31,e 32,e 33,e 34,e 35,e 36,e 37,e 38,e 39,e 40,e 41,e 42,e 43,e 44,e 45,e 46,e 47,e 48,e 49],defers:=[] }) (λ_ _=>False) 65 _ rfl rfl ?_ ?_ (λ_ _ h=>h.elim)
 ·intro n a
  have d:=ae a;clear a;refine wp_seq_k λK1 G=> ?_;have H:=ae G;clear G;go_wp2_with fail;refine H.o _ _ ?_;clear H;refine wp_seq_k λK1 G=> ?_;have H:=ae G;clear G;go_wp2_with fail;refine H.o _ _ ?_;clear H;refine wp_seq_k λK1 G=> ?_;have H:=ae G;clear G;go_wp2_with fail;refine H.o _ _ ?_;clear H;refine wp_seq (wp_label ?_);rw[<-ap.o];refine d.o _ _ ?_;exact⟨0,-1,false,⟨by omega,by omega,ae rfl,ax,ay,ae (.inl ⟨rfl,rfl,ao.o⟩),ae (by have:=ao.o.lt;omega)⟩,dZ _ _ rfl⟩
 ·rintro ak a' u ⟨k,i,I,⟨hx,bf,HI,M,U,HF,HS⟩,e,rfl⟩
  clear ax ay ao ap;have bh:IntKind.i64.wrap (i+1)=(k:Int):=(by rw[HI.o,IntKind.wrap_i64];omega);by_cases aV:k<64
  ·have bi:¬(64:Int)<=(k:Int):=by omega
   have cx:u.cell? ⟨ga,aa+k,none⟩=some (iF N D k):=(M.o.cell (p:=⟨ga,aa+k,none⟩) aS).trans (F.o k aV);by_cases al:k<N
   ·rw[show iF N D k=pointer (some ⟨D k,0,none⟩) by unfold iF;rw[bu al]] at cx
    have d:=ae (HL.o k al u M.o);have n:=ae (HM.o k al u M.o);generalize D k=dk at*;go_wp2_with fail;refine d.o.mono ?_;rintro A w3 ⟨rfl,rfl⟩;go_wp2_with fail;refine n.o.mono ?_;rintro A K ⟨g,T,c',t,rfl,aX,a⟩;obtain⟨q,bj,r,ab,⟨z,C⟩,R,S⟩:=aX;have aY:=ae r;have a0:=ae ab;have a3:=ae R;have a4:=ae S;have az:=ae q;have a5:=ae C;have ac:Sz (w.heap.size+2<=w3.heap.size/\w3.heap.size<=K.heap.size):=ae ⟨HS.o,a.size⟩;have a6:=ae z;have aA:=ae (M.o.trans (a.mono M.o.size));have aB:Sz (k=0/\I=false/\Blk K (w.heap.size+1) 68 jB\/I=true/\∃b:ManV,Blk K (w.heap.size+1) 68 b.arr/\ManR K (Fr (w.heap.size+2)) b/\b.m=y):=ae (HF.o.elim (λh=>.inl ⟨h.1,h.2.1,h.2.2.below a h.2.2.lt⟩) λ⟨O,b,E,V,Q⟩=>.inr ⟨O,b,E.below a E.lt,V.keep λv x L=>⟨a.block v L,x⟩,Q⟩);have a7:=ae (U.o.below a U.o.lt);have aD:Sz (Chg (·=w.heap.size+1) K K):=ae (Chg.refl _ _);clear z q r ab C R S a d n M HF U HS cx;go_wp2_with fail;go_loopw [5,35] (λa i wr=>∃n:Nat,∃Y:Bool,n<=T/\i=int i64 n/\a=.bool Y/\Sz (Chg (·=w.heap.size+1) K wr)/\Sz (k=0/\n=0/\Y=false/\Blk wr (w.heap.size+1) 68 jB\/Y=true/\∃b:ManV,Blk wr (w.heap.size+1) 68 b.arr/\ManR wr (Fr (w.heap.size+2)) b/\EI y b.m/\∀i,i<n->(t.getD i default).m.seq<=b.m.seq)) (λ_ i _=>T-(intOf i).toNat)
    case atStart=>exact⟨0,I,by omega,rfl,rfl,aD,ae (aB.o.elim (λh=>.inl ⟨h.1,rfl,h.2.1,h.2.2⟩) λ⟨O,b,E,V,Q⟩=>.inr ⟨O,b,E,V,⟨by rw[Q];exact aj _,λ_=>Q⟩,λi Z=>absurd Z (by omega)⟩)⟩
    case round=>
     clear aD aB;obtain⟨n,Y,hj,rfl,rfl,F,am⟩:=hrel;rename World=>wr;by_cases a8:n<T
     ·have bk:(n:Int)<(T:Int):=by omega
      have aq:n<t.length:=(by rw[az.o];exact a8);have q:t.getD n default∈t:=(by rw[af,ah aq];exact aQ aq);have a9:g≠w.heap.size+1:=by have:=a6.o;have:=ac.o;omega
      have a:∀d,d<8->wr.cell? ⟨g,n*8+d,none⟩=(dK (t.getD n default))[d]? :=λd r=>by
       rw[<-aY.o n aq d r];exact xq (F.o.block g a5.o a9)
      have z:Sz (ManR wr (Fr (w.heap.size+2)) (t.getD n default)):=ae ((a0.o _ q).keep λv x L=>⟨F.o.block v L (by have h:w3.heap.size<=v:=x;have:=ac.o;omega),aP ac.o.1 x⟩);have ar:=ae (a3.o _ q);have d:Sz (∃yj,yj=t.getD n default):=ae ⟨_,rfl⟩
      have an:Sz (∀R,(t.getD n default).m.seq<=R->(∀i,i<n->(t.getD i default).m.seq<=R)->∀i,i<n+1->(t.getD i default).m.seq<=R):=ae λR O E i Z=>by
       rcases Nat.lt_succ_iff_lt_or_eq.1 Z with h | rfl
       ·exact E i h
       ·exact O
      have c0:=a 0 (by omega);have c1:=a 1 (by omega);have c2:=a 2 (by omega);have c3:=a 3 (by omega);have c4:=a 4 (by omega);have c5:=a 5 (by omega);have c6:=a 6 (by omega);have c7:=a 7 (by omega);clear a q d;generalize t.getD n default=yj at*;obtain⟨a,f,j,q,l,m,r⟩:=yj;replace c0:wr.cell? ⟨g,n*8,none⟩=some (int i64 a.seq):=c0;replace c1:wr.cell? ⟨g,n*8+1,none⟩=some (int i64 a.next):=c1;replace c2:wr.cell? ⟨g,n*8+2,none⟩=some (int i64 a.K):=c2;replace c3:wr.cell? ⟨g,n*8+3,none⟩=some (int i64 a.H):=c3;replace c4:wr.cell? ⟨g,n*8+4,none⟩=some (int i64 a.Z):=c4;replace c5:wr.cell? ⟨g,n*8+5,none⟩=some (int i64 a.extra):=c5;replace c6:wr.cell? ⟨g,n*8+6,none⟩=some (slice f j q):=c6;replace c7:wr.cell? ⟨g,n*8+7,none⟩=some (slice l m r):=c7;simp only at ar an;have d:=(aC wr.heap.size wr).alloc (aj _) (cells #[int i64 a.seq,int i64 a.next,int i64 a.K,int i64 a.H,int i64 a.Z,int i64 a.extra,slice f j q,slice l m r] 68);have ba:=ae (Blk.new wr 68 #[int i64 a.seq,int i64 a.next,int i64 a.K,int i64 a.H,int i64 a.Z,int i64 a.extra,slice f j q,slice l m r]);have C:Sz (Chg (·=w.heap.size+1) K (wr.alloc (cells #[int i64 a.seq,int i64 a.next,int i64 a.K,int i64 a.H,int i64 a.Z,int i64 a.extra,slice f j q,slice l m r] 68))):=ae (F.o.trans (Chg.of d));have aE:=ae (z.o.keep λv x L=>(⟨d.block v L,x⟩:_/\Fr (w.heap.size+2) v));have bl:w.heap.size+1<wr.heap.size:=(by have:=ac.o;have:=F.o.size;omega);have au:Sz (k=0/\n=0/\Y=false/\Blk (wr.alloc (cells #[int i64 a.seq,int i64 a.next,int i64 a.K,int i64 a.H,int i64 a.Z,int i64 a.extra,slice f j q,slice l m r] 68)) (w.heap.size+1) 68 jB\/Y=true/\∃b:ManV,Blk (wr.alloc (cells #[int i64 a.seq,int i64 a.next,int i64 a.K,int i64 a.H,int i64 a.Z,int i64 a.extra,slice f j q,slice l m r] 68)) (w.heap.size+1) 68 b.arr/\ManR (wr.alloc (cells #[int i64 a.seq,int i64 a.next,int i64 a.K,int i64 a.H,int i64 a.Z,int i64 a.extra,slice f j q,slice l m r] 68)) (Fr (w.heap.size+2)) b/\EI y b.m/\∀i,i<n->(t.getD i default).m.seq<=b.m.seq):=ae (am.o.elim (λh=>.inl ⟨h.1,h.2.1,h.2.2.1,h.2.2.2.below d h.2.2.2.lt⟩) λ⟨O,b,E,V,Q⟩=>.inr ⟨O,b,E.below d E.lt,V.keep λv x L=>⟨d.block v L,x⟩,Q⟩);clear d F z am;go_upto_region 11 with fail;clear c0 c1 c2 c3 c4 c5 c6 c7;generalize wr.alloc (cells #[int i64 a.seq,int i64 a.next,int i64 a.K,int i64 a.H,int i64 a.Z,int i64 a.extra,slice f j q,slice l m r] 68)=z at*
      generalize wr.heap.size=G8 at*;obtain⟨x0,x1,x2,x3,x4,x5,x6,x7⟩:=bW ba.o;rcases au.o with⟨aF,aK,rfl,ad⟩ | ⟨rfl,b,ad,ab,aL,aM⟩
      ·have S:=ae ad
       have aw:=ae aF;have d:=ae aK;clear ad aF aK au;have ag:Sz (ManR (z.setRow (w.heap.size+1) #[int i64 a.seq,int i64 a.next,int i64 a.K,int i64 a.H,int i64 a.Z,int i64 a.extra,slice f j q,slice l m r]) (Fr (w.heap.size+2)) ⟨a,f,j,q,l,m,r⟩):=ae (aE.o.keep λv x L=>⟨setRow_other _ _ _ _ (by have h:w.heap.size+2<=v:=x;omega),x⟩);have av:Sz (Chg (·=w.heap.size+1) K (z.setRow (w.heap.size+1) #[int i64 a.seq,int i64 a.next,int i64 a.K,int i64 a.H,int i64 a.Z,int i64 a.extra,slice f j q,slice l m r])):=ae ⟨C.o.os,C.o.tape,C.o.output,by simpa using C.o.size,λR hq J=>(setRow_other _ _ _ _ (by first | exact J | exact λA=>J A.symm)).trans (C.o.block R hq J)⟩
       go_wp2_with (change wpList _ _ _ (Oper.mk none (Op.store 68 _ _) _ _ _ _ :: _) _ _;refine wpList_store_row rfl 68 _ _ rfl (w.heap.size+1) #[int i64 a.seq,int i64 a.next,int i64 a.K,int i64 a.H,int i64 a.Z,int i64 a.extra,slice f j q,slice l m r] rfl rfl 68 _ S.o (by kernel_rfl) rfl (by kernel_rfl) ?_)
       have ai:Sz (k=0/\n+1=0/\true=false/\Blk (z.setRow (w.heap.size+1) #[int i64 a.seq,int i64 a.next,int i64 a.K,int i64 a.H,int i64 a.Z,int i64 a.extra,slice f j q,slice l m r]) (w.heap.size+1) 68 jB\/true=true/\∃b:ManV,Blk (z.setRow (w.heap.size+1) #[int i64 a.seq,int i64 a.next,int i64 a.K,int i64 a.H,int i64 a.Z,int i64 a.extra,slice f j q,slice l m r]) (w.heap.size+1) 68 b.arr/\ManR (z.setRow (w.heap.size+1) #[int i64 a.seq,int i64 a.next,int i64 a.K,int i64 a.H,int i64 a.Z,int i64 a.extra,slice f j q,slice l m r]) (Fr (w.heap.size+2)) b/\EI y b.m/\∀i,i<n+1->(t.getD i default).m.seq<=b.m.seq):=ae (.inr ⟨rfl,⟨a,f,j,q,l,m,r⟩,S.o.row #[int i64 a.seq,int i64 a.next,int i64 a.K,int i64 a.H,int i64 a.Z,int i64 a.extra,slice f j q,slice l m r],ag.o,ar.o,an.o _ (aj _) λi Z=>absurd Z (by have:=d.o;omega)⟩);clear S ag C x0 x1 x2 x3 x4 x5 x6 x7;generalize z.setRow (w.heap.size+1) #[int i64 a.seq,int i64 a.next,int i64 a.K,int i64 a.H,int i64 a.Z,int i64 a.extra,slice f j q,slice l m r]=w6 at*;go_wp2_with fail;go_roundw
       case rel=>exact⟨n+1,true,by omega,by go_num,rfl,av,ai⟩
       case measure=>simp[intOf];omega
      ·have S:=ae ad
       have bb:=ae ab;have bc:=ae aL;have aR:=ae aM;clear ad ab aL aM au;obtain⟨d,b1,p1,q1,b2,p2,q2⟩:=b;have z0:z.cell? ⟨w.heap.size+1,0,none⟩=some (int i64 d.seq):=S.o.cell 0;by_cases aw:d.seq<a.seq
       ·have bd:(d.seq:Int)<(a.seq:Int):=by omega
        have be:=ae aw;clear aw;have ag:Sz (ManR (z.setRow (w.heap.size+1) #[int i64 a.seq,int i64 a.next,int i64 a.K,int i64 a.H,int i64 a.Z,int i64 a.extra,slice f j q,slice l m r]) (Fr (w.heap.size+2)) ⟨a,f,j,q,l,m,r⟩):=ae (aE.o.keep λv x L=>⟨setRow_other _ _ _ _ (by have h:w.heap.size+2<=v:=x;omega),x⟩);have av:Sz (Chg (·=w.heap.size+1) K (z.setRow (w.heap.size+1) #[int i64 a.seq,int i64 a.next,int i64 a.K,int i64 a.H,int i64 a.Z,int i64 a.extra,slice f j q,slice l m r])):=ae ⟨C.o.os,C.o.tape,C.o.output,by simpa using C.o.size,λR hq J=>(setRow_other _ _ _ _ (by first | exact J | exact λA=>J A.symm)).trans (C.o.block R hq J)⟩
        go_wp2_with (change wpList _ _ _ (Oper.mk none (Op.store 68 _ _) _ _ _ _ :: _) _ _;refine wpList_store_row rfl 68 _ _ rfl (w.heap.size+1) #[int i64 a.seq,int i64 a.next,int i64 a.K,int i64 a.H,int i64 a.Z,int i64 a.extra,slice f j q,slice l m r] rfl rfl 68 _ S.o (by kernel_rfl) rfl (by kernel_rfl) ?_)
        have ai:Sz (k=0/\n+1=0/\true=false/\Blk (z.setRow (w.heap.size+1) #[int i64 a.seq,int i64 a.next,int i64 a.K,int i64 a.H,int i64 a.Z,int i64 a.extra,slice f j q,slice l m r]) (w.heap.size+1) 68 jB\/true=true/\∃b:ManV,Blk (z.setRow (w.heap.size+1) #[int i64 a.seq,int i64 a.next,int i64 a.K,int i64 a.H,int i64 a.Z,int i64 a.extra,slice f j q,slice l m r]) (w.heap.size+1) 68 b.arr/\ManR (z.setRow (w.heap.size+1) #[int i64 a.seq,int i64 a.next,int i64 a.K,int i64 a.H,int i64 a.Z,int i64 a.extra,slice f j q,slice l m r]) (Fr (w.heap.size+2)) b/\EI y b.m/\∀i,i<n+1->(t.getD i default).m.seq<=b.m.seq):=ae (.inr ⟨rfl,⟨a,f,j,q,l,m,r⟩,S.o.row #[int i64 a.seq,int i64 a.next,int i64 a.K,int i64 a.H,int i64 a.Z,int i64 a.extra,slice f j q,slice l m r],ag.o,ar.o,an.o _ (aj _) λi Z=>aP (aR.o i Z) (Nat.le_of_lt be.o)⟩);clear S ag C x0 x1 x2 x3 x4 x5 x6 x7;generalize z.setRow (w.heap.size+1) #[int i64 a.seq,int i64 a.next,int i64 a.K,int i64 a.H,int i64 a.Z,int i64 a.extra,slice f j q,slice l m r]=w6 at*;go_wp2_with fail;go_roundw
        case rel=>exact⟨n+1,true,by omega,by go_num,rfl,av,ai⟩
        case measure=>simp[intOf];omega
       ·have bd:¬(d.seq:Int)<(a.seq:Int):=by omega
        have ai:Sz (k=0/\n+1=0/\true=false/\Blk z (w.heap.size+1) 68 jB\/true=true/\∃b:ManV,Blk z (w.heap.size+1) 68 b.arr/\ManR z (Fr (w.heap.size+2)) b/\EI y b.m/\∀i,i<n+1->(t.getD i default).m.seq<=b.m.seq):=ae (.inr ⟨rfl,_,S.o,bb.o,bc.o,an.o d.seq (by omega) aR.o⟩);clear aw;go_wp2_with fail;go_roundw
        case rel=>exact⟨n+1,true,by omega,by go_num,rfl,C,ai⟩
        case measure=>simp[intOf];omega
     ·obtain rfl:n=T:=by omega
      have Z:Sz (Y=true/\∃b:ManV,Blk wr (w.heap.size+1) 68 b.arr/\ManR wr (Fr (w.heap.size+2)) b/\b.m=y):=ae (by
       obtain⟨y0,ag,ai⟩:=a4.o;obtain⟨S,ad,rfl⟩:=bH ag;have an:S<n:=(by rw[<-az.o];exact ad);rcases am.o with⟨-,E,-,-⟩ | ⟨O,b,E,V,Q,h5⟩
       ·omega
       ·have a:=h5 S an
        rw[af,ah ad] at a;have z:t[S].m.seq<=b.m.seq:=a;rw[ai] at z;exact⟨O,b,E,V,Q.2 (Nat.le_antisymm Q.1 z)⟩)
      obtain⟨rfl,b,z,C,a⟩:=Z.o;have aq:Sz (Below w.heap.size w wr):=ae (aA.o.trans (F.o.below aA.o.size λR A=>by omega));have R:=ae (a7.o.chg F.o λA=>by omega);have ar:Sz (w.heap.size+2<=wr.heap.size):=ae (by have:=F.o.size;have:=ac.o;omega);have au:Sz (k+1=0/\true=false/\Blk wr (w.heap.size+1) 68 jB\/true=true/\∃b:ManV,Blk wr (w.heap.size+1) 68 b.arr/\ManR wr (Fr (w.heap.size+2)) b/\b.m=y):=ae (.inr ⟨rfl,b,z,C,a⟩);clear z C a Z am F;go_wp2_with fail;go_step3;exact .inl ⟨rfl,ak-1,by omega,k+1,(k:Int),true,⟨by omega,by omega,ae (by omega),aq,R,ae (au.o.elim .inl λh=>.inr ⟨rfl,h.2⟩),ar⟩,dZ _ _ rfl⟩
   ·rw[show iF N D k=pointer none by unfold iF;rw[bA al]] at cx
    have n:Sz (k+1=0/\I=false/\Blk u (w.heap.size+1) 68 jB\/I=true/\∃b:ManV,Blk u (w.heap.size+1) 68 b.arr/\ManR u (Fr (w.heap.size+2)) b/\b.m=y):=ae (HF.o.elim (λh=>absurd h.1 (by have:=aT.o;omega)) .inr);go_wp2_with fail;go_step3;exact .inl ⟨rfl,ak-1,by omega,k+1,(k:Int),I,⟨by omega,by omega,ae (by omega),M,U,n,HS⟩,dZ _ _ rfl⟩
  ·obtain rfl:k=64:=by omega
   obtain⟨rfl,b,z,C,a⟩:I=true/\∃b:ManV,Blk u (w.heap.size+1) 68 b.arr/\ManR u (Fr (w.heap.size+2)) b/\b.m=y:=HF.o.elim (λh=>absurd h.1 (by omega)) id;obtain⟨d,f,j,q,l,m,r⟩:=b;have a:d=y:=a;subst a;have n:Sz (Blk u (w.heap.size+1) 68 #[int i64 d.seq,int i64 d.next,int i64 d.K,int i64 d.H,int i64 d.Z,int i64 d.extra,slice f j q,slice l m r]):=ae z;have t:=ae C;clear z C HF HL HM;have A:Sz (ManR (u.setRow w.heap.size #[int i64 d.seq,int i64 d.next,int i64 d.K,int i64 d.H,int i64 d.Z,int i64 d.extra,slice f j q,slice l m r]) (Fr w.heap.size) ⟨d,f,j,q,l,m,r⟩):=ae (t.o.keep λv x L=>⟨setRow_other _ _ _ _ (by have h:w.heap.size+2<=v:=x;omega),by have h:w.heap.size+2<=v:=x;show w.heap.size<=v;omega⟩);obtain⟨x0,x1,x2,x3,x4,x5,x6,x7⟩:=bW n.o
   go_wp2_with (change wpList _ _ _ (Oper.mk none (Op.store 68 _ _) _ _ _ _ :: _) _ _;refine wpList_store_row rfl 68 _ _ rfl w.heap.size #[int i64 d.seq,int i64 d.next,int i64 d.K,int i64 d.H,int i64 d.Z,int i64 d.extra,slice f j q,slice l m r] rfl rfl 68 _ U.o (by kernel_rfl) rfl (by kernel_rfl) ?_)
   have v:=ae (U.o.row #[int i64 d.seq,int i64 d.next,int i64 d.K,int i64 d.H,int i64 d.Z,int i64 d.extra,slice f j q,slice l m r]);have x:=ae (bS M.o (aj _) #[int i64 d.seq,int i64 d.next,int i64 d.K,int i64 d.H,int i64 d.Z,int i64 d.extra,slice f j q,slice l m r]);clear n t U M x0 x1 x2 x3 x4 x5 x6 x7;generalize u.setRow w.heap.size #[int i64 d.seq,int i64 d.next,int i64 d.K,int i64 d.H,int i64 d.Z,int i64 d.extra,slice f j q,slice l m r]=n at*;go_wp2_with fail
   (try simp only[dL])
   (try simp only[Exit.inBlock,Exit.then])
   refine bodyPost_ret (dC rfl _ _ w.heap.size 68 #[int i64 d.seq,int i64 d.next,int i64 d.K,int i64 d.H,int i64 d.Z,int i64 d.extra,slice f j q,slice l m r] (0,0) _ rfl v.o underlying68 rfl (by kernel_rfl)) rfl ?_;exact⟨f,j,q,l,m,r,rfl,A.o.1,A.o.2,x.o⟩
end
section
variable {B:Nat}
def dE(s o K H Z ex n:Nat)(a:List eB):cZ:=⟨s,o,K,H,Z,ex,range n,a⟩
theorem Sd(s o s1 o1 K H Z ex n:Nat)(e:eB)(D J E:SE)(G M I:Nat)(F:Nat->Prop)(w:World)(am:s+1=s1)(Q:o+1=o1)(au:s<=100000)(av:o<=100000)(hn:n<=64)(hd:(rI (range n)).ok w F [slice D n G])(ho:(rS 4 []).ok w F [slice J 0 M])(ht:(rI e.tries).ok w (Fm w) [slice E e.tries.length I]):
 Calls prog 105 #[.agg (bV (dE s o K H Z ex n []) (slice D n G) (slice J 0 M)),.agg (fJ e (slice E e.tries.length I))] w λY b=>∃v a c,Y=returned (.agg (bV (dE s1 o1 K H Z ex n [e]) v (slice a 1 c)))/\OwnI b w.heap.size v (range n)/\(rS 4 ([e].map df)).ok b (Fm b) [slice a 1 c]/\Below w.heap.size w b:=by
 have HT:Sz ((rI e.tries).ok w (λb=>b<w.heap.size/\Fm w b) [slice E e.tries.length I]):=ae ((rI _).more ht λb d f=>⟨f,d⟩);have S:=ae λw (h:(rI (range n)).ok w F [slice D n G])=>Ez (dE s o K H Z ex n []) D J n G M F w h bg (by omega) (kr ho w F);have j:=ae hd;have az:IntKind.i64.wrap ((s:Int)+1)=(s1:Int):=by rw[IntKind.wrap_i64];omega
 have aA:IntKind.i64.wrap ((o:Int)+1)=(o1:Int):=by rw[IntKind.wrap_i64];omega
 clear hd ht hn ho am Q au av;obtain⟨u,x,y,t⟩:=e;unfold bV dE at S ⊢;unfold fJ;simp only at*;obtain⟨l,f⟩:∃l,l=((w.alloc (cells #[int i64 s,int i64 o,int i64 K,int i64 H,int i64 Z,int i64 ex,slice D n G,slice J 0 M] 68)).alloc (cells #[.string u,int i64 x,int i64 y,slice E t.length I] 65)).alloc (cells #[int i64 0,int i64 0,int i64 0,int i64 0,int i64 0,int i64 0,slice none 0 0,slice none 0 0] 68):=⟨_,rfl⟩;have i:(w.alloc (cells #[int i64 s,int i64 o,int i64 K,int i64 H,int i64 Z,int i64 ex,slice D n G,slice J 0 M] 68)).heap.size=w.heap.size+1:=by simp
 have k:((w.alloc (cells #[int i64 s,int i64 o,int i64 K,int i64 H,int i64 Z,int i64 ex,slice D n G,slice J 0 M] 68)).alloc (cells #[.string u,int i64 x,int i64 y,slice E t.length I] 65)).heap.size=w.heap.size+1+1:=by simp
 have T:Sz (Blk l w.heap.size 68 #[int i64 s,int i64 o,int i64 K,int i64 H,int i64 Z,int i64 ex,slice D n G,slice J 0 M]):=ae (by rw[f];exact((Blk.new w _ _).alloc _).alloc _);have m:Sz (Blk l (w.heap.size+1) 65 #[.string u,int i64 x,int i64 y,slice E t.length I]):=ae (by rw[f,<-i];exact(Blk.new _ _ _).alloc _);have g:Sz (Blk l (w.heap.size+1+1) 68 #[int i64 0,int i64 0,int i64 0,int i64 0,int i64 0,int i64 0,slice none 0 0,slice none 0 0]):=ae (by rw[f,<-k];exact Blk.new _ _ _);have aa:Sz (Below w.heap.size w l):=ae (by rw[f];exact(((aC _ _).alloc (aj _) _).alloc (by simp) _).alloc (by simp;omega) _);have q:=ae f;clear f i k;go_enter func105,ntmps105;go_upto_region 1 with fail;rw[<-q.o];have aw:=g.o.lt;clear q;obtain⟨f,i⟩:∃f,f=w.heap.size:=⟨_,rfl⟩;rw[<-i] at T m g aa HT aw ⊢;have HG:=ae i;have U:=ae ((rI _).new j.o (i▸aa.o));clear i j;obtain⟨x0,x1,x2,x3,x4,x5,x6,N⟩:=bW T.o;go_wp2_with fail;refine(S.o l U.o).mono ?_;rintro Y q ⟨v3,z,A,rfl,Q,V,i⟩;obtain⟨j,k,rfl⟩:=Q.lenA;rw[bg] at Q ⊢;have W:Sz (OwnI q l.heap.size (slice j n k) (range n)):=ae Q;have ai:=ae V;have r:=ae (m.o.below i m.o.lt);have O:=ae (g.o.below i g.o.lt);have ak:Sz (Below f w q):=ae (aa.o.trans (i.mono (by omega)));have am:=i.size;clear Q V i T m g U S x0 x1 x2 x3 x4 x5 x6 N;have T:=ae (Blk.new q 68 #[int i64 s1,int i64 o1,int i64 K,int i64 H,int i64 Z,int i64 ex,slice j n k,slice z 0 A]);have g:Sz (Below q.heap.size q (q.alloc (cells #[int i64 s1,int i64 o1,int i64 K,int i64 H,int i64 Z,int i64 ex,slice j n k,slice z 0 A] 68))):=ae ((aC q.heap.size q).alloc (aj _) _);have an:=ae (r.o.below g.o r.o.lt);obtain⟨e0,e1,e2,e3⟩:=fO an.o;have aB:f+1<q.heap.size:=r.o.lt;go_upto_region 4 with fail;have ab:Sz (f+1+1<q.heap.size):=ae O.o.lt;have ac:=ae (O.o.below g.o O.o.lt);have ad:=ae (W.o.below g.o);have U:Sz (OwnS (q.alloc (cells #[int i64 s1,int i64 o1,int i64 K,int i64 H,int i64 Z,int i64 ex,slice j n k,slice z 0 A] 68)) l.heap.size 65 4 (λb=>b<f/\Fm w b) (slice z 0 A) []):=ae ((ai.o _).new g.o);have ag:Sz (Below f w (q.alloc (cells #[int i64 s1,int i64 o1,int i64 K,int i64 H,int i64 Z,int i64 ex,slice j n k,slice z 0 A] 68))):=ae (ak.o.trans (g.o.mono (by omega)));clear r O W ak g ai
 generalize q.alloc (cells #[int i64 s1,int i64 o1,int i64 K,int i64 H,int i64 Z,int i64 ex,slice j n k,slice z 0 A] 68)=O at*;generalize q.heap.size=m at*;have N:O.cell? ⟨m,7,none⟩=some (slice z 0 A):=T.o.cell 7;have V:Sz ((df ⟨u,x,y,t⟩).ok O (λb=>(b<f/\Fm w b)/\some b≠(Value.slice z 0 A).ownBlock) [.string u,int i64 x,int i64 y,slice E t.length I]):=ae ⟨[.string u,int i64 x,int i64 y],[slice E t.length I],rfl,uf (by intro aD hu;simp at hu;rcases hu with rfl | rfl | rfl <;> rfl),(rI t).keep HT.o λb d _=>⟨ag.o.block b d.1,d,λe=>by have h1:=(U.o.lt b e.symm).1;have h2:=d.1;omega⟩⟩;have ax:l.heap.size<=O.heap.size:=by have:=T.o.lt;omega
 go_wp2_with (at_builtin;refine iL (w:=O) (C:=l.heap.size) (F:=λb=>b<f/\Fm w b) (v:=slice z 0 A) (L:=[]) rfl _ _ rfl underlying66 sP rfl (by decide) (by decide) U.o ax (by simp) (R:=df ⟨u,x,y,t⟩) V.o rfl rfl rfl ?_)
 intro v6 r ai ao aE ap ay;obtain⟨g,i,rfl,-⟩:=ai.val;have W:∀b,Ty 68 O b\/Ty 3 O b->r.heap[b]? =O.heap[b]? :=λb d=>ap b (d.elim Ty.lt Ty.lt) λe=>d.elim (λh=>(U.o.ownTy b e.symm).ne h (by decide)) λh=>(U.o.ownTy b e.symm).ne h (by decide);have ak:Sz (OwnS r l.heap.size 65 4 (λb=>b<f/\Fm w b) (slice g 1 i) [df ⟨u,x,y,t⟩]):=ae ai;have S:Sz (Blk r m _ _):=ae ((W m (.inl (Blk.ty T.o))).trans T.o);have aq:Sz (Blk r (f+1+1) _ _):=ae ((W (f+1+1) (.inl (Blk.ty ac.o))).trans ac.o);have al:=ae (ad.o.keepO λb d=>W b (.inr (ad.o.ty b d)));have ar:=ae (ag.o.trans (ao.mono (by omega)));clear ai ao ap ay W V T ac ad U ag N e0 e1 e2 e3 an;have f7:=S.o.frozen 7;have N:r.cell? ⟨m,7,none⟩=some (slice z 0 A):=S.o.cell 7;have ad:Blk (r.setCell ⟨m,7,none⟩ (slice g 1 i)) m 68 #[int i64 s1,int i64 o1,int i64 K,int i64 H,int i64 Z,int i64 ex,slice j n k,slice g 1 i]:=by simpa using S.o.set 7 (slice g 1 i)
 have ag:=ae ad;have U:∀b,b≠m->(r.setCell ⟨m,7,none⟩ (slice g 1 i)).heap[b]? =r.heap[b]? :=λb d=>bJ _ _ _ b d;have T:=ae (aq.o.far (p:=⟨m,7,none⟩) (show f+1+1≠m by have:=ab.o;omega) (slice g 1 i));have W:Sz (OwnI (r.setCell ⟨m,7,none⟩ (slice g 1 i)) l.heap.size (slice j n k) (range n)):=ae (al.o.keepO λb d=>U b λe=>Ty.ne2 e (al.o.ty b d) (Blk.ty S.o) (by decide));have ac:Sz (OwnS (r.setCell ⟨m,7,none⟩ (slice g 1 i)) l.heap.size 65 4 (λb=>b<f/\Fm w b) (slice g 1 i) [df ⟨u,x,y,t⟩]):=ae (ak.o.keepAt (λb d=>U b λe=>Ty.ne2 e (ak.o.ownTy b d) (Blk.ty S.o) (by decide)) λb d _ _=>U b (by have:=ab.o;omega));have ai:Sz (Below f w (r.setCell ⟨m,7,none⟩ (slice g 1 i))):=ae (ar.o.setCell (p:=⟨m,7,none⟩) (by show f<=m;have:=ab.o;omega) _);clear ad U S aq al ak ar;have U:=ae λw=>Iu g i (.func (.func 164) #[] #[]) w;go_upto_region 5 with fail;generalize r.setCell ⟨m,7,none⟩ (slice g 1 i)=w7 at*;clear N f7;obtain⟨x0,x1,x2,x3,x4,x5,x6,N⟩:=bW ag.o;go_wp2_with fail;refine(U.o w7).mono ?_;rintro Y S ⟨rfl,rfl⟩;clear U
 go_wp2_with (change wpList _ _ _ (Oper.mk none (Op.store 68 _ _) _ _ _ _ :: _) _ _;refine wpList_store_row rfl 68 _ _ rfl (f+1+1) #[int i64 s1,int i64 o1,int i64 K,int i64 H,int i64 Z,int i64 ex,slice j n k,slice g 1 i] rfl rfl 68 _ T.o (by kernel_rfl) rfl (by kernel_rfl) ?_)
 have V:=ae (T.o.row #[int i64 s1,int i64 o1,int i64 K,int i64 H,int i64 Z,int i64 ex,slice j n k,slice g 1 i]);have ad:=ae (bS ai.o (show f<=f+1+1 by omega) #[int i64 s1,int i64 o1,int i64 K,int i64 H,int i64 Z,int i64 ex,slice j n k,slice g 1 i]);have U:∀b,b≠f+1+1->(S.setRow (f+1+1) #[int i64 s1,int i64 o1,int i64 K,int i64 H,int i64 Z,int i64 ex,slice j n k,slice g 1 i]).heap[b]? =S.heap[b]? :=λb d=>setRow_other _ _ _ _ (by first | exact d | exact d.symm);have ak:Sz (OwnI (S.setRow (f+1+1) #[int i64 s1,int i64 o1,int i64 K,int i64 H,int i64 Z,int i64 ex,slice j n k,slice g 1 i]) l.heap.size (slice j n k) (range n)):=ae (W.o.keepO λb d=>U b λe=>Ty.ne2 e (W.o.ty b d) (Blk.ty T.o) (by decide));have al:Sz (OwnS (S.setRow (f+1+1) #[int i64 s1,int i64 o1,int i64 K,int i64 H,int i64 Z,int i64 ex,slice j n k,slice g 1 i]) l.heap.size 65 4 (λb=>b<f/\Fm w b) (slice g 1 i) [df ⟨u,x,y,t⟩]):=ae (ac.o.keepAt (λb d=>U b λe=>Ty.ne2 e (ac.o.ownTy b d) (Blk.ty T.o) (by decide)) λb d _ _=>U b (by omega));clear U ag T W ac ai x0 x1 x2 x3 x4 x5 x6 N;generalize S.setRow (f+1+1) #[int i64 s1,int i64 o1,int i64 K,int i64 H,int i64 Z,int i64 ex,slice j n k,slice g 1 i]=T at*;go_wp2_with fail
 (try simp only[Exit.inBlock,Exit.then])
 refine bodyPost_ret (results_cell_row rfl _ _ (f+1+1) 68 #[int i64 s1,int i64 o1,int i64 K,int i64 H,int i64 Z,int i64 ex,slice j n k,slice g 1 i] (0,0) _ rfl V.o underlying68 rfl (by kernel_rfl)) rfl ?_;rw[<-HG.o];refine⟨_,_,_,rfl,ak.o.base (by omega),?_,ad.o⟩;exact(al.o.base (aj _) λb d=>d.2.keep (ad.o.block b d.1)).repM (by decide) (by decide)
end
section
def FD(o K H Z:Nat)(T l:SC)(b id:Nat):dS:=⟨o,b,id,mJ o T b,iM K H Z (mJ o T b:Nat) (qd K H Z o T l b) id⟩
def lH(o K H Z ex:Nat)(T l:SC)(b:Nat->SC)(c s:Nat):List dS:=((range c).map λa=>(DI (K+ex) (b a) s).map (FD o K H Z T l a)).flatten
theorem zx(o K H Z ex:Nat)(T l:SC)(b:Nat->SC)(a s:Nat):iX (fG K H Z ex o T l b a) s=(lH o K H Z ex T l b a s).map (j4 K H Z):=by
 induction a with
 | zero=>rfl
 | succ a c=>
   have d:lH o K H Z ex T l b (a+1) s=lH o K H Z ex T l b a s++(DI (K+ex) (b a) s).map (FD o K H Z T l a):=by
    unfold lH;rw[range_succ,aU,flatten_append];simp
   rw[qM,mi,c,d,aU];congr 1;unfold iX Mh DI;rw[filter_map,map_map,map_map];rfl
theorem J9(o K H Z ex:Nat)(T l:SC)(a:Nat->SC)(b s:Nat):uM (lH o K H Z ex T l a b s):=by
 refine Lt ?_;unfold lH;rw[pairwise_flatten];refine⟨λh c=> ?_,?_⟩
 ·obtain⟨d,_,rfl⟩:=aZ.1 c
  rw[pairwise_map];unfold DI;refine List.Pairwise.filter _ (List.Pairwise.imp ?_ pairwise_lt_range);intro f g e;exact .inr ⟨rfl,.inr ⟨rfl,e⟩⟩
 ·rw[pairwise_map]
  refine List.Pairwise.imp ?_ pairwise_lt_range;intro d i e j f k g;obtain⟨_,_,rfl⟩:=aZ.1 f;obtain⟨_,_,rfl⟩:=aZ.1 g;exact .inr ⟨rfl,.inl e⟩
theorem NP{o K H Z ex a:Nat}{T l:SC}{c:Nat->SC}(d:∀b,b<a->(c b).Nodup/\2<=(c b).length)(s:Nat):(lH o K H Z ex T l c a s).length<=a*((K+ex+1)/2):=by
 induction a with
 | zero=>simp[lH]
 | succ a e=>
   have f:lH o K H Z ex T l c (a+1) s=lH o K H Z ex T l c a s++(DI (K+ex) (c a) s).map (FD o K H Z T l a):=by
    unfold lH;rw[range_succ,aU,flatten_append];simp
   have g:=e λb h=>d b (by omega);have h:=on_le (d a (by omega)).1 (d a (by omega)).2 s (K+ex);rw[f,aI,aG,Nat.succ_mul];omega
theorem NQ{o K H Z ex a b s:Nat}{T l:SC}{c:Nat->SC}(r:b<a):jc o b (lH o K H Z ex T l c a s)=(DI (K+ex) (c b) s).map λd=>(d,iM K H Z (mJ o T b:Nat) (qd K H Z o T l b) d):=by
 induction a with
 | zero=>omega
 | succ a i=>
   have j:lH o K H Z ex T l c (a+1) s=lH o K H Z ex T l c a s++(DI (K+ex) (c a) s).map (FD o K H Z T l a):=by
    unfold lH;rw[range_succ,aU,flatten_append];simp
   rw[j,Da];by_cases k:b=a
   ·subst k
    have f:jc o b (lH o K H Z ex T l c b s)=[]:=by
     unfold jc lH;rw[map_eq_nil_iff,filter_eq_nil_iff];intro g e;obtain⟨t,m,n⟩:=mem_flatten.1 e;obtain⟨q,h,rfl⟩:=aZ.1 m;have h:=bG.1 h;obtain⟨d,_,rfl⟩:=aZ.1 n;show ¬(o == o && q == b)=true;simp;omega
    rw[f,nil_append];unfold jc;rw[filter_eq_self.2 (λg e=>by obtain⟨d,_,rfl⟩:=aZ.1 e;simp[FD]),map_map];rfl
   ·rw[i (by omega)]
    have f:jc o b ((DI (K+ex) (c a) s).map (FD o K H Z T l a))=[]:=by
     unfold jc;rw[map_eq_nil_iff,filter_eq_nil_iff];intro g e;obtain⟨d,_,rfl⟩:=aZ.1 e;show ¬(o == o && a == b)=true;simp;omega
    rw[f,append_nil]
theorem Dr{o K H Z ex a s:Nat}{T l:SC}{c:Nat->SC}{r:dS}(d:r∈lH o K H Z ex T l c a s):∃b id,b<a/\id<K+ex/\r=FD o K H Z T l b id:=by
 obtain⟨i,e,f⟩:=mem_flatten.1 d;obtain⟨b,g,rfl⟩:=aZ.1 e;obtain⟨id,h,rfl⟩:=aZ.1 f;exact⟨b,id,bG.1 g,bG.1 (mem_filter.1 h).1,rfl⟩
theorem NS{s1 o1 o K H Z ex n e ln:Nat}{c:ByteArray}{T:SC}(h:fQ K H Z=true)(i:ex<=16)(f:n<=64)(j:mH c)(k:ln<=K*Z*8)(l:jl (K*Z) ln=e)(d:zB K H Z o e T)(hs:1<=s1/\s1<=100000)(m:o<o1/\o1<=100000):gP (dE s1 o1 K H Z ex n [⟨c,o,ln,T⟩]):=by
 refine⟨⟨hs.1,by show s1<=2147483647;omega⟩,by show o1<=16777216;omega,h,i,⟨qQ f,by show(range n).length<=64;rw[bg];exact f⟩,by show(1:Nat)<=12;omega,λq r=> ?_,λa b=> ?_,λa t w u=> ?_⟩
 ·obtain rfl:q=⟨c,o,ln,T⟩:=mem_singleton.1 r
  refine⟨j,m.1,k,λx v=> ?_,by show T.length=jl (K*Z) ln;rw[l];exact d.1⟩;obtain⟨a,b,rfl⟩:=bH v;have g:=(d.2 a (by rw[<-d.1];exact b)).1;rw[af,ah b] at g;have y:T[a]<16:=g;show T[a]<=15;omega
 ·have:a+1<1:=b
  omega
 ·have:t<1:=u
  omega
theorem NT{s1 o1 o K H Z ex n d ln:Nat}{a:ByteArray}{T:SC}(j:fQ K H Z=true)(t:ex<=16)(k:n<=64)(l:mH a)(u:d<=8)(e:zB K H Z o d T):jE (dE s1 o1 K H Z ex n [⟨a,o,ln,T⟩])/\(bX (dE s1 o1 K H Z ex n [⟨a,o,ln,T⟩])).length=20+n+a.size+d:=by
 have v:=bn j;have m:=wX (dE s1 o1 K H Z ex n [⟨a,o,ln,T⟩]);have q:(dE s1 o1 K H Z ex n [⟨a,o,ln,T⟩]).drives.length=n:=bg;have g:((dE s1 o1 K H Z ex n [⟨a,o,ln,T⟩]).objs.map jm).flatten=jm ⟨a,o,ln,T⟩:=append_nil _;have r:(jm ⟨a,o,ln,T⟩).length=6+a.size+d:=by unfold jm;simp[fP,dz,e.1];omega
 rw[q,g,r] at m;have w:=l.2.1;refine⟨⟨by omega,by omega,?_⟩,by omega⟩;unfold bX;rw[g];refine fV (fV (fV (fV (fV (fB _ _) (fB _ _)) ?_) (wY k)) ?_) ?_
 ·intro c b
  simp only[mem_cons,not_mem_nil,or_false] at b;have:(dE s1 o1 K H Z ex n [⟨a,o,ln,T⟩]).K=K/\(dE s1 o1 K H Z ex n [⟨a,o,ln,T⟩]).H=H/\(dE s1 o1 K H Z ex n [⟨a,o,ln,T⟩]).Z=Z/\(dE s1 o1 K H Z ex n [⟨a,o,ln,T⟩]).extra=ex:=⟨rfl,rfl,rfl,rfl⟩;omega
 ·intro c b
  have:c=1:=mem_singleton.1 b;omega
 ·unfold jm
  refine fV (fV (fV (fV ?_ ?_) (fB _ _)) (fB _ _)) ?_
  ·intro c b
   have:c=a.size:=mem_singleton.1 b;omega
  ·intro c b
   obtain⟨f,_,rfl⟩:=aZ.1 b;exact f.toNat_lt
  ·intro c b
   obtain⟨f,h,rfl⟩:=bH b;have i:=(e.2 f (by rw[<-e.1];exact h)).1;rw[af,ah h] at i;have x:T[f]<16:=i;show T[f]<256;omega
theorem Qs{s o K H Z ex n:Nat}(b:fQ K H Z=true)(c:ex<=16)(a:n<=64)(hs:1<=s/\s<=100000)(f:o<=100000):gP (dE s o K H Z ex n []):=
 ⟨⟨hs.1,by show s<=2147483647;omega⟩,by show o<=16777216;omega,b,c,⟨qQ a,by show(range n).length<=64;rw[bg];exact a⟩,by show(0:Nat)<=12;omega,λe d=>(by simp[dE] at d),λd e=>(by simp[dE] at e),λd g _ e=>(by simp[dE] at e)⟩
theorem NU{s o K H Z ex n:Nat}(c:fQ K H Z=true)(e:ex<=16)(d:n<=64):jE (dE s o K H Z ex n [])/\(bX (dE s o K H Z ex n [])).length=14+n:=by
 have f:=bn c;have g:=wX (dE s o K H Z ex n []);have h:(dE s o K H Z ex n []).drives.length=n:=bg;have i:((dE s o K H Z ex n []).objs.map jm).flatten.length=0:=rfl;refine⟨⟨by omega,by omega,?_⟩,by omega⟩;unfold bX;refine fV (fV (fV (fV (fV (fB _ _) (fB _ _)) ?_) (wY d)) ?_) ?_
 ·intro b a
  simp only[mem_cons,not_mem_nil,or_false] at a;have:(dE s o K H Z ex n []).K=K/\(dE s o K H Z ex n []).H=H/\(dE s o K H Z ex n []).Z=Z/\(dE s o K H Z ex n []).extra=ex:=⟨rfl,rfl,rfl,rfl⟩;omega
 ·intro b a
  have:b=0:=mem_singleton.1 a;omega
 ·intro b a
  simp[dE] at a
structure ObB where
 o:Nat
 n:Nat
 nb:Nat
 T:SC
 l:SC
 ords:Nat->SC
def ObB.ent(a:ByteArray)(q:ObB):eB:=⟨a,q.o,q.n,q.T⟩
def esB(a:ByteArray)(p:Option ObB):List eB:=(p.map (ObB.ent a)).toList
structure PaB where
 K:Nat
 H:Nat
 Z:Nat
 ex:Nat
 N:Nat
 nm:ByteArray
structure PaB.OK (P:PaB):Prop where
 hk:fQ P.K P.H P.Z=true
 hex:P.ex<=16
 hN:2<=P.N/\P.N<=5
 hnm:mH P.nm/\P.nm.size<=2
 h6:P.K<=6/\P.ex<=6
structure ObOK (P:PaB) (q:ObB):Prop where
 hn:q.n<=1000/\q.n<=P.K*P.Z*8
 hnb:jl (P.K*P.Z) q.n=q.nb
 h2:q.nb<=2
 hl:q.l.length=q.n
 hb:By q.l
 hT:zB P.K P.H P.Z q.o q.nb q.T
 ho:∀i,i<q.nb->(q.ords i).Perm (range P.N)
abbrev rf:=cZ ⊕ dS
def iP(P:PaB):rf->SC
 | .inl a=>eD a 0
 | .inr a=>j4 P.K P.H P.Z a
def Dt(P:PaB):rf->Prop
 | .inl a=>gP a/\jE a/\(bX a).length<=40/\a.objs.length<=1/\∀b∈a.drives,b<64
 | .inr a=>a.o<=100000/\a.b<8/\a.i<=65535/\a.t<4294967296/\a.d.length=P.Z/\By a.d
def rq:rf->Option cZ
 | .inl a=>some a
 | .inr _=>none
def Du:rf->Option dS
 | .inl _=>none
 | .inr a=>some a
def gB(P:PaB)(s o:Nat)(p:Option ObB):cZ:=dE s o P.K P.H P.Z P.ex P.N (esB P.nm p)
def sQ(P:PaB)(p:Option ObB)(i:Nat):List dS:=
 match p with
 | none=>[]
 | some a=>lH a.o P.K P.H P.Z P.ex a.T a.l a.ords a.nb i
def Si(p:Option ObB)(r:dS):Bool:=
 match p with
 | none=>false
 | some a=>a.o == r.o
structure RowsB (P:PaB) (s o:Nat) (p:Option ObB) (i:Nat) (X:List rf):Prop where
 ok:∀x∈X,Dt P x
 pg:∃M,X.filterMap rq=M++[gB P s o p]/\(∀m∈M,m.seq<s)/\(M.map cZ.seq).Pairwise (·< ·)
 rc:∀r,.inr r∈X->r.o<o
 cu:(X.filterMap Du).filter (Si p)=sQ P p i
 ln:X.length<=s+12*o
structure InvB (P:PaB) (s o:Nat) (p:Option ObB) (X:Nat->List rf):Prop where
 hP:P.OK
 hs:1<=s/\s<=17
 ho:o<=8
 hp:∀q,p=some q->ObOK P q/\q.o<o
 hX:∀i,i<P.N->RowsB P s o p i (X i)
theorem pV{P:PaB}{s o:Nat}{p:Option ObB}(a:P.OK)(hs:1<=s/\s<=100)(g:o<=100)(d:∀q,p=some q->ObOK P q/\q.o<o):Dt P (.inl (gB P s o p)):=by
 have h:=a.hN;have i:=a.hnm.2;cases p with
 | none=>
   refine⟨Qs a.hk a.hex (by omega) ⟨hs.1,by omega⟩ (by omega),(NU a.hk a.hex (by omega)).1,?_,by show(0:Nat)<=1;omega,λe c=>by have:=bG.1 c;omega⟩;have:=(NU (s:=s) (o:=o) (n:=P.N) a.hk a.hex (by omega)).2;show(bX (dE s o P.K P.H P.Z P.ex P.N [])).length<=40;omega
 | some q=>
   obtain⟨b,f⟩:=d q rfl;have j:=b.h2;refine⟨NS a.hk a.hex (by omega) a.hnm.1 b.hn.2 b.hnb b.hT ⟨hs.1,by omega⟩ ⟨f,by omega⟩,(NT a.hk a.hex (by omega) a.hnm.1 (by omega) b.hT).1,?_,by show(1:Nat)<=1;omega,λe c=>by have:=bG.1 c;omega⟩;have:=(NT (s1:=s) (o1:=o) (n:=P.N) (ln:=q.n) a.hk a.hex (by omega) a.hnm.1 (show q.nb<=8 by omega) b.hT).2;show(bX (dE s o P.K P.H P.Z P.ex P.N [⟨P.nm,q.o,q.n,q.T⟩])).length<=40;omega
theorem pW{m:cZ}(a:jE m)(c:(bX m).length<=48):bR m=[eD m 0]:=by
 have d:=a.1;have b:ou (bX m).length=1:=by unfold ou;omega
 unfold bR;rw[b];rfl
section
variable {P:PaB} {s o:Nat} {p:Option ObB} {X:Nat->List rf}
theorem ObOK.two{q:ObB}(c:ObOK P q)(d:P.OK):∀b,b<q.nb->(q.ords b).Nodup/\2<=(q.ords b).length:=λb e=>by
 have a:=c.ho b e;exact⟨a.nodup_iff.2 nodup_range,by rw[a.length_eq,bg];exact d.hN.1⟩
theorem sS{q:ObB}(a:ObOK P q)(b:P.OK)(i:Nat):(sQ P (some q) i).length<=12:=by
 have c:=NP (o:=q.o) (K:=P.K) (H:=P.H) (Z:=P.Z) (ex:=P.ex) (T:=q.T) (l:=q.l) (a.two b) i;have d:q.nb*((P.K+P.ex+1)/2)<=2*6:=bC a.h2 (by have:=b.h6;omega);exact aP c d
theorem vN{q:ObB}(b:ObOK P q)(c:P.OK)(g:q.o<=100000)(i:Nat):∀r∈sQ P (some q) i,Dt P (.inr r)/\r.o=q.o:=by
 intro r h;obtain⟨a,d,e,j,rfl⟩:=Dr h;have k:=bn c.hk;have f:=(oJ c.hk (gT (q:=P.K*P.Z) a b.hb).2 (gT a b.hb).1 (b.hT.2 a e).2.1).2.1;have l:=(b.hT.2 a e).1;have m:=b.h2;have n:=c.h6;refine⟨⟨g,by show a<8;omega,by show d<=65535;omega,?_,kR c.hk f d,F9 c.hk f d⟩,rfl⟩;show mJ q.o q.T a<4294967296;unfold mJ iD;omega
theorem filter_all{a:Type}{f:a->Bool}{l:List a}(b:∀x∈l,f x=true):l.filter f=l:=filter_eq_self.2 b
theorem uP{a:Type}{f:a->Bool}{l:List a}(b:∀x∈l,f x=false):l.filter f=[]:=filter_eq_nil_iff.2 λx c=>by rw[b x c];decide
theorem NV(L:List dS):(L.map (Sum.inr:dS->rf)).filterMap Du=L:=by
 rw[filterMap_map];exact filterMap_some
theorem NW(L:List dS):(L.map (Sum.inr:dS->rf)).filterMap rq=[]:=by
 rw[filterMap_map];exact filterMap_eq_nil_iff.2 λa _=>rfl
theorem Sj{X:List rf}{r:dS}(b:r∈X.filterMap Du): .inr r∈X:=by
 obtain⟨c,d,a⟩:=mem_filterMap.1 b;cases c with
 | inl e=>cases a
 | inr e=>injection a with a;subst a;exact d
theorem Sk{X:List rf}{m:cZ}(b:m∈X.filterMap rq): .inl m∈X:=by
 obtain⟨c,d,a⟩:=mem_filterMap.1 b;cases c with
 | inl e=>injection a with a;subst a;exact d
 | inr e=>cases a
theorem RowsB.rise{i:Nat}{L:List rf}(d:RowsB P s o p i L):((L.filterMap rq).map cZ.seq).Pairwise (·< ·)/\∀m∈L.filterMap rq,m.seq<=s:=by
 obtain⟨j,e,c,f⟩:=d.pg;rw[e];refine⟨?_,λm a=> ?_⟩
 ·rw[aU,pairwise_append]
  refine⟨f,by simp,λk g h b=> ?_⟩;obtain⟨m,a,rfl⟩:=aZ.1 g;have b:h=s:=(by simpa[gB,dE] using b);subst b;exact c m a
 ·rcases bF.1 a with a | a
  ·exact Nat.le_of_lt (c m a)
  ·obtain rfl:=mem_singleton.1 a
   exact aj _
theorem RowsB.many{i:Nat}{L:List rf}(a:RowsB P s o p i L)(hs:s<=17):(L.filterMap rq).length<=18:=by
 obtain⟨b,c⟩:=a.rise;have d:=Be (L:=(L.filterMap rq).map cZ.seq) (n:=s+1) (λf e=>by obtain⟨f,g,rfl⟩:=aZ.1 e;have:=c f g;omega) (b.imp λ{e h} j=>by omega);rw[aG] at d;omega
theorem InvB.del{q:ObB}(a:InvB P s o (some q) X)(hs:s+1<=17):InvB P (s+1) o none (λe=>X e++[.inl (gB P (s+1) o none)]):=by
 refine⟨a.hP,⟨by omega,hs⟩,a.ho,(λq f=>by cases f),λe h=> ?_⟩;have b:=a.hX e h;have j:=a.ho;refine⟨λg c=> ?_,⟨(X e).filterMap rq,by rw[filterMap_append];rfl,λd i=>Nat.lt_succ_of_le (b.rise.2 d i),b.rise.1⟩,λi d=> ?_,?_,?_⟩
 ·rcases bF.1 c with c | c
  ·exact b.ok g c
  ·obtain rfl:=mem_singleton.1 c
   exact pV a.hP ⟨by omega,by omega⟩ (by omega) λq f=>by cases f
 ·rcases bF.1 d with d | d
  ·exact b.rc i d
  ·have:=mem_singleton.1 d
   cases this
 ·exact uP λg _=>rfl
 ·rw[aI,length_singleton]
  have:=b.ln;omega
theorem InvB.put{q:ObB}(e:InvB P s o none X)(hs:s+1<=17)(j:o+1<=8)(h:ObOK P q)(r:q.o=o):InvB P (s+1) (o+1) (some q) (λb=>X b++((sQ P (some q) b).map .inr++[.inl (gB P (s+1) (o+1) (some q))])):=by
 have i:∀a,some q=some a->ObOK P a/\a.o<o+1:=λa f=>by injection f with f;subst f;exact⟨h,by omega⟩
 refine⟨e.hP,⟨by omega,hs⟩,j,i,λb k=> ?_⟩;have g:=e.hX b k;refine⟨λm c=> ?_,⟨(X b).filterMap rq,?_,λa d=>Nat.lt_succ_of_le (g.rise.2 a d),g.rise.1⟩,λd a=> ?_,?_,?_⟩
 ·rcases bF.1 c with c | c
  ·exact g.ok m c
  ·rcases bF.1 c with c | c
   ·obtain⟨d,a,rfl⟩:=aZ.1 c
    exact(vN h e.hP (by omega) b d a).1
   ·obtain rfl:=mem_singleton.1 c
    exact pV e.hP ⟨by omega,by omega⟩ (by omega) i
 ·rw[filterMap_append,filterMap_append,NW];rfl
 ·rcases bF.1 a with a | a
  ·exact Nat.lt_succ_of_lt (g.rc d a)
  ·rcases bF.1 a with a | a
   ·obtain⟨t,n,f⟩:=aZ.1 a
    injection f with f;subst f;rw[(vN h e.hP (by omega) b _ n).2];omega
   ·have:=mem_singleton.1 a
    cases this
 ·rw[filterMap_append,filterMap_append,NV,filter_append,filter_append]
  rw[uP (l:=(X b).filterMap Du) λd a=>by
   have n:=g.rc d (Sj a);show(q.o == d.o)=false;rw[beq_eq_false_iff_ne];omega]
  rw[filter_all (l:=sQ P (some q) b) λd a=>by
   show(q.o == d.o)=true;rw[(vN h e.hP (by omega) b d a).2,beq_self_eq_true]]
  exact append_nil _
 ·rw[aI,aI,aG,length_singleton]
  have:=g.ln;have:=sS h e.hP b;omega
def xP(P:PaB)(s o:Nat)(p:Option ObB)(i:Nat):List rf:=.inl (gB P s o p) :: (sQ P p i).map .inr
theorem InvB.fall(a:InvB P s o p X):InvB P s o p (xP P s o p):=by
 have l:=a.hs;have m:=a.ho;refine⟨a.hP,a.hs,a.ho,a.hp,λf n=> ?_⟩
 have g:∀b∈sQ P p f,Dt P (.inr b)/\b.o<o/\Si p b=true:=λb c=>by
  cases p with
  | none=>cases c
  | some e=>
    obtain⟨h,j⟩:=a.hp e rfl;have d:=vN h a.hP (by omega) f b c;exact⟨d.1,by omega,by show(e.o == b.o)=true;rw[d.2,beq_self_eq_true]⟩
 refine⟨λq i=> ?_,⟨[],?_,λk d=>(by cases d),by simp⟩,λb c=> ?_,?_,?_⟩
 ·rcases mem_cons.1 i with rfl | i
  ·exact pV a.hP ⟨by omega,by omega⟩ (by omega) a.hp
  ·obtain⟨b,c,rfl⟩:=aZ.1 i
   exact(g b c).1
 ·unfold xP
  rw[filterMap_cons_some (show rq (.inl (gB P s o p))=some _ from rfl),NW];rfl
 ·rcases mem_cons.1 c with d | c
  ·cases d
  ·obtain⟨r,k,d⟩:=aZ.1 c
   injection d with d;subst d;exact(g _ k).2.1
 ·unfold xP
  rw[filterMap_cons_none (show Du (.inl (gB P s o p))=none from rfl),NV];exact filter_all λb c=>(g b c).2.2
 ·unfold xP
  rw[length_cons,aG];cases p with
  | none=>simp[sQ];omega
  | some e=>
    obtain⟨h,j⟩:=a.hp e rfl;have:=sS h a.hP f;omega
end
end
section
theorem J7{K H Z:Nat}{s:Int}{ids:SC}(c:fQ K H Z=true)(e:ek K H Z s (range K)=true)(f:∀i,i<K->i∈ids)(b:∀i∈ids,i<=65535):ek K H Z s ids=true:=by
 have l:=bn c;have m:=bn e;have g:Wf (K+H) (fK K H Z s (range K)):=oZ c λi b=>by have:=bG.1 b;omega
 have d:Wf (K+H) (fK K H Z s ids):=oZ c b
 have n:=zN g d λa h=>Spn.sub (λa j=>by
  obtain⟨k,a,rfl⟩:=aZ.1 j;refine aZ.2 ⟨k,?_,rfl⟩;unfold fK at a ⊢;rcases bF.1 a with a | a
  ·exact mem_append_left _ a
  ·obtain⟨i,b,rfl⟩:=aZ.1 a
   exact mem_append_right _ (aZ.2 ⟨i,f i (bG.1 b),rfl⟩)) h
 have h:=(lN d).1;exact bq (by omega)
def AR(P:PaB)(p:Option ObB):rf->Option dS×SC
 | .inl a=>(none,eD a 0)
 | .inr a=>(if Si p a=true then some a else none,j4 P.K P.H P.Z a)
theorem Dq(P:PaB)(p:Option ObB)(X:List rf):jk (X.map (AR P p))=X.map (iP P):=by
 unfold jk;rw[map_map];refine map_congr_left λa _=> ?_;cases a <;> rfl
theorem AU(P:PaB)(p:Option ObB):∀X:List rf,fA (X.map (AR P p))=(X.filterMap Du).filter (Si p)
 | []=>rfl
 | .inl m :: X=>by
   have a:=AU P p X;unfold fA at a ⊢;rw[map_cons,filterMap_cons_none (show(AR P p (.inl m)).1=none from rfl),filterMap_cons_none (show Du (.inl m)=none from rfl)];exact a
 | .inr r :: X=>by
   have a:=AU P p X;unfold fA at a ⊢;rw[map_cons,filterMap_cons_some (show Du (.inr r)=some r from rfl)];by_cases b:Si p r=true
   ·rw[filterMap_cons_some (show(AR P p (.inr r)).1=some r from bu b),filter_cons_of_pos b,a]
   ·rw[filterMap_cons_none (show(AR P p (.inr r)).1=none from bA b),filter_cons_of_neg b,a]
section
variable {P:PaB} {s o:Nat} {p:Option ObB} {X:Nat->List rf}
theorem InvB.cnt(a:InvB P s o p X){i:Nat}(b:i<P.N):fA ((X i).map (AR P p))=sQ P p i:=(AU P p (X i)).trans (a.hX i b).cu
theorem J8(P:PaB)(p:Option ObB)(i:Nat):uM (sQ P p i):=by
 cases p with
 | none=>intro b a;simp[sQ] at a
 | some a=>exact J9 a.o P.K P.H P.Z P.ex a.T a.l a.ords a.nb i
theorem InvB.len12(a:InvB P s o p X){i:Nat}(c:i<P.N):(sQ P p i).length<=12:=by
 cases p with
 | none=>simp[sQ]
 | some b=>exact sS (a.hp b rfl).1 a.hP i
theorem pU{x:rf}(a:Dt P x)(b:P.OK):(iP P x).length=64/\By (iP P x):=by
 have f:=bn b.hk;cases x with
 | inl c=>exact⟨jO c 0,(IB (K:=0) (H:=0) (Z:=0) (e:=⟨.empty,0,0,[]⟩) a.2.1 (i:=0) (by have d:=a.2.1.1;unfold ou;omega)).2⟩
 | inr g=>
   obtain⟨d,h,j,k,l,c⟩:=a;exact⟨iZ (by rw[kJ];omega),GJ (by decide) (Qq (by omega) (by omega) (by omega) c)⟩
theorem InvB.okR(c:InvB P s o p X){i:Nat}(h:i<P.N):BK (gB P s o p) ((X i).map (AR P p)):=by
 have j:=c.hX i h;have F:=c.hs;have r:=c.ho;refine⟨λG z=> ?_,?_,?_,?_⟩
 ·obtain⟨k,f,rfl⟩:=aZ.1 z
  have t:=j.ok k f;have l:=pU t c.hP;cases k with
  | inl a=>
    refine⟨l.1,l.2,λk f=>(by cases f),λ_=>.inl λd=> ?_⟩;have r:(eD a 0).getD 3 0=2:=rfl;have b:(eD a 0).getD 3 0=1:=d.2;rw[r] at b;exact absurd b (by decide)
  | inr a=>
    obtain⟨H,A,u,C,v,w⟩:=t;have I:=j.rc a f;refine⟨l.1,l.2,λk d=> ?_,λx=>.inr ⟨a,rfl,v,w,u,by omega,A,C,λD m=> ?_⟩⟩
    ·by_cases e:Si p a=true
     ·have g:(AR P p (.inr a)).1=some a:=bu e
      rw[g] at d;injection d with d;subst d;cases p with
      | none=>cases e
      | some b=>
        have q:=(c.hp b rfl).1
        have E:a∈sQ P (some b) i:=by
         rw[<-j.cu];exact mem_filter.2 ⟨mem_filterMap.2 ⟨_,f,rfl⟩,e⟩
        obtain⟨n,J,y,K,rfl⟩:=Dr E;have L:=(q.hT.2 n y).1;have M:=q.h2;refine⟨rfl,v,w,u,_,rfl,rfl,by show n<b.T.length;rw[q.hT.1];exact y,rfl,by show b.o<=16777215;have:=(c.hp b rfl).2;omega,by show b.T.getD n 0<=16;omega,by show n<8;omega⟩
     ·have g:(AR P p (.inr a)).1=none:=bA e
      rw[g] at d;cases d
    ·cases p with
     | none=>cases m
     | some b=>
       have m:D∈[b.ent P.nm]:=m;obtain rfl:=mem_singleton.1 m;intro n;have e:Si (some b) a=true:=(by show(b.o == a.o)=true;rw[show b.o=a.o from n,beq_self_eq_true]);have g:(AR P (some b) (.inr a)).1=some a:=bu e;rw[g] at x;cases x
 ·rw[aG]
  have:=j.ln;omega
 ·rw[c.cnt h]
  have:=c.len12 h;omega
 ·rw[c.cnt h]
  exact J8 P p i
theorem InvB.good(a:InvB P s o p X){i:Nat}(d:i<P.N):F7 (gB P s o p) ((X i).map (iP P)):=by
 have c:=a.hX i d;have e:=a.hs;have k:=a.ho;obtain⟨l,f,m,-⟩:=pV a.hP ⟨e.1,by omega⟩ (by omega) a.hp;refine⟨λg b=> ?_,?_,λg b=> ?_⟩
 ·obtain⟨h,j,rfl⟩:=aZ.1 b
  exact pU (c.ok h j) a.hP
 ·rw[aG]
  have:=c.ln;omega
 ·rw[pW f (by omega)] at b
  obtain rfl:=mem_singleton.1 b;obtain⟨j,h,-⟩:=c.pg;exact aZ.2 ⟨.inl (gB P s o p),Sk (by rw[h];exact mem_append_right _ (mem_singleton.2 rfl)),rfl⟩
theorem InvB.sym{q:ObB}(e:InvB P s o (some q) X){b:Nat}(g:b<q.nb):(∀x∈gN (λa=>(X a).map (AR P (some q))) q.o b (range P.N),x.1<=65535/\x.2=iM P.K P.H P.Z (mJ q.o q.T b:Nat) (qd P.K P.H P.Z q.o q.T q.l b) x.1)/\(gN (λa=>(X a).map (AR P (some q))) q.o b (range P.N)).length<=1000/\ek P.K P.H P.Z (mJ q.o q.T b:Nat) ((gN (λa=>(X a).map (AR P (some q))) q.o b (range P.N)).map Prod.fst)=true:=by
 have j:=(e.hp q rfl).1;have t:=e.hP.hN;have v:=e.hP.h6
 have k:∀a,a<P.N->jc q.o b (fA ((X a).map (AR P (some q))))=(DI (P.K+P.ex) (q.ords b) a).map λd=>(d,iM P.K P.H P.Z (mJ q.o q.T b:Nat) (qd P.K P.H P.Z q.o q.T q.l b) d):=λa f=>by
  rw[e.cnt f];exact NQ g
 have h:∀x∈gN (λa=>(X a).map (AR P (some q))) q.o b (range P.N),x.1<=65535/\x.2=iM P.K P.H P.Z (mJ q.o q.T b:Nat) (qd P.K P.H P.Z q.o q.T q.l b) x.1:=λx h=>by
  obtain⟨w,u,l⟩:=mem_flatten.1 h;obtain⟨a,f,rfl⟩:=aZ.1 u;rw[k a (bG.1 f)] at l;obtain⟨d,i,rfl⟩:=aZ.1 l;have m:=bG.1 (mem_filter.1 i).1;exact⟨by show d<=65535;omega,rfl⟩
 refine⟨h,?_,?_⟩
 ·have m:=Dc (X:=λa=>(X a).map (AR P (some q))) (o:=q.o) (b:=b) (L:=range P.N) (c:=12) λa f=>by
   rw[e.cnt (bG.1 f)];exact e.len12 (bG.1 f)
  rw[bg] at m;have:P.N*12<=5*12:=Nat.mul_le_mul_right _ t.2;omega
 ·refine J7 e.hP.hk (j.hT.2 b g).2.1 (λd i=> ?_) λd i=> ?_
  ·have y:(q.ords b).length=P.N:=by rw[(j.ho b g).length_eq,bg]
   have n:d%(q.ords b).length<(q.ords b).length:=Nat.mod_lt _ (by omega)
   have r:(q.ords b).getD (d%(q.ords b).length) 0∈range P.N:=by
    rw[af,ah n];exact(j.ho b g).mem_iff.1 (aQ n)
   refine aZ.2 ⟨(d,iM P.K P.H P.Z (mJ q.o q.T b:Nat) (qd P.K P.H P.Z q.o q.T q.l b) d),?_,rfl⟩;refine mem_flatten.2 ⟨_,aZ.2 ⟨_,r,rfl⟩,?_⟩;rw[k _ (bG.1 r)];refine aZ.2 ⟨d,mem_filter.2 ⟨bG.2 (by omega),?_⟩,rfl⟩;exact beq_self_eq_true _
  ·obtain⟨x,n,rfl⟩:=aZ.1 i
   exact(h x n).1
end
end
