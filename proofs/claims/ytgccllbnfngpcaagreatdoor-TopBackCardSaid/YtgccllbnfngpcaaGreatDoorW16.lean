import Derived.Test.YtgccllbnfngpcaaGreatDoorW15
import Derived.Lib.SlBytesConst
set_option linter.unusedVariables false
set_option maxRecDepth 100000
set_option maxHeartbeats 400000000
namespace Go.Proofs.YtgccllbnfngpcaaGreatDoor
open Go.RowKit _root_.Go.Proofs.Tryz List
open Value (int slice pointer bool)
open IntKind (i64)
open Ending (returned)
open Obj (cells)
section
variable {B:Nat}
theorem Es(m:cZ)(P:m.objs.length<=1)(f a:SE)(c g d b y p C:Nat)(F:Nat->Prop)(R:List SC)(o:Option Nat)(w:World)(h:DrR w y p C R o)(t:(rI m.drives).ok w F [slice f c g])(Q:m.drives.length=c)(u:(rS 4 (m.objs.map df)).ok w F [slice a d b])(S:m.objs.length=d)(U:gP m)
 (D:jE m)(V:∀r∈R,r.length=64/\By r)(hn:R.length<=1000)(ad:∀p∈bR m,p∈R):
 Calls prog 45 #[pointer (some ⟨y,0,none⟩),.agg (bV m (slice f c g) (slice a d b))] w λz e=>z=returned (bool true)/\Below w.heap.size w e:=by
 have j:=(aC w.heap.size w).alloc (aj _) (cells (bV m (slice f c g) (slice a d b)) 68);have k:=ae (Blk.new w 68 (bV m (slice f c g) (slice a d b)));have q:=ae j;have A:=ae λ(e:World) (s:Below w.heap.size w e)=>h.below s;have M:=ae λ(e:World) (s:Below w.heap.size w e)=>(rI _).new t s;have O:=ae λ(e:World) (s:Below w.heap.size w e)=>(rS 4 _).new u s;have J:=ae λ(w:World) (t:(rI m.drives).ok w F [slice f c g]) (u:(rS 4 (m.objs.map df)).ok w F [slice a d b])=>sj m P f a c g d b F w t Q u S U;have ab:=ae λ(w:World) (t:(rI m.drives).ok w F [slice f c g]) (u:(rS 4 (m.objs.map df)).ok w F [slice a d b])=>mQ m P f a c g d b F w t Q u S U D
 have L:=ae λ(w:World) (h:DrR w y p C R o) (V:∀r∈R,r.length=64/\By r) (hn:R.length<=1000)=>show ∃E W,DrB w y p C E W/\(rM R).ok w Any [E] from by
  obtain⟨E,W,h1,h2,_⟩:=h;exact⟨E,W,h1,h2.repAny⟩
 have G:=ae V;have X:=ae hn;have az:=ae ad;have a0:=ae D;have aA:=ae (lD D);clear h t Q u S U D V ad j P;unfold bV at*;have aB:Sz (∀p∈bR m,p.length=64):=ae λp e=>by obtain⟨i,_,rfl⟩:=aZ.1 e;exact jO m i
 have aD:Sz ((bR m).length<=1000):=ae (by rw[fZ];have:=aA.o;omega);generalize bR m=v at*;go_enter func45,ntmps45;go_upto_region 1 with fail;generalize w.alloc (cells #[int i64 m.seq,int i64 m.next,int i64 m.K,int i64 m.H,int i64 m.Z,int i64 m.extra,slice f c g,slice a d b] 68)=I at*;obtain⟨Y,x1,x2,x3,x4,x5,x6,x7⟩:=bW k.o;have a3:Sz (w.heap.size<I.heap.size):=ae k.o.lt;go_wp2_with fail;refine(J.o I (M.o I q.o) (O.o I q.o)).mono ?_;rintro z w1 ⟨rfl,e⟩;have s:=ae (q.o.trans (e.mono q.o.size));have x:=ae (k.o.below e k.o.lt);clear e J Y x1 x2 x3 x4 x5 x6 x7 k q;obtain⟨v1,aE,e,q⟩:=L.o w1 (A.o w1 s.o) G.o X.o;have CD:=ae (zT y p C aE v1 R Any w1 e q X.o (λk hx=>by have:=(G.o k hx).1;omega));clear e q L A;go_wp2_with fail;refine CD.o.mono ?_;rintro z J ⟨vl,rfl,q,A⟩;obtain⟨al,cl,rfl,-⟩:=q.val;rw[aG] at q ⊢;have ac:Sz ((rM R).ok J Any [slice al R.length cl]):=ae q.repAny;have e:=ae (s.o.trans (A.mono s.o.size));have ag:=ae (x.o.below A x.o.lt);clear q A CD x s;obtain⟨Y,x1,x2,x3,x4,x5,x6,x7⟩:=bW ag.o;go_wp2_with fail;refine(ab.o J (M.o J e.o) (O.o J e.o)).mono ?_;rintro z A ⟨vp,rfl,s,aa⟩;obtain⟨ap,cp,rfl,-⟩:=s.val;rw[aG] at s ⊢;have ai:Sz ((rM v).ok A Any [slice ap v.length cp]):=ae s.repAny;have aF:=ae ((rM _).new ac.o aa);have x:=ae (e.o.trans (aa.mono e.o.size));obtain⟨q,L⟩:∃q,v.length=q:=⟨_,rfl⟩;rw[L] at ai ⊢;have ak:=ae L;have a4:q<=1000:=by rw[<-L];exact aD.o
 have am:=ae (aC A.heap.size A);clear aa ab ag ac e Y x1 x2 x3 x4 x5 x6 x7 M O s L;go_wp2_with fail;go_loopw [16] (λi wr=>∃e:Nat,e<=q/\i=int i64 e/\Sz (Below A.heap.size A wr)) (λi _=>q-(intOf i).toNat)
 case atStart=>exact⟨0,by omega,rfl,am⟩
 case round=>
  clear am;obtain⟨e,a5,rfl,s⟩:=hrel;by_cases ag:e<q
  ·have a6:(e:Int)<(q:Int):=by omega
   obtain⟨ar,cr,er,an,-⟩:=fE ((rM _).new ai.o s.o) ak.o;injection er with aK _ aL;subst aK aL;obtain⟨bx,ox,L,M,rfl,aM,ao,aa,aR,aS,a7⟩:=an.at (i:=e) ag;have ab:v.getD e []∈v:=(by rw[af,ah (by rw[ak.o];exact ag)];exact aQ _);have aq:=aB.o _ ab;have ac:=az.o _ ab;have au:=(G.o _ ac).2;generalize v.getD e []=O at*;rw[aq] at ao aa aS;have aT:=ae ac;have aV:=ae au;have j:=(aC wr.heap.size wr).alloc (aj _) (cells #[slice L 64 M] 30);have av:=ae (Blk.new wr 30 #[slice L 64 M]);have aX:=ae (aa.below j (aj _));have aY:=ae ((rM _).new ((rM _).new aF.o s.o) j);have a8:=ae ((x.o.trans (s.o.mono x.o.size)).trans (j.mono (x.o.trans (s.o.mono x.o.size)).size));have aw:=ae (s.o.trans (j.mono s.o.size));have ay:=ae j.size;clear j an aa aR ab ac au aq;go_upto_region 7 with fail;clear ao aM;generalize wr.alloc (cells #[slice L 64 M] 30)=w4 at*
   have CA:=ae (MW (λk=>decide (k=O)) 93 #[pointer (some ⟨wr.heap.size,0,none⟩)] R Any al R.length cl w4 aY.o rfl (by have:=X.o;omega) (enters_of func93 (by kernel_rfl) rfl) (λk hx aa hW a b hr=>
    EP k O a L k.length b 64 M wr.heap.size aa hr ((aX.o.below hW ay.o).more (aP ay.o hW.size)) (av.o.below hW av.o.lt) (G.o k hx).2 aV.o))
   rw[show(R.any λk=>decide (k=O))=true from any_eq_true.2 ⟨O,aT.o,by simp⟩] at CA;go_wp2_with fail;refine CA.o.mono ?_;rintro z w5 ⟨rfl,k⟩;have aa:=ae (aw.o.trans (k.mono aw.o.size));clear k CA;go_wp2_with fail;go_roundw
   case rel=>exact⟨e+1,by omega,by go_num,aa⟩
   case measure=>simp[intOf];omega
  ·obtain rfl:e=q:=by omega
   go_wp2_with fail;go_ret;exact⟨rfl,x.o.trans (s.o.mono x.o.size)⟩
def F7(m:cZ)(R:List SC):Prop:=(∀a∈R,a.length=64/\By a)/\R.length<=1000/\∀a∈bR m,a∈R
theorem L6(x g d:Nat)(f:Fl)(m:cZ)(R:Nat->List SC)(w:World)(h:Stq B w g f m R)(hs:Blk w d 60 #[pointer (some ⟨g,0,none⟩)])(i:x<f.n/\f.Z x=false)(t:m.objs.length<=1)(u:gP m)(v:jE m)(j:F7 m (R x)):
 Calls prog 169 (#[int i64 x]++#[pointer (some ⟨d,0,none⟩)]) w λb c=>b=returned (bool true)/\Below w.heap.size w c:=by
 show Calls prog 169 #[int i64 x,pointer (some ⟨d,0,none⟩)] w _;have y:Sz (Sx w w [bY d 60 #[pointer (some ⟨g,0,none⟩)],ll B g f m R]):=ae (((Sx.nil w).add (ll B g f m R) h).add (bY d _ _) hs);have O:=h.n0.2;obtain⟨-,⟨P,Q,z,p,k⟩,G,-⟩:=h;obtain⟨A,C,rfl,-⟩:=dY p rfl;obtain⟨D,q,E,rfl⟩:=nu k
 have F:m.objs.length=q:=by
  obtain⟨S,U,V,r,_,_,_,I,_⟩:=k;injection r with r _;injection r with _ W _;rw[aG] at I;omega
 have o:=ae z
 have J:Sz (∀a,Below w.heap.size w a->Calls prog 45 #[pointer (some ⟨f.D x,0,none⟩),.agg #[int i64 m.seq,int i64 m.next,int i64 m.K,int i64 m.H,int i64 m.Z,int i64 m.extra,slice A m.drives.length C,slice D q E]] a λb c=>b=returned (bool true)/\Below a.heap.size a c):=ae λa e=>by
  obtain⟨-,⟨L,s,-⟩,-⟩:=((y.o.step e).stq 1 rfl).drs;rcases s x i.1 with⟨b,-⟩ | ⟨-,s⟩
  ·rw[i.2] at b;cases b
  ·exact Es m t A D _ C q E (f.D x) f.p (f.room x) (Fu w) (R x) (L x) a s.r ((rI _).new p e) rfl ((rS 4 _).new k e) F u v j.1 j.2.1 j.2.2
 have M:Sz (∀a,Below w.heap.size w a->a.cell? ⟨g,10+x,none⟩=some (pointer (some ⟨f.D x,0,none⟩))):=ae λa e=>(Blk.cell (Blk.below o.o e (Blk.lt o.o)) (10+x)).trans (by rw[pK _ _ _ _ _ (by omega),uu f i.1]);have X:x<64:=by omega
 have Y:(x:Int)<64:=by omega
 generalize f.D x=dx at*;clear hs p k z F t u v j G i;go_enter func169,ntmps169;go_upto_region 1 with fail;refine dn (by kernel_rfl) (by kernel_rfl) ?_
 iterate 12 (
  with_reducible refine wpQuiet_step (λk e=> ?_)
  go_simp
  first
  | refine e _ ?_
  | refine⟨_,λ_ _=>rfl,e _ ?_⟩
  | (apply Exists.intro
     refine⟨λc a=> ?_,e _ ?_⟩
     ·have z:=((y.o.step a).blk 0 rfl).cell 0
      obtain⟨F,G,aa,ab,ac,ad,ag,ai,-⟩:=iB (Blk.below o.o a (Blk.lt o.o));have ak:=M.o c a
      first
      | (go_simp
         first | exact rfl | exact⟨rfl,rfl⟩)
      | (go_at_call 45
         refine(J.o c a).mono ?_;rintro al w5 ⟨rfl,p⟩;exact⟨rfl,a.trans (p.mono a.size)⟩))
  clear e k)
 with_reducible refine wpQuiet_nil ?_
 intro p e;have k:=ae e;clear e;go_wp2_with fail;go_ret;exact⟨rfl,k.o⟩
theorem O4(g:Nat)(f:Fl)(m:cZ)(R:Nat->List SC)(w:World)(h:Stq B w g f m R)(p:m.objs.length<=1)(q:gP m)(r:jE m)(t:∀s∈bP f,F7 m (R s))(d:0<(bP f).length):
 Calls prog 112 #[pointer (some ⟨g,0,none⟩)] w λe a=>e=returned (bool true)/\Below w.heap.size w a:=by
 have i:=(aC w.heap.size w).alloc (aj _) (cells #[pointer (some ⟨g,0,none⟩)] 60);have b:=ae (Blk.new w 60 #[pointer (some ⟨g,0,none⟩)]);have j:=ae (h.below i);have u:=ae i;have v:=pM h.n0.2;have x:=ae λw (h:Stq B w g f m R)=>xG g f m R w h
 have k:=ae λ(a:World) (y:SE) (o A:Nat) (c:Rd a a.heap.size y o (bM (bP f))) (C:o<=64) (h:Stq B a g f m R) (z:Blk a w.heap.size 60 #[pointer (some ⟨g,0,none⟩)])=>Av (λ_=>true) 169 #[pointer (some ⟨w.heap.size,0,none⟩)] (bP f) a.heap.size y o A a c (aj _) (by omega) (enters_of func169 (by kernel_rfl) rfl) (λa c y o=>
  L6 a g w.heap.size f m R y (h.below o) (z.below o z.lt) (kF c) p q r (t a c))
 have o:((bP f).any λ_=>true)=true:=by
  cases he:bP f with
  | nil=>rw[he] at d;simp at d
  | cons a l=>rfl
 rw[o] at k;obtain⟨c,a⟩:∃c,(bP f).length=c:=⟨_,rfl⟩;have A:=ae a;rw[a] at v;clear h p q r t i o d a;go_enter func112,ntmps112;go_upto_region 1 with fail;generalize w.alloc (cells #[pointer (some ⟨g,0,none⟩)] 60)=C at*;have D:=b.o.cell 0;go_wp2_with fail;refine(x.o C j.o).mono ?_;rintro e E ⟨J,rfl,i,a⟩;obtain⟨F,G,I,o,-⟩:=dY (gM i) A.o;subst I;have y:=ae (k.o E F c G o v (j.o.below a) (b.o.below a b.o.lt));have z:=ae (u.o.trans (a.mono u.o.size));clear i a o k x j b D;go_wp2_with fail;refine y.o.mono ?_;rintro e i ⟨rfl,a⟩;have b:=ae (z.o.trans (a.mono z.o.size));clear a y;go_wp2_with fail;go_ret;exact⟨rfl,b.o⟩
end
section
variable {B:Nat}
theorem yP(nm:ByteArray)(o l:Nat)(a:SC):Ar nm ⟨nm,o,l,a⟩=true:=by unfold Ar;simp
end
section
variable {B:Nat}
end
def j4(K H Z:Nat)(r:dS):SC:=cellL 1 (jw r.o r.b r.i K H Z r.t r.d)
def DI(N:Nat)(a:SC)(s:Nat):SC:=(range N).filter λb=>a.getD (b%a.length) 0 == s
theorem Lt{L:List dS}(d:L.Pairwise ltN):uM L:=λa b=>by
 have c:a<L.length:=by omega
 rw[af,af,ah c,ah b];exact pairwise_iff_getElem.1 d a (a+1) c b (by omega)
theorem Rj{a:SC}(f:a.Nodup)(k:2<=a.length)(i s:Nat)(b:a.getD (i%a.length) 0=s):a.getD ((i+1)%a.length) 0≠s:=by
 intro c;have g:i%a.length<a.length:=Nat.mod_lt _ (by omega);have h:(i+1)%a.length<a.length:=Nat.mod_lt _ (by omega);rw[af,ah g] at b;rw[af,ah h] at c;have d:=(getElem_inj f).1 ((show a[i%a.length]=s from b).trans (show a[(i+1)%a.length]=s from c).symm);rcases bD (i%a.length+1) a.length with e | e
 ·rw[Nat.add_mod,Nat.mod_eq_of_lt (show 1<a.length by omega),Nat.mod_eq_of_lt e] at d
  omega
 ·have j:i%a.length+1=a.length:=by omega
  rw[Nat.add_mod,Nat.mod_eq_of_lt (show 1<a.length by omega),j,Nat.mod_self] at d;omega
theorem OV{a:SC}(c:a.Nodup)(d:2<=a.length)(s:Nat):∀k,(DI (2*k) a s).length<=k:=by
 intro k
 induction k with
 | zero=>simp[DI]
 | succ k e=>
   have f:range (2*(k+1))=range (2*k)++[2*k,2*k+1]:=(by rw[show 2*(k+1)=2*k+1+1 by omega,range_succ,range_succ,append_assoc];rfl);unfold DI at e ⊢;rw[f,filter_append,aI]
   have h:([2*k,2*k+1].filter λb=>a.getD (b%a.length) 0 == s).length<=1:=by
    by_cases b:a.getD (2*k%a.length) 0=s
    ·have g:=Rj c d (2*k) s b
     rw[filter_cons_of_pos (by simpa using b),filter_cons_of_neg (by simpa using g)];simp
    ·rw[filter_cons_of_neg (by simpa using b)]
     exact length_filter_le _ [2*k+1]
   omega
theorem on_le{a:SC}(b:a.Nodup)(c:2<=a.length)(s N:Nat):(DI N a s).length<=(N+1)/2:=by
 have d:=OV b c s ((N+1)/2)
 have e:(DI N a s).length<=(DI (2*((N+1)/2)) a s).length:=by
  unfold DI;exact(List.Sublist.filter _ (range_sublist.2 (by omega))).length_le
 omega
theorem IB{K H Z:Nat}{e:eB}{m:cZ}(b:jE m){i:Nat}(j:i<ou (bX m).length):okRQ K H Z e (none,eD m i)/\By (eD m i):=by
 have k:=lD b
 have h:By (bT m.seq 4++[i,ou (bX m).length,(((bX m).drop (48*i)).take 48).length]++((bX m).drop (48*i)).take 48):=by
  intro c a;rcases bF.1 a with a | a
  ·rcases bF.1 a with a | a
   ·exact fB _ _ c a
   ·have d:(((bX m).drop (48*i)).take 48).length<=48:=by rw[aH];omega
    simp only[mem_cons,not_mem_nil,or_false] at a;rcases a with rfl | rfl | rfl <;> omega
  ·exact b.2.2 c (mem_of_mem_drop (bI a))
 have f:By (eD m i):=GJ (by decide) h;refine⟨⟨jO m i,f,λo g=>(by cases g),λ_ g=> ?_⟩,f⟩;have d:(eD m i).getD 3 0=2:=rfl;rw[d] at g;exact absurd g.2 (by decide)
section
variable {B:Nat}
end
section
variable {B:Nat}
end
section
variable {B:Nat}
def uO(p g:Nat):Array Value:=#[pointer (some ⟨p,0,none⟩),pointer (some ⟨g,0,none⟩)]++Array.replicate 64 (pointer none)
theorem JZ:zeroCells80= #[pointer none,pointer none]++Array.replicate 64 (pointer none):=by kernel_rfl
theorem NE{c d a b:Value}{r:Array Value}:((#[c,d]++r).setIfInBounds 0 a).setIfInBounds 1 b= #[a,b]++r:=by
 apply Array.ext';simp
end
section
variable {B:Nat}
theorem fT{w:World}{g:Nat}{t:TypeId}{a:Array Value}(b:Blk w g t a):w.setRow g a=w:=by
 have h:=b.lt;have c:w.heap[g]=.cells a t (0,0):=(Array.getElem?_eq_some_iff.1 (show w.heap[g]? =some (.cells a t (0,0)) from b)).2
 have d:(w.heap.modify g fun
  | .cells _ e f=>.cells a e f
  | o=>o)=w.heap:=by
  refine Array.ext (by simp) λf i j=> ?_;rw[Array.getElem_modify];split
  ·rename_i e
   subst e;rw[c]
  ·rfl
 unfold World.setRow;exact congrArg (λb=>({ w with heap:=b }:World)) d
theorem d9{w:World}{g i:Nat}{t:TypeId}{a:Array Value}{v:Value}(b:Blk w g t a)(c:a.setIfInBounds i v=a):w.setCell ⟨g,i,none⟩ v=w:=by
 rw[setCell_eq_setRow w g i a t (0,0) v b,c];exact fT b
def mF(k:Int)(nm:ByteArray)(v:Value):Array Value:=#[int i64 k,.string nm,v,int i64 0,int i64 0,int i64 0,.int .u32 0,slice none 0 0,slice none 0 0]
theorem rE{w:World}{g:Nat}{t:TypeId}{a b c h e f i j k:Value}(d:Blk w g t #[a,b,c,h,e,f,i,j,k]):w.cell? ⟨g,0,none⟩=some a/\w.cell? ⟨g,1,none⟩=some b/\w.cell? ⟨g,2,none⟩=some c/\w.cell? ⟨g,3,none⟩=some h/\
 w.cell? ⟨g,4,none⟩=some e/\w.cell? ⟨g,5,none⟩=some f/\w.cell? ⟨g,6,none⟩=some i/\w.cell? ⟨g,7,none⟩=some j/\w.cell? ⟨g,8,none⟩=some k:=⟨d.cell 0,d.cell 1,d.cell 2,d.cell 3,d.cell 4,d.cell 5,d.cell 6,d.cell 7,d.cell 8⟩
end
section
variable {B:Nat}
end
section
variable {B:Nat}
theorem Drz.lower{D:Nat}{w:World}{f:Fl}{R:Nat->List SC}{W:Nat->Nat}(d:Drz D w f R W)(c:B<=D):Drz B w f R W:=by
 obtain⟨e,⟨g,h,i,j⟩,k,m⟩:=d;exact⟨e,⟨g,h,i,λa o b p=>aP c (j a o b p)⟩,k,λa b=>aP c (m a b)⟩
theorem Stq.lower{D:Nat}{w:World}{g:Nat}{f:Fl}{m:cZ}{R:Nat->List SC}(a:Stq D w g f m R)(b:B<=D):Stq B w g f m R:=⟨a.drs.lower b,a.st,a.dv,a.n0⟩
def fD(E:Int)(v:Value):Array Value:=#[int i64 E,v,slice none 0 0,int i64 0,int i64 0,int i64 0,slice none 0 0,int i64 0]
theorem Sn{w:World}{g:Nat}{t:TypeId}(a:Blk w g t (fD 0 (slice none 0 0)))(v:Value)(E:Int):Blk ((w.setCell ⟨g,1,none⟩ v).setCell ⟨g,0,none⟩ (int i64 E)) g t (fD E v):=by
 have:=(a.set 1 v).set 0 (int i64 E);simpa[fD] using this
theorem Sq{w:World}{g:Nat}{t:TypeId}(a:Blk w g t (fD 0 (slice none 0 0)))(v:Value)(E:Int):Blk ((w.setCell ⟨g,0,none⟩ (int i64 E)).setCell ⟨g,1,none⟩ v) g t (fD E v):=by
 have:=(a.set 0 (int i64 E)).set 1 v;simpa[fD] using this
end
section
variable {B:Nat}
end
section
variable {B:Nat}
section
variable {K H Z ex N nb n:Nat} {nm:ByteArray} {T l:SC} {ords:Nat->SC}
end
end
section
variable {B:Nat}
section
variable {K H Z ex N nb n:Nat} {nm:ByteArray} {l:SC}
theorem Ip{f:Fl}(a:f.n=N)(b:∀i,f.Z i=false):bP f=range N:=by
 unfold bP;rw[a];exact filter_eq_self.2 λi _=>by rw[b];rfl
end
end
def nmQ:ByteArray:= { data:=#[97] }
theorem QS:fQ ((1:Nat):Int) ((1:Nat):Int) ((4:Nat):Int)=true:=by decide
theorem okNQ:mH nmQ:=⟨by decide,by decide,λa b=>by
 have c:a=0:=by have:a<1:=b;omega
 subst c;decide⟩
theorem noW:¬∃b,b<1/\noT 1 1 4 0 b:=λ⟨b,c,a⟩=>by
 obtain rfl:b=0:=by omega
 have c:ek 1 1 4 ((0:Nat):Int) (range 1)=false:=a 0 (by decide);exact absurd (O9.symm.trans c) (by decide)
theorem EF(w:World)(l:SC)(a:Nat×Nat):Rd (w.alloc (cells (bO l) 5 a)) (w.alloc (cells (bO l) 5 a)).heap.size (some ⟨w.heap.size,0,none⟩) l.length (bK l):=by
 refine⟨bL l,λ_=>⟨w.heap.size,0,rfl,by simp,λb c d=> ?_⟩⟩
 have e:(w.alloc (cells (bO l) 5 a)).heap[w.heap.size]? =some (cells (bO l) 5 a):=by
  show(w.heap.push (cells (bO l) 5 a))[w.heap.size]? =_;simp
 unfold World.cell?;rw[e,Nat.zero_add];show(bO l)[b]? =some c;simpa[bO] using d
theorem pkW:(bX (eF 1 1 4 2 2)).length=16:=by decide
theorem RG:∀x∈[20,20],(bR (eF 1 1 4 2 2)).length<=x/\1<=x/\x<=512:=λx a=>by
 rw[fZ,pkW];obtain rfl:x=20:=by simpa using a
 decide
section
variable {B:Nat}
section
variable {K H Z ex N nb n:Nat} {nm:ByteArray} {T l:SC} {ords:Nat->SC}
end
theorem Jo{K H Z:Nat}(d:1<=K/\K<=6)(e:1<=H/\H<=3)(f:1<=Z/\Z<=9):fQ K H Z=true:=by
 have g:∀a:Fin 7,∀b:Fin 4,∀c:Fin 10,1<=a.val->1<=b.val->1<=c.val->fQ ((a.val:Nat):Int) ((b.val:Nat):Int) ((c.val:Nat):Int)=true:=by decide +kernel
 exact g ⟨K,by omega⟩ ⟨H,by omega⟩ ⟨Z,by omega⟩ d.1 e.1 f.1
theorem Jp{q n:Nat}(a:1<=q)(b:1<=n)(c:n<=2*q):1<=jl q n/\jl q n<=2:=by
 unfold jl;rw[bA (by omega)];have:(n-1)/q<2:=(Nat.div_lt_iff_lt_mul (by omega)).2 (by omega);generalize (n-1)/q=d at*;omega
end
section
variable {B:Nat}
section
variable {K H Z ex N nb n:Nat} {nm:ByteArray} {T l:SC} {ords:Nat->SC}
end
end
section
variable {B:Nat}
def Ck:ByteArray:= { data:=#[105,116] }
theorem okNIt:mH Ck:=⟨by decide,by decide,λa b=>by
 have c:a=0\/a=1:=by have:a<2:=b;omega
 rcases c with rfl | rfl <;> decide⟩
end
theorem tN{P:Program}{e:Func}{p q r:Tmp}{b:TypeId}(h:e.results= #[.cell p b,.tmp q,.tmp r])(a:Array Value)(w:World)(g:Nat)(t:TypeId)(c:Array Value)(f:Nat×Nat)(d:TypeDesc)
 (i:a.getD p undef=pointer (some ⟨g,0,none⟩))(j:w.heap[g]? =some (.cells c t f))
 (k:P.underlying b=some d)(m:(match d with | .struct _ | .array _ _=>true | _=>false)=true)(o:(P.info? b).map (·.size)=some c.size):
 (results e a).run P w=.ok (.tuple #[.agg c,a.getD q undef,a.getD r undef]) w:=by
 have s:a[p]?.getD undef=pointer (some ⟨g,0,none⟩):=by simpa using i
 simp[results,h,s,asAddr,run_loadVar_row w g t b c f d j k m o]
theorem IG(n:Nat)(x:Int)(s:n<=1000)(f: -9223372036854775808<=x/\x<=9223372036854775807)(w:World):
 Calls prog 18 #[int i64 n,int i64 x] w λb a=>∃v l,b=returned v/\OwnB a w.heap.size v l/\l.length=n/\By l/\Below w.heap.size w a:=by
 have g:Sz (OwnB w w.heap.size (slice none 0 0) []):=ae (OwnB.nil _ _);have i:=ae (aC w.heap.size w);go_enter func18,ntmps18;go_wp2_with fail;go_loopw [5,6] (λv b wr=>∃(a:Nat) (l:SC),a<=n/\b=int i64 a/\Sz (l.length=a/\By l)/\Sz (OwnB wr w.heap.size v l)/\Sz (Below w.heap.size w wr)) (λ_ b _=>n-(intOf b).toNat)
 case atStart=>exact⟨0,[],by omega,rfl,ae ⟨rfl,λx f=>(by cases f)⟩,g,i⟩
 case round=>
  clear g i;obtain⟨a,l,t,rfl,b,c,d⟩:=hrel;obtain⟨u,z,A,rfl,-⟩:=c.o.sl;by_cases D:a<n
  ·have E:(a:Int)<(n:Int):=by omega
   have F:(a:Int).tmod 7=((a%7:Nat):Int):=(by rw[Int.tmod_eq_emod_of_nonneg (by omega)];rfl);have k:=d.o.size;have m:l.length<=1000000:=by have:=b.o.1;omega
   go_wp2_with (at_builtin;refine gG (w:=wr) (C:=w.heap.size) (y:=(wrap64 (x/2 ^ (a%7)+wrap64 ((a:Int)*bits .or .i64 x 1))%256).toNat) rfl _ _ ?hi rfl c.o k m rfl rfl ?_)
   case hi=>generalize wrap64 (x/2 ^ (a%7)+wrap64 ((a:Int)*bits .or .i64 x 1))=e;omega
   generalize o:(wrap64 (x/2 ^ (a%7)+wrap64 ((a:Int)*bits .or .i64 x 1))%256).toNat=y;have p:Sz ((l++[y]).length=a+1/\By (l++[y])):=ae ⟨by rw[aI,b.o.1];rfl,λe j=>(bF.1 j).elim (b.o.2 e) λh=>by rw[mem_singleton.1 h];omega⟩;intro G I e j;obtain⟨_,_,_,rfl,-⟩:=e.sl;have q:=ae e;have r:=ae (d.o.trans j);clear e j c d o b;generalize l++[y]=e at*;go_wp2_with fail;go_roundw
   case rel=>exact⟨a+1,e,by omega,by go_num,p,q,r⟩
   case measure=>simp[intOf];omega
  ·obtain rfl:a=n:=by omega
   go_wp2_with fail;go_ret;exact⟨_,l,rfl,c.o,b.o.1,b.o.2,d.o⟩
theorem kr{k:Nat}{w:World}{F:Nat->Prop}{a:SE}{c:Nat}(d:(rS k []).ok w F [slice a 0 c])(w':World)(e:Nat->Prop):(rS k []).ok w' e [slice a 0 c]:=by
 obtain⟨f,g,h,i,j,m,o,b,p,q,-,-⟩:=d;refine⟨f,g,h,i,j,m,o,b,p,q,λr=> ?_,λt u s=>by simp at s⟩;simp only[length_nil] at b;subst b;simp at r
theorem xe{k:Nat}{L:List Rp}{w:World}{F:Nat->Prop}{a:SE}{n c:Nat}(d:(rS k L).ok w F [slice a n c]):L.length=n:=by
 obtain⟨g,h,i,b,_,_,_,e,_⟩:=d;injection b with b _;injection b with _ f _;rw[e,f]
theorem BR(d:SE)(e:Nat)(F:Nat->Prop)(w:World)(h:(rS 4 []).ok w F [slice d 0 e]):
 Calls prog 100 #[slice d 0 e] w λf a=>∃b c,f=returned (slice b 0 c)/\(∀G,OwnS a w.heap.size 65 4 G (slice b 0 c) [])/\Below w.heap.size w a:=by
 cases d with
 | none=>
   obtain⟨m,o,p,g,_,_,i,_⟩:=h;injection g with g _;injection g with j _ k;subst j k;rw[i rfl];refine(yE w).mono ?_;rintro f a ⟨rfl,rfl⟩;exact⟨none,0,rfl,λG=>OwnS.nil _ _ _ _ _,aC _ _⟩
 | some i=>
   refine(uD [] F i 0 e w h (by omega)).mono ?_;rintro f a ⟨p,rfl,g,j⟩;obtain⟨b,c,rfl,-⟩:=g.val;obtain⟨k,m,q⟩:=g;exact⟨b,c,rfl,λG=>⟨k,m,λr s o=>by simp at o⟩,j⟩
theorem Ez(m:cZ)(u q:SE)(r x s:Nat)(F:Nat->Prop)(w:World)(X:(rI m.drives).ok w F [slice u r x])(Y:m.drives.length=r)(hn:r<=1000)(ho:(rS 4 []).ok w F [slice q 0 s]):
 Calls prog 49 #[.agg (bV m (slice u r x) (slice q 0 s))] w λA I=>∃v g i,A=returned (.agg (bV m v (slice g 0 i)))/\OwnI I w.heap.size v m.drives/\(∀G,OwnS I w.heap.size 65 4 G (slice g 0 i) [])/\Below w.heap.size w I:=by
 have CC:=ae λw (h:(rI m.drives).ok w F [slice u r x])=>iV m.drives F u r x w h Y (by omega);have CE:=ae λw (h:(rS 4 []).ok w F [slice q 0 s])=>BR q s F w h;obtain⟨c,a⟩:∃c,c=(w.alloc (cells #[int i64 m.seq,int i64 m.next,int i64 m.K,int i64 m.H,int i64 m.Z,int i64 m.extra,slice u r x,slice q 0 s] 68)).alloc (cells #[int i64 0,int i64 0,int i64 0,int i64 0,int i64 0,int i64 0,slice none 0 0,slice none 0 0] 68):=⟨_,rfl⟩;have b:(w.alloc (cells #[int i64 m.seq,int i64 m.next,int i64 m.K,int i64 m.H,int i64 m.Z,int i64 m.extra,slice u r x,slice q 0 s] 68)).heap.size=w.heap.size+1:=by simp
 have y:Sz (Blk c w.heap.size 68 #[int i64 m.seq,int i64 m.next,int i64 m.K,int i64 m.H,int i64 m.Z,int i64 m.extra,slice u r x,slice q 0 s]):=ae (by rw[a];exact(Blk.new w _ _).alloc _);have J:Sz (Blk c (w.heap.size+1) 68 #[int i64 0,int i64 0,int i64 0,int i64 0,int i64 0,int i64 0,slice none 0 0,slice none 0 0]):=ae (by rw[a,<-b];exact Blk.new _ _ _);have S:Sz (Below w.heap.size w c):=ae (by rw[a];exact((aC _ _).alloc (aj _) _).alloc (by simp) _);have aa:=ae ((rI _).new X S.o);have ab:=ae ((rS 4 []).new ho S.o);have d:=ae a;unfold bV;clear X Y hn a b ho;go_enter func49,ntmps49;go_upto_region 1 with fail;rw[<-d.o];have al:w.heap.size<c.heap.size:=y.o.lt;clear d;obtain⟨G,a⟩:∃G,G=w.heap.size:=⟨_,rfl⟩;rw[<-a] at y J al ⊢;have c6:c.cell? ⟨G,6,none⟩=some (slice u r x):=y.o.cell 6;have U:c.cell? ⟨G,7,none⟩=some (slice q 0 s):=y.o.cell 7;have Q:=ae a;clear a;go_cut [] (λa=>∃v g i,Sz (OwnI a c.heap.size v m.drives)/\Sz (∀j,OwnS a c.heap.size 65 4 j (slice g 0 i) [])/\Sz (Blk a G 68 #[int i64 m.seq,int i64 m.next,int i64 m.K,int i64 m.H,int i64 m.Z,int i64 m.extra,v,slice g 0 i])/\Sz (Blk a (G+1) 68 #[int i64 0,int i64 0,int i64 0,int i64 0,int i64 0,int i64 0,slice none 0 0,slice none 0 0])/\Sz (Below G c a))
 case first=>
  go_region_law (first
   | (have HQ:=ac
      go_simp;go_at_call 100;refine(CE.o C (kr ab.o C F)).mono ?_;rintro V z ⟨D,E,rfl,L,o⟩;have M:Sz (OwnI z c.heap.size R m.drives):=ae (ac.o.below o);have W:Sz (∀j,OwnS z c.heap.size 65 4 j (slice D 0 E) []):=ae λj=>(L j).base k.size λa b=>b;replace o:=k.trans (o.mono k.size);have t:=ae (y.o.below o y.o.lt);have ad:=ae (J.o.below o J.o.lt);have ag:=ae o;obtain⟨d,e,f,rfl⟩:=M.o.sl;have am:z.cell? ⟨G,6,none⟩=some (slice u r x):=t.o.cell 6;have an:z.cell? ⟨G,7,none⟩=some (slice q 0 s):=t.o.cell 7;have ao:=t.o.frozen 6;have ap:=(t.o.set 6 (slice d e f)).frozen 7;have aq:(z.setCell ⟨G,6,none⟩ (slice d e f)).cell? ⟨G,7,none⟩=some (slice q 0 s):=(by simpa using(t.o.set 6 (slice d e f)).cell 7);clear L o O k;go_simp)
   | (have HQ:=ai
      go_simp;go_at_call 99;refine(CC.o C ((rI _).new aa.o k)).mono ?_;rintro V z ⟨R,rfl,L,o⟩;have W:Sz (∀j,OwnS z c.heap.size 65 4 j (slice D 0 E) []):=ae λj=>((ai.o λ_=>False).new o).base (aj _) λa b=>b.elim;have M:Sz (OwnI z c.heap.size R m.drives):=ae (OwnI.base L k.size);replace o:=k.trans (o.mono k.size);have t:=ae (y.o.below o y.o.lt);have ad:=ae (J.o.below o J.o.lt);have ag:=ae o;obtain⟨d,e,f,rfl⟩:=M.o.sl;have am:z.cell? ⟨G,6,none⟩=some (slice u r x):=t.o.cell 6;have an:z.cell? ⟨G,7,none⟩=some (slice q 0 s):=t.o.cell 7;have ao:=t.o.frozen 6;have ap:=(t.o.set 6 (slice d e f)).frozen 7;have aq:(z.setCell ⟨G,6,none⟩ (slice d e f)).cell? ⟨G,7,none⟩=some (slice q 0 s):=(by simpa using(t.o.set 6 (slice d e f)).cell 7);clear L o O k;go_simp)
   | (go_simp
      go_at_call 99;refine(CC.o c.drew aa.o).mono ?_;rintro V C ⟨R,rfl,O,k⟩;replace k:=bQ k;have ac:Sz (OwnI C c.heap.size R m.drives):=ae O;have P:=ae (y.o.below k y.o.lt);have ar:C.cell? ⟨G,6,none⟩=some (slice u r x):=P.o.cell 6;have au:C.cell? ⟨G,7,none⟩=some (slice q 0 s):=P.o.cell 7;go_simp)
   | (go_simp
      go_at_call 100;refine(CE.o c.drew (kr ab.o _ F)).mono ?_;rintro V C ⟨D,E,rfl,O,k⟩;replace k:=bQ k;have ai:Sz (∀j,OwnS C c.heap.size 65 4 j (slice D 0 E) []):=ae O;have P:=ae (y.o.below k y.o.lt);have ar:C.cell? ⟨G,6,none⟩=some (slice u r x):=P.o.cell 6;have au:C.cell? ⟨G,7,none⟩=some (slice q 0 s):=P.o.cell 7;go_simp))
  all_goals(
   have ak:∀a,(Value.slice d e f).ownBlock=some a->a≠G:=λa b A=>Ty.ne2 A (M.o.ty a b) (Blk.ty t.o) (by decide);have av:Below G c z:=ag.o.mono (by omega);go_simp;refine ‹∀(a':Act) (I:World),Met _ a' I->_› _ _ ?_;go_meet;refine⟨slice d e f,D,E,ae (M.o.keepO λa b=>(bJ _ _ _ a (ak a b)).trans (bJ _ _ _ a (ak a b))),ae λj=>((W.o λ_=>False).keepAt (λa b=> ?_) λa b _ _=>b.elim).base (aj _) λa b=>b.elim,ae ?_,ae ((ad.o.far (show G+1≠G by omega) _).far (show G+1≠G by omega) _),ae ((av.setCell (p:=⟨G,6,none⟩) (aj _) _).setCell (p:=⟨G,7,none⟩) (aj _) _)⟩
   ·have h:a≠G:=λA=>Ty.ne2 A ((W.o λ_=>False).ownTy a b) (Blk.ty t.o) (by decide)
    exact(bJ _ _ _ a h).trans (bJ _ _ _ a h)
   ·simpa using(t.o.set 6 (slice d e f)).set 7 (slice D 0 E))
 case rest=>
  obtain⟨v,g,i,o,z,C,k,D⟩:=hcut;rename World=>E;clear c6 U;obtain⟨d,e,f,rfl⟩:=o.o.sl;have U:E.cell? ⟨G,7,none⟩=some (slice g 0 i):=C.o.cell 7;go_wp2_with fail;clear U;go_loopw [15] (λI wr=>∃t:Nat,t<=0/\I=int i64 t/\Sz (wr=E)) (λ_ _=>0)
  case atStart=>exact⟨0,by omega,rfl,ae rfl⟩
  case round=>
   obtain⟨t,ai,rfl,I⟩:=hrel;obtain rfl:t=0:=(by omega);obtain rfl:=I.o;obtain⟨L,M,O,P,R,V,W,x7⟩:=bW C.o
   go_wp2_with (change wpList _ _ _ (Oper.mk none (Op.store 68 _ _) _ _ _ _ :: _) _ _;refine wpList_store_row rfl 68 _ _ rfl (G+1) #[int i64 m.seq,int i64 m.next,int i64 m.K,int i64 m.H,int i64 m.Z,int i64 m.extra,slice d e f,slice g 0 i] rfl rfl 68 _ k.o (by kernel_rfl) rfl (by kernel_rfl) ?_)
   have HR:=ae (k.o.row #[int i64 m.seq,int i64 m.next,int i64 m.K,int i64 m.H,int i64 m.Z,int i64 m.extra,slice d e f,slice g 0 i]);have ac:=ae (bS D.o (Nat.le_succ G) #[int i64 m.seq,int i64 m.next,int i64 m.K,int i64 m.H,int i64 m.Z,int i64 m.extra,slice d e f,slice g 0 i]);have ad:Sz (OwnI (wr.setRow (G+1) #[int i64 m.seq,int i64 m.next,int i64 m.K,int i64 m.H,int i64 m.Z,int i64 m.extra,slice d e f,slice g 0 i]) c.heap.size (slice d e f) m.drives):=ae (o.o.keepO λa b=>setRow_other _ _ _ _ λA=>Ty.ne2 (by first | exact A | exact A.symm) (o.o.ty a b) (Blk.ty k.o) (by decide));have ag:Sz (∀j,OwnS (wr.setRow (G+1) #[int i64 m.seq,int i64 m.next,int i64 m.K,int i64 m.H,int i64 m.Z,int i64 m.extra,slice d e f,slice g 0 i]) c.heap.size 65 4 j (slice g 0 i) []):=ae λj=>(((z.o λ_=>False).keepAt (λa b=>setRow_other _ _ _ _ λA=>Ty.ne2 (by first | exact A | exact A.symm) ((z.o λ_=>False).ownTy a b) (Blk.ty k.o) (by decide)) (λa b _ _=>b.elim)).base (aj _) λa b=>b.elim);clear C k D o z L M O P R V W x7;generalize wr.setRow (G+1) #[int i64 m.seq,int i64 m.next,int i64 m.K,int i64 m.H,int i64 m.Z,int i64 m.extra,slice d e f,slice g 0 i]=A at*;go_wp2_with fail
   (try simp only[Exit.inBlock,Exit.then])
   refine bodyPost_ret (results_cell_row rfl _ _ (G+1) 68 #[int i64 m.seq,int i64 m.next,int i64 m.K,int i64 m.H,int i64 m.Z,int i64 m.extra,slice d e f,slice g 0 i] (0,0) _ rfl HR.o underlying68 rfl (by kernel_rfl)) rfl ?_;refine⟨_,g,i,rfl,ad.o.base (by rw[<-Q.o];omega),λj=>(ag.o j).base (by rw[<-Q.o];omega) λa b=>b,?_⟩;rw[<-Q.o];exact(Q.o▸S.o).trans ac.o
section
variable {B:Nat}
theorem I4(K H Z ln b a:Nat)(r:dS)(nm:ByteArray)(T:SC)(v:Value)(c:SE)(d e:Nat)(w:World)(j:Blk w b 178 (fC K H Z r v))(k:a≠r.o):
 Calls prog 246 (#[.agg (fJ ⟨nm,a,ln,T⟩ (slice c d e))]++#[pointer (some ⟨b,0,none⟩)]) w λf m=>f=returned (bool false)/\Below w.heap.size w m:=by
 show Calls prog 246 #[.agg (fJ ⟨nm,a,ln,T⟩ (slice c d e)),pointer (some ⟨b,0,none⟩)] w _
 have g:Sz (Sx w (w.alloc (cells (fJ ⟨nm,a,ln,T⟩ (slice c d e)) 65)) [bY w.heap.size 65 (fJ ⟨nm,a,ln,T⟩ (slice c d e)),bY b 178 (fC K H Z r v)]):=
  ae ((((Sx.nil w).add (bY b _ _) j).alloc _).add (bY _ _ _) (Blk.new w _ _))
 obtain⟨i,q,s,t,u⟩:=r;simp only at*;have x:¬(a:Int)=(i:Int):=by omega
 have y:¬a=i:=k;have z:((a:Int) == (i:Int))=false:=by rw[beq_eq_false_iff_ne];omega
 clear j k;unfold fC fJ at*;go_enter func246,ntmps246;generalize f:w.alloc (cells #[.string nm,int i64 a,int i64 ln,slice c d e] 65)=A at*;go_upto_region 1 with fail
 (try rw[f])
 clear f;refine dn (by kernel_rfl) (by kernel_rfl) ?_
 iterate 30 (
  with_reducible refine wpQuiet_step (λp f=> ?_)
  go_simp
  first
  | refine f _ ?_
  | refine⟨_,λ_ _=>rfl,f _ ?_⟩
  | (apply Exists.intro
     refine⟨λm o=> ?_,f _ ?_⟩
     ·obtain⟨C,D,E,F⟩:=fO ((g.o.step o).blk 0 rfl)
      obtain⟨G,I,J,L,M,O,P,Q⟩:=bW ((g.o.step o).blk 1 rfl)
      first
      | (go_simp
         first | exact rfl | exact⟨rfl,rfl⟩)
      | (go_at_call 114
         fail))
  clear f p)
 with_reducible refine wpQuiet_nil ?_
 intro C f;have p:=ae (g.o.step f);clear f;go_wp2_with fail;go_ret;exact⟨rfl,p.o.1⟩
theorem Mi(m:cZ)(r:dS)(k:Value)(b i:SE)(a c j:Nat)(F:Nat->Prop)(w:World)(S:m.objs.length<=1)(x:m.objs.length=a)(o:(rS 4 (m.objs.map df)).ok w F [slice b a c])(y:fQ m.K m.H m.Z=true)(z:r.i<=65535)(A:r.o<=16777215)(C:r.b<8)(D:∀e∈m.objs,e.obj≠r.o):
 Calls prog 179 #[.agg (bV m k (slice b a c)),.agg (fC m.K m.H m.Z r (slice i m.Z j))] w λe d=>e=returned (bool false)/\Below w.heap.size w d:=by
 obtain⟨s,t,K,H,Z,ex,u,f⟩:=m;simp only at*;obtain⟨d,g⟩:∃d,d=(w.alloc (cells (bV ⟨s,t,K,H,Z,ex,u,f⟩ k (slice b a c)) 68)).alloc (cells (fC K H Z r (slice i Z j)) 178):=⟨_,rfl⟩;have E:(w.alloc (cells (bV ⟨s,t,K,H,Z,ex,u,f⟩ k (slice b a c)) 68)).heap.size=w.heap.size+1:=by simp
 have G:Sz (Below w.heap.size w d):=ae (by rw[g];exact((aC _ _).alloc (aj _) _).alloc (by simp) _)
 have v:Sz (Sx w d [bY (w.heap.size+1) 178 (fC K H Z r (slice i Z j)),bY w.heap.size 68 (bV ⟨s,t,K,H,Z,ex,u,f⟩ k (slice b a c)),eR F (slice b a c) (rS 4 (f.map df))]):=
  ae (((((Sx.nil w).add (eR F (slice b a c) (rS 4 (f.map df))) o).step G.o).add (bY w.heap.size _ _) (by rw[g];exact(Blk.new w _ _).alloc _)).add (bY _ _ _) (by rw[g,<-E];exact Blk.new _ _ _))
 have q:decide (r.b<8)=true:=bq C;have p:=ae λw=>qK r.o r.b r.i K H Z r.t i j w A (by omega) z y;rw[q] at p;clear q
 have q:=ae λw (o:(rS 4 (f.map df)).ok w F [slice b a c]) (I:Blk w (d.heap.size-1) 178 (fC K H Z r (slice i Z j)))=>zK (λ_=>false) 246 #[pointer (some ⟨d.heap.size-1,0,none⟩)] f F b a c w o x (by omega) (enters_of func246 (by kernel_rfl) rfl) (λJ L M O P Q R=>by
  obtain⟨U,V,W,xt⟩:=J;exact I4 K H Z W (d.heap.size-1) V r U xt (slice i Z j) P xt.length Q M (I.below O I.lt) (D _ L))
 have I:d.heap.size-1=w.heap.size+1:=by rw[g];simp
 rw[I] at q;clear I;rw[show(f.any λ_=>false)=false from by simp] at q;have aa:=za;have X:=Gt K H Z;clear o E A C z y D S x;obtain⟨ro,rb,ri,rt,rd⟩:=r;simp only[tO] at p;unfold fC bV at*;simp only at*;go_enter func179,ntmps179;go_upto_region 1 with fail
 (try rw[<-g])
 have ab:=ae g;clear g;obtain⟨E,I,J,L,M,O,P,Q⟩:=bW (v.o.blk 0 rfl);go_wp2_with fail;refine(p.o d).mono ?_;rintro e Y ⟨rfl,R⟩;have g:=ae (v.o.step R);clear R p v G E I J L M O P Q;obtain⟨E,I,J,L,M,O,P,Q⟩:=bW (g.o.blk 0 rfl);obtain⟨G,R,m2,m3,m4,m5,m6,m7⟩:=bW (g.o.blk 1 rfl)
 go_wp2_with (simp only[])
 refine(q.o Y (g.o.rep 2 rfl) (g.o.blk 0 rfl)).mono ?_;rintro e w2 ⟨rfl,p⟩;have v:=ae (g.o.step p);clear p q g;go_wp2_with fail;go_ret;exact⟨rfl,v.o.1⟩
def okRB(K H Z:Nat)(c:List eB)(x:Option dS×SC):Prop:=
 x.2.length=64/\By x.2/\(∀a,x.1=some a->x.2=cellL 1 (jw a.o a.b a.i K H Z a.t a.d)/\a.d.length=Z/\By a.d/\a.i<=65535/\∃b,c=[b]/\Ny b a)/\
 (x.1=none->¬(iH x.2/\x.2.getD 3 0=1)\/∃a:dS,x.2=cellL 1 (jw a.o a.b a.i K H Z a.t a.d)/\a.d.length=Z/\By a.d/\a.i<=65535/\a.o<=16777215/\a.b<8/\a.t<4294967296/\∀b∈c,b.obj≠a.o)
def BK(m:cZ)(X:List (Option dS×SC)):Prop:=(∀a∈X,okRB m.K m.H m.Z m.objs a)/\X.length<=1000/\(fA X).length<=19/\uM (fA X)
theorem yY(m:cZ)(dg p aR:Nat)(U:Value)(G:SE)(x I:Nat)(F:Nat->Prop)(X:List (Option dS×SC))(o:Option Nat)(w:World)(h:DrR w dg p aR (jk X) o)(aS:m.objs.length<=1)(aF:m.objs.length=x)(L:(rS 4 (m.objs.map df)).ok w F [slice G x I])
 (hk:fQ m.K m.H m.Z=true)(a7:BK m X):
 Calls prog 118 #[pointer (some ⟨dg,0,none⟩),.agg (bV m U (slice G x I))] w λe b=>∃a n c,e=returned (slice a n c)/\(rS 8 ((fA X).map (xZ m.K m.H m.Z))).ok b (Fr w.heap.size) [slice a n c]/\Below w.heap.size w b:=by
 obtain⟨d,q,t,u⟩:=a7;have s:=(aC w.heap.size w).alloc (aj _) (cells (bV m U (slice G x I)) 68);have aw:=ae (Blk.new w 68 (bV m U (slice G x I)));have a8:=ae ((rS 4 _).new L s);obtain⟨vr,wt,v,y,-⟩:=h.below s;have a9:(jk X).length=X.length:=uA X
 have CD:=ae (zT dg p aR wt vr (jk X) _ _ v y.rep (by omega) (λag hx=>by
  obtain⟨f,hy,rfl⟩:=aZ.1 hx;have:=(d f hy).1;omega))
 have aT:=ae s;have ba:=ae d;have HS:=ae u;have HK:=ae hk;have aV:=ae q
 have CC:=ae λ(r:dS) (g:SE) (j:Nat) w (L:(rS 4 (m.objs.map df)).ok w F [slice G x I]) (k:r.i<=65535) (hc:∃e,m.objs=[e]/\Ny e r)=>(show Calls prog 179 #[.agg (bV m U (slice G x I)),.agg (fC m.K m.H m.Z r (slice g m.Z j))] w λe b=>e=returned (bool true)/\Below w.heap.size w b by
  obtain⟨e,aK,hc⟩:=hc;obtain rfl:x=1:=(by rw[<-aF,aK];rfl);rw[aK] at L;exact JM m e r U G g I j F w aK L hk k hc)
 have CF:=ae λ(r:dS) (g:SE) (j:Nat) w (L:(rS 4 (m.objs.map df)).ok w F [slice G x I]) (k:r.i<=65535) (b:r.o<=16777215) (z:r.b<8) (A:∀e∈m.objs,e.obj≠r.o)=>Mi m r U G g x I j F w aS aF L hk k b z A;have bb:=ae t;clear h L hk d u s v y q t aS aF;obtain⟨sq,nx,K,H,Z,ex,dr,os⟩:=m;unfold bV fC at*;simp only at*;generalize bc:w.alloc (cells #[int i64 sq,int i64 nx,int i64 K,int i64 H,int i64 Z,int i64 ex,U,slice G x I] 68)=w0 at*;have aX:w.heap.size<w0.heap.size:=aw.o.lt;go_enter func118,ntmps118;refine wp_seq_k λK1 M=> ?_;have O:=ae M;clear M;go_wp2_with fail;refine O.o _ _ ?_;clear O
 (try rw[bc])
 refine mU 0 1 (λag am k=>∃(d:Nat) (i:Int) (vo:Value) (Q:SE) (y:Nat) (w1:World),(X.length<d+ag/\d<=X.length/\Sz (i=(d:Int)-1)/\Sz (Below w0.heap.size w0 w1)/\Sz ((rM (jk X)).ok w1 Any [slice Q X.length y])/\Sz (OwnS k w1.heap.size 178 8 (Fr w1.heap.size) vo ((fA (X.take d)).map (xZ K H Z)))/\Sz (Below w1.heap.size w1 k))/\∃b:Nat->Value,am= { tmps:=#[pointer (some ⟨dg,0,none⟩),.agg #[int i64 sq,int i64 nx,int i64 K,int i64 H,int i64 Z,int i64 ex,U,slice G x I],undef,pointer (some ⟨w.heap.size,0,none⟩),slice none 0 0,slice Q X.length y,vo,int i64 i,b 8,b 9,b 10,b 11,b 12,b 13,b 14,b 15,b 16,b 17,b 18,b 19,b 20,b 21,b 22,b 23,b 24,b 25,b 26,b 27,b 28,b 29,b 30,b 31,b 32,b 33,b 34,b 35,b 36,b 37,b 38,b 39],defers:=[] })
  (λam k=>∃(vo:Value) (Q:SE) (y:Nat) (w1:World),(Sz (Below w0.heap.size w0 w1)/\Sz (OwnS k w1.heap.size 178 8 (Fr w1.heap.size) vo ((fA X).map (xZ K H Z)))/\Sz (Below w1.heap.size w1 k))/\∃b:Nat->Value,am= { tmps:=#[pointer (some ⟨dg,0,none⟩),.agg #[int i64 sq,int i64 nx,int i64 K,int i64 H,int i64 Z,int i64 ex,U,slice G x I],undef,pointer (some ⟨w.heap.size,0,none⟩),slice none 0 0,slice Q X.length y,vo,b 7,b 8,b 9,b 10,b 11,b 12,b 13,b 14,b 15,b 16,b 17,b 18,b 19,b 20,b 21,b 22,b 23,b 24,b 25,b 26,b 27,b 28,b 29,b 30,b 31,b 32,b 33,b 34,b 35,b 36,b 37,b 38,b 39],defers:=[] }) (X.length+1) _ rfl rfl ?_ ?_ ?_
 ·intro D t
  have v:=ae t;clear t;refine wp_seq_k λK1 M=> ?_;have O:=ae M;clear M;go_wp2_with fail;refine CD.o.mono ?_;rintro e w1 ⟨E,rfl,q,u⟩;obtain⟨Q,y,rfl,-⟩:=q.val;rw[aG,uA] at q ⊢;have ai:Sz ((rM (jk X)).ok w1 Any [slice Q X.length y]):=ae q.repAny;have z:=ae u;have A:Sz (OwnS w1 w1.heap.size 178 8 (Fr w1.heap.size) (slice none 0 0) ((fA (X.take 0)).map (xZ K H Z))):=ae (OwnS.nil _ _ _ _ _);have C:=ae (aC w1.heap.size w1);clear q u CD;go_wp2_with fail;refine O.o _ _ ?_;clear O;refine wp_seq_k λK1 M=> ?_;have O:=ae M;clear M;go_wp2_with fail;refine O.o _ _ ?_;clear O;refine wp_seq_k λK1 M=> ?_;have O:=ae M;clear M;go_wp2_with fail;refine O.o _ _ ?_;clear O;refine wp_seq (wp_label ?_);refine v.o _ _ ?_;exact⟨0,-1,_,Q,y,w1,⟨by omega,by omega,ae rfl,z,ai,A,C⟩,dZ _ _ rfl⟩
 ·rintro ag am k ⟨d,i,vo,Q,y,w1,⟨hx,bo,HI,z,ai,t,v⟩,b,rfl⟩
  have bp:IntKind.i64.wrap (i+1)=(d:Int):=(by rw[HI.o,IntKind.wrap_i64];have:=aV.o;omega);have ay:=ae ((aw.o.below z.o aw.o.lt).below v.o (aW aw.o.lt z.o.size));have aY:=ae ((rS 4 _).new ((rS 4 _).new a8.o z.o) v.o);clear CD;by_cases az:d<X.length
  ·have br:(d:Int)<(X.length:Int):=by omega
   have bs:¬(X.length:Int)<=(d:Int):=(by omega);obtain⟨ar,cr,er,q,-⟩:=fE ((rM _).new ai.o v.o) (n:=X.length) (uA X);injection er with bd _ be;subst bd be;obtain⟨bx,ox,ax,cx,rfl,bt,a0,Y,u,an,aL⟩:=q.at (i:=d) (by omega);have eR:(jk X).getD d []=(X.getD d (none,[])).2:=JN X az;have bf:=ba.o (X.getD d (none,[])) (by rw[af,ah az];exact aQ az);have HT:Sz (fA (X.take (d+1))=fA (X.take d)++(match (X.getD d (none,[])).1 with | some f=>[f] | none=>[])):=ae (JO az);have bv:(fA (X.take d)).length<=1000:=(by unfold fA;have h1:=length_filterMap_le (·.1) (X.take d);rw[aH] at h1;have:=aV.o;omega);rw[eR] at a0 Y an;clear eR q u;generalize fA (X.take d)=bh at*;generalize X.getD d (none,[])=bi at*;obtain⟨oy,aM⟩:=bi;obtain⟨q1,q2,q3,q4⟩:=bf;simp only at*;rw[q1] at a0 Y an;obtain⟨av,nv,cv,rfl⟩:=t.o.sl;cases oy with
   | none=>
     rw[append_nil] at HT;rcases q4 rfl with ak | ⟨f,p1,p2,p3,p4,V,p6,p7,p8⟩
     ·have P:=ae (wT aM ax cx k Y q2 ⟨an,aL⟩ ak)
      rw[<-HT.o] at t;unfold ja at P;clear Y q1 q2 q3 ak;go_wp2_with fail;refine P.o.mono ?_;rintro e q ⟨rfl,u⟩;have s:=(aC q.heap.size q).alloc (aj _) (cells #[int i64 0,int i64 0,int i64 0,int i64 0,int i64 0,int i64 0,.int .u32 0,slice none 0 0] 178);have aa:=ae ((t.o.new u).new s);have A:=ae (v.o.trans ((u.trans (s.mono u.size)).mono v.o.size));clear s u P t;go_wp2_with fail;go_step3;exact .inl ⟨rfl,ag-1,by omega,d+1,(d:Int),_,_,y,w1,⟨by omega,by omega,ae (by omega),z,ai,aa,A⟩,dZ _ _ rfl⟩
     ·rw[<-HT.o] at t
      have P:=ae (uJ f.o f.b f.i K H Z f.t f.d aM ax cx k V p6 p4 HK.o p7 p2 p3 p1 Y q2 ⟨an,aL⟩);have aA:=ae p4;have ao:=ae V;have A:=ae p6;have C:=ae p8;have aB:=ae λg j w L=>CF.o f g j w L aA.o ao.o A.o C.o;clear Y q1 q2 q3 p1 p2 p3 p4 V p6 p7 p8 CC CF aA ao A C;obtain⟨A,C,D,E,W⟩:=f;unfold tO at P;simp only at*;go_wp2_with fail;refine P.o.mono ?_;rintro e q ⟨g,j,rfl,ap,u⟩;have s:=(aC q.heap.size q).alloc (aj _) (cells #[int i64 A,int i64 C,int i64 D,int i64 K,int i64 H,int i64 Z,.int .u32 (E:Nat),slice g Z j] 178);have J:Below k.heap.size k (q.alloc (cells #[int i64 A,int i64 C,int i64 D,int i64 K,int i64 H,int i64 Z,.int .u32 (E:Nat),slice g Z j] 178)):=u.trans (s.mono u.size);have ab:=ae (Blk.new q 178 #[int i64 A,int i64 C,int i64 D,int i64 K,int i64 H,int i64 Z,.int .u32 (E:Nat),slice g Z j]);have aq:=ae (ay.o.below J ay.o.lt);have aa:=ae ((rS 4 _).new aY.o J);have aD:=ae ((rB W).new ap s);have S:=ae J;clear s J ap u P;go_upto_region 7 with fail;generalize q.alloc (cells #[int i64 A,int i64 C,int i64 D,int i64 K,int i64 H,int i64 Z,.int .u32 (E:Nat),slice g Z j] 178)=w4 at*;generalize q.heap.size=G4 at*;obtain⟨m0,m1,m2,m3,m4,m5,m6,m7⟩:=bW aq.o;obtain⟨x0,x1,x2,x3,x4,x5,x6,x7⟩:=bW ab.o;go_wp2_with fail;refine(aB.o g j w4 aa.o).mono ?_;rintro e w5 ⟨rfl,ac⟩;have ad:=ae (S.o.trans (ac.mono S.o.size));have aE:=ae (t.o.new ad.o);have au:=ae (v.o.trans (ad.o.mono v.o.size));clear ac ab aq aa aD S m0 m1 m2 m3 m4 m5 m6 m7 x0 x1 x2 x3 x4 x5 x6 x7 t ad aB;go_wp2_with fail;go_step3;exact .inl ⟨rfl,ag-1,by omega,d+1,(d:Int),_,_,y,w1,⟨by omega,by omega,ae (by omega),z,ai,aE,au⟩,dZ _ _ rfl⟩
   | some f=>
     obtain⟨p1,p2,p3,p4,V⟩:=q3 _ rfl;have ak:f.t<4294967296:=(by obtain⟨e,-,h5⟩:=V;rw[h5.2.2.1];unfold iD;have h1:=h5.2.2.2.1;have h2:=h5.2.2.2.2.1;have h3:=h5.2.2.2.2.2;omega);have a1:f.o<=16777215:=(by obtain⟨e,-,h5⟩:=V;exact h5.2.2.2.1);have a4:f.b<8:=(by obtain⟨e,-,h5⟩:=V;exact h5.2.2.2.2.2);have P:=ae (uJ f.o f.b f.i K H Z f.t f.d aM ax cx k a1 a4 p4 HK.o ak p2 p3 p1 Y q2 ⟨an,aL⟩);have aA:=ae p4;have ao:=ae V;have aB:=ae λg j w L=>CC.o f g j w L aA.o ao.o;clear Y q1 q2 q3 q4 p1 p2 p3 p4 V ak a1 a4 CC CF ao;obtain⟨A,C,D,E,W⟩:=f;unfold tO at P;simp only at*;go_wp2_with fail;refine P.o.mono ?_;rintro e q ⟨g,j,rfl,ap,u⟩;have s:=(aC q.heap.size q).alloc (aj _) (cells #[int i64 A,int i64 C,int i64 D,int i64 K,int i64 H,int i64 Z,.int .u32 (E:Nat),slice g Z j] 178);have J:Below k.heap.size k (q.alloc (cells #[int i64 A,int i64 C,int i64 D,int i64 K,int i64 H,int i64 Z,.int .u32 (E:Nat),slice g Z j] 178)):=u.trans (s.mono u.size);have ab:=ae (Blk.new q 178 #[int i64 A,int i64 C,int i64 D,int i64 K,int i64 H,int i64 Z,.int .u32 (E:Nat),slice g Z j]);have aq:=ae (ay.o.below J ay.o.lt);have aa:=ae ((rS 4 _).new aY.o J);have aD:=ae ((rB W).new ap s);have S:=ae J;clear s J ap u P;go_upto_region 7 with fail;generalize q.alloc (cells #[int i64 A,int i64 C,int i64 D,int i64 K,int i64 H,int i64 Z,.int .u32 (E:Nat),slice g Z j] 178)=w4 at*;generalize q.heap.size=G4 at*;obtain⟨m0,m1,m2,m3,m4,m5,m6,m7⟩:=bW aq.o;obtain⟨x0,x1,x2,x3,x4,x5,x6,x7⟩:=bW ab.o;go_wp2_with fail;refine(aB.o g j w4 aa.o).mono ?_;rintro e w5 ⟨rfl,ac⟩;have a1:=ae (ab.o.below ac ab.o.lt);have ad:=ae (S.o.trans (ac.mono S.o.size));have a4:Sz ((xZ K H Z ⟨A,C,D,E,W⟩).ok w5 (λak=>Fr w1.heap.size ak/\some ak≠(Value.slice av nv cv).ownBlock) (fC K H Z ⟨A,C,D,E,W⟩ (slice g Z j)).toList):=ae (rn_ok (r:=⟨A,C,D,E,W⟩) ((rB W).more ((rB W).new aD.o ac) λak hb _=>⟨aP v.o.size hb,λe=>by have h1:=(t.o.lt ak e.symm).2;have h2:k.heap.size<=ak:=hb;omega⟩));have aE:=ae (t.o.new ad.o);have au:=ae (v.o.trans (ad.o.mono v.o.size));have bj:w1.heap.size<=w5.heap.size:=au.o.size;have bk:(bh.map (xZ K H Z)).length<=1000000:=(by rw[aG];omega);clear ac ab aq aa aD S m0 m1 m2 m3 m4 m5 m6 m7 x0 x1 x2 x3 x4 x5 x6 x7 t ad;obtain⟨x0,x1,x2,x3,x4,x5,x6,x7⟩:=bW a1.o
     go_wp2_with (at_builtin;refine iA (w:=w5) (w1:=w5) rfl _ _ rfl underlying175 Lx rfl (by decide) (by decide) aE.o (aC _ _) bj bk (R:=xZ K H Z ⟨A,C,D,E,W⟩) a4.o rfl rfl rfl ?_)
     intro v6 w6 a5 a6;have bl:Sz (OwnS w6 w1.heap.size 178 8 (Fr w1.heap.size) v6 ((fA (X.take (d+1))).map (xZ K H Z))):=ae (by rw[HT.o,aU];exact a5);have bm:=ae (au.o.trans a6);clear a5 a6 aE a4 a1 au x0 x1 x2 x3 x4 x5 x6 x7;go_wp2_with fail;go_step3;exact .inl ⟨rfl,ag-1,by omega,d+1,(d:Int),_,_,y,w1,⟨by omega,by omega,ae (by omega),z,ai,bl,bm⟩,dZ _ _ rfl⟩
  ·obtain rfl:d=X.length:=by omega
   rw[aN (aj _)] at t;go_wp2_with fail;go_step3;exact .inr ⟨rfl,_,Q,y,w1,⟨z,t,v⟩,dZ _ _ rfl⟩
 ·rintro am k ⟨vo,Q,y,w1,⟨z,t,v⟩,b,rfl⟩
  obtain⟨av,cv,rfl,-⟩:=t.o.val;have D:(fA X).length<=19:=bb.o;have d:=ae t.o.fr;rw[aG] at d ⊢;obtain⟨N,g⟩:∃N,(fA X).length=N:=⟨_,rfl⟩;rw[g] at d ⊢;have j:=ae (yu K H Z (fA X) _ av N cv k d.o g (by omega) HS.o);have A:=ae λ(C:World) (E:Below k.heap.size k C)=>EC K H Z (fA X) _ av N cv C ((rS 8 _).new d.o E) g (by omega) HS.o;clear CD CC CF t D g a9;go_wp2_with fail;refine j.o.mono ?_;rintro e q ⟨rfl,u⟩;have g:=ae (A.o q u);have C:=ae u;clear u j A;go_wp2_with fail;refine g.o.mono ?_;rintro e w4 ⟨rfl,J⟩;have S:=ae (C.o.trans (J.mono C.o.size));clear J g;go_wp2_with fail;simp only[dL];go_ret;exact⟨_,_,_,rfl,(rS 8 _).more ((rS 8 _).new d.o S.o) λak hb _=>aP (aP (Nat.le_of_lt aX) z.o.size) hb,(aT.o.trans (z.o.mono aT.o.size)).trans ((v.o.trans (S.o.mono v.o.size)).mono (aP (Nat.le_of_lt aX) z.o.size))⟩
end
section
variable {B:Nat}
theorem Lb(p:Nat)(w:World)(h:PwS w p):Calls prog 84 #[pointer (some ⟨p,0,none⟩)] w λa b=>a=returned (.tuple #[])/\b=w:=by
 have a:=Blk.frozen h 0;have b:=Blk.frozen h 1;have c:=Blk.frozen h 2;obtain⟨d,e,f,g⟩:=h.cells;have i:w.setCell ⟨p,0,none⟩ (bool false)=w:=d9 h (by rfl);have j:w.setCell ⟨p,1,none⟩ (bool false)=w:=d9 h (by rfl);have k:w.setCell ⟨p,2,none⟩ (int i64 0)=w:=d9 h (by rfl);clear h;go_enter func84,ntmps84;go_wp2_with fail
 (try simp only[Exit.inBlock,Exit.then])
 refine bodyPost_end (results_none rfl _ _ _) rfl ?_;exact⟨rfl,rfl⟩
theorem F4(b:List Int)(a:SE)(n c i:Nat)(w:World)(d:Rd w w.heap.size a n (b.map (Value.int .i64))):Calls prog 83 #[slice a n c,int i64 i] w λe f=>e=returned (int i64 (b.getD i 0))/\f=w:=by
 have f:b.length=n:=by have:=d.len;rwa [aG] at this
 by_cases h:i<n
 ·have j:¬(n:Int)<=(i:Int):=by omega
  have o:(i:Int)<(n:Int):=(by omega);obtain⟨k,m,rfl,p,g⟩:=d.2 (by omega);have q:w.cell? ⟨k,m+i,none⟩=some (int i64 (b.getD i 0)):=g i _ (by rw[List.getElem?_map,af,ah (by omega)];rfl);generalize b.getD i 0=r at*;clear g d f;go_enter func83,ntmps83;go_wp2_with fail;go_ret;exact⟨rfl,rfl⟩
 ·have j:(n:Int)<=(i:Int):=by omega
  have e:b.getD i 0=0:=(by rw[af,List.getElem?_eq_none (by omega)];rfl);rw[e];clear d e f;go_enter func83,ntmps83;go_wp2_with fail;go_ret;exact⟨rfl,rfl⟩
theorem Ii(k t:Int)(w:World):Calls prog 82 #[pointer none,int i64 k,int i64 t] w λa b=>a=returned (.tuple #[])/\b=w:=by
 go_enter func82,ntmps82;go_wp2_with fail
 (try simp only[Exit.inBlock,Exit.then])
 refine bodyPost_ret (results_none rfl _ _ _) rfl ?_;exact⟨rfl,rfl⟩
theorem Lc(g p e n c:Nat)(a:SE)(k t:Int)(w:World)(h:DrB w g p e (slice a n c) 0)(v:n<=100000)(x:n<=c/\c<=maxLen):Calls prog 82 #[pointer (some ⟨g,0,none⟩),int i64 k,int i64 t] w λb d=>b=returned (.tuple #[])/\∃j,d=w.drewN j:=by
 have b:Sz (DrB w.drew g p e (slice a n c) 0):=ae h;have u:Sz (∃j,w.drew=w.drewN j):=ae ⟨1,rfl⟩;have y:(n:Int)<=(c:Int):=by omega
 have z:min (max k 0) 0=0:=by omega
 obtain⟨f,i,m,o,q,r,s⟩:=h.cells;clear h;go_enter func82,ntmps82;go_wp2_with fail;go_region;generalize w.drew=d at*;clear f i m o q r s;obtain⟨f,i,m,o,q,r,s⟩:=b.o.cells;have A:=Blk.frozen b.o 2;have C:=Blk.frozen b.o 3;have D:=Blk.frozen b.o 4;have E:=Blk.frozen b.o 5;have F:d.setCell ⟨g,2,none⟩ (slice a n c)=d:=d9 b.o (by rfl);have G:d.setCell ⟨g,3,none⟩ (int i64 0)=d:=d9 b.o (by rfl);have I:d.setCell ⟨g,4,none⟩ (slice none 0 0)=d:=d9 b.o (by rfl);have J:d.setCell ⟨g,5,none⟩ (bool false)=d:=d9 b.o (by rfl);go_wp2_with fail
 (try simp only[Exit.inBlock,Exit.then])
 refine bodyPost_end (results_none rfl _ _ _) rfl ?_;exact⟨rfl,u.o⟩
theorem OO(R:List SC)(F:Nat->Prop)(a:SE)(n c:Nat)(w:World)(t:(rM R).ok w F [slice a n c])(u:R.length=n)(hn:n<=1000)(y:∀x∈R,x.length<=1000):
 Calls prog 39 #[slice a n c] w λe b=>∃v,e=returned v/\OwnS b w.heap.size 30 1 (Ty 5 b) v (R.map rB)/\Below w.heap.size w b:=by
 have Q:Sz (Sx w w [eR F (slice a n c) (rM R)]):=ae ((Sx.nil w).add (eR F _ _) t);have k:=ae u;have S:=ae y;have z:Sz (OwnS w w.heap.size 30 1 (Ty 5 w) (slice none 0 0) ((R.take 0).map rB)):=ae (OwnS.nil _ _ _ _ _);have A:=ae (aC w.heap.size w);clear t u y;go_enter func39,ntmps39;go_wp2_with fail;go_loopw [3,8] (λv d wr=>∃b:Nat,b<=n/\d=int i64 b/\Sz (OwnS wr w.heap.size 30 1 (Ty 5 wr) v ((R.take b).map rB))/\Sz (Below w.heap.size w wr)) (λ_ d _=>n-(intOf d).toNat)
 case atStart=>exact⟨0,by omega,rfl,z,A⟩
 case round=>
  clear z A;obtain⟨b,ai,rfl,g,i⟩:=hrel;have C:=ae (Q.o.step i.o);obtain⟨D,E,G,rfl⟩:=g.o.sl;by_cases p:b<n
  ·have ak:(b:Int)<(n:Int):=by omega
   obtain⟨aX,cX,U,d,-⟩:=fE (C.o.rep 0 rfl) k.o;injection U with V _ W;subst V W;obtain⟨bx,ox,X,Y,rfl,al,P,f,j,o,q⟩:=d.at p;have m:=S.o (R.getD b []) (by rw[af,ah (by rw[k.o];exact p)];exact aQ _)
   have I:Sz ((R.take (b+1)).map rB=(R.take b).map rB++[rB (R.getD b [])]):=ae (by
    have J:b<R.length:=(by rw[k.o];exact p);rw[aO J,aU,af,ah J];rfl)
   have aa:((R.take b).map rB).length<=1000000:=(by rw[aG,aH];omega);have L:=ae (ed (R.getD b []) _ X _ Y wr f (aj _) j (by omega));have am:Sz ((R.getD b []).length<=1000):=ae m;clear d f j o q m;generalize d:R.getD b []=m at*;generalize ab:m.length=nX at*;generalize f:(R.take b).map rB=LL at*;clear d f;go_wp2_with fail;refine L.o.mono ?_;rintro e f ⟨v2,rfl,q,r⟩;obtain⟨a2,c2,rfl,-⟩:=q.rd2 ab;have o:Sz (OwnS f w.heap.size 30 1 (Ty 5 f) (slice D E G) LL):=ae (g.o.chg (M:=λ_=>False) (Chg.of r) (λ_ _ h=>h) λ_ h=>h.elim);have O:Sz ((rB m).ok f (λd=>Ty 5 f d/\some d≠(Value.slice D E G).ownBlock) [slice a2 nX c2]):=ae ((rB m).more (lV q) λd j _=>⟨j.1,λe=>(o.o.ownTy d e.symm).ne j.1 (by decide)⟩);have s:=ae (i.o.trans (r.mono i.o.size));have ac:w.heap.size<=f.heap.size:=s.o.size;clear q r L C P g i
   go_wp2_with (at_builtin;refine iL (w:=f) rfl _ _ rfl underlying45 dP rfl (by decide) (by decide) o.o ac aa (R:=rB m) O.o rfl rfl rfl ?_)
   intro v6 w6 q r ad L ag;rw[<-I.o] at q;have P:=ae (q.reTy λd j=>L d j.lt λe=>j.ne (o.o.ownTy d e.symm) (by decide));have d:=ae (s.o.trans r);clear q r ad L ag o O I s;obtain⟨j,o,q,rfl⟩:=P.o.sl;go_wp2_with fail;go_roundw
   case rel=>exact⟨b+1,by omega,by go_num,P,d⟩
   case measure=>simp[intOf];omega
  ·obtain rfl:b=n:=by omega
   have d:Sz ((R.take b).map rB=R.map rB):=ae (by rw[aN (by rw[k.o];exact aj _)]);rw[d.o] at g;go_wp2_with fail;go_ret;exact⟨_,rfl,g.o,i.o⟩
theorem Ef(g p m:Nat)(v:Value)(R:List SC)(F:Nat->Prop)(a:SE)(n c:Nat)(w:World)(h:DrB w g p m v 0)(s:PwS w p)(r:(rM R).ok w F [slice a n c])(u:R.length=n)(X:n<=1000)(ag:n<=m)(y:∀x∈R,x.length=64):
 Calls prog 134 #[pointer (some ⟨g,0,none⟩),slice a n c] w λb d=>b=returned (int i64 0)/\∃e,DrB d g p m e 0/\OwnS d w.heap.size 30 1 (Ty 5 d) e (R.map rB)/\Chg (·=g) w d:=by
 have z:=ae h;have HP:=ae s;have Y:=ae r;have O:=ae u;have HR:=ae y;have A:=ae (Dv p w s);have C:=ae (AX p w s);have D:=ae (OO R F a n c w r u X λx r=>by rw[y x r];omega);have ai:¬(m:Int)<(n:Int):=by omega
 clear h s r u y;go_enter func134,ntmps134;go_wp2_with fail;go_loopw [9] (λd wr=>∃i:Nat,i<=n/\d=int i64 i/\Sz (wr=w)) (λd _=>n-(intOf d).toNat)
 case atStart=>exact⟨0,by omega,rfl,ae rfl⟩
 case round=>
  obtain⟨i,ak,rfl,d⟩:=hrel;have aa:=d.o;subst aa;clear d;by_cases P:i<n
  ·have ab:(i:Int)<(n:Int):=by omega
   obtain⟨I,J,f,d,-⟩:=fE Y.o O.o;injection f with j _ E;subst j E;obtain⟨L,Q,S,U,rfl,V,k,o,q,t,G⟩:=d.at P;have e:=HR.o (R.getD i []) (by rw[af,ah (by rw[O.o];exact P)];exact aQ _);rw[e] at k;clear d o q t G e D C A;go_wp2_with fail;go_roundw
   case rel=>exact⟨i+1,by omega,by go_num,by first | exact ae rfl | trivial⟩
   case measure=>simp[intOf];omega
  ·obtain rfl:i=n:=by omega
   have ab:¬(i:Int)<(i:Int):=(by omega);obtain⟨L,S,G,I,U,V,W⟩:=z.o.cells;go_wp2_with fail;refine A.o.mono ?_;rintro b w2 ⟨rfl,rfl⟩;go_wp2_with fail;refine C.o.mono ?_;rintro b t ⟨rfl,rfl⟩;go_wp2_with fail;refine D.o.mono ?_;rintro b j ⟨v4,rfl,k,q⟩;obtain⟨d,e,f,rfl⟩:=k.sl;have o:=ae (Blk.below z.o q (Blk.lt z.o));have J:=ae k;have Q:Sz (Chg (·=g) t j):=ae (Chg.of q);clear k q D A C L S G I U V W;have f2:=Blk.frozen o.o 2;have G:=Blk.cell o.o 2;have q:Sz (DrB (j.setCell ⟨g,2,none⟩ (slice d e f)) g p m (slice d e f) 0):=ae (Blk.set o.o 2 _);have f3:=Blk.frozen q.o 3;have I:(j.setCell ⟨g,2,none⟩ (slice d e f)).cell? ⟨g,3,none⟩=some (int i64 0):=Blk.cell q.o 3;have E:(j.setCell ⟨g,2,none⟩ (slice d e f)).setCell ⟨g,3,none⟩ (int i64 0)=j.setCell ⟨g,2,none⟩ (slice d e f):=d9 q.o (by rfl);have S:some g≠(Value.slice d e f).ownBlock:=λb=>(Blk.ty o.o).ne (J.o.ownTy g b.symm) (by decide);have U:Sz (OwnS (j.setCell ⟨g,2,none⟩ (slice d e f)) t.heap.size 30 1 (Ty 5 (j.setCell ⟨g,2,none⟩ (slice d e f))) (slice d e f) (R.map rB)):=ae (J.o.chg (M:=(·=g)) ((Chg.refl (·=g) j).set ⟨g,2,none⟩ _ λ_=>rfl) (λL k b=>S (by rw[k,b])) (λL b k=>Ty.ne2 b k (Blk.ty o.o) (by decide)));have V:Sz (Chg (·=g) t (j.setCell ⟨g,2,none⟩ (slice d e f))):=ae (Q.o.set ⟨g,2,none⟩ _ λ_=>rfl);have W:=ae (AY g p m 0 (slice d e f) (j.setCell ⟨g,2,none⟩ (slice d e f)) q.o);clear o J Q;go_wp2_with fail;refine W.o.mono ?_;rintro b J ⟨rfl,Q,o⟩;have ac:=ae Q;have ad:Sz (OwnS J t.heap.size 30 1 (Ty 5 J) (slice d e f) (R.map rB)):=ae (U.o.chg o (λL k b=>S (by rw[k,b])) λL b k=>Ty.ne2 b k (Blk.ty q.o) (by decide));have k:=ae (V.o.trans o);clear Q o W q U V f2 G f3 I E;go_wp2_with fail;go_ret;exact⟨rfl,_,ac.o,ad.o,k.o⟩
end
section
variable {B:Nat}
theorem Ox(m b:cZ)(g:Nat)(f:Fl)(R:Nat->List SC)(j k:SE)(d o p:Nat)(L:SC)(a:SE)(n c:Nat)(w:World)(h:Stq B w g f m R)(O:B<=g/\B<=w.heap.size)(aa:b.drives=range f.n)
 (v:b.objs=[])(s:(rI b.drives).ok w (Fd w) [slice j d o])(E:b.drives.length=d)(q:(rS 4 (b.objs.map df)).ok w (Fd w) [slice k 0 p])(y:gP b)(F:jE b)
 (G:(rI L).ok w (Fd w) [slice a n c])(P:L.length=n)(h0:0<n)(hn:n<=64)(ab:∀x∈L,x<f.n/\f.Z x=false)(ac:∀i,i<f.n->(R i).length+(iX (mE b L) i).length<=f.room i/\f.room i<=512):
 Calls prog 109 #[pointer (some ⟨g,0,none⟩),.agg (bV b (slice j d o) (slice k 0 p)),slice a n c] w λI e=>I=returned (int i64 0)/\Stq B e g f b (iG (mE b L) R)/\Below B w e/\ChgT w e:=by
 have r:d<=64:=by rw[<-E];exact y.2.2.2.2.1.2
 have V:=ae λw (e:Nat->Prop) (s:(rI b.drives).ok w e [slice j d o]) (q:(rS 4 (b.objs.map df)).ok w e [slice k 0 p]) (G:(rI L).ok w e [slice a n c])=>Ay b (by rw[v];simp) j k d o 0 p e w s E q (by rw[v];rfl) y F L a n c G P hn;have CO:=ae λw (s:(rI b.drives).ok w (Fd w) [slice j d o]) (q:(rS 4 (b.objs.map df)).ok w (Fd w) [slice k 0 p])=>Ez b j k d o p (Fd w) w s E (by omega) (by rw[v] at q;exact q);have e:=(aC w.heap.size w).alloc (aj _) (cells (bV b (slice j d o) (slice k 0 p)) 68);have t:=ae (Blk.new w 68 (bV b (slice j d o) (slice k 0 p)));have W:=ae (h.below e);have u:=ae ((rI _).fd s e);have A:=ae ((rS 4 _).fd q e);have X:=ae ((rI _).fd G e);have ad:=ae (e.mono O.2);have ar:=ae (ChgT.below e);have z:=ae O;have Y:=ae (Aw F L);have C:=ae (EL F L);have au:=ae aa;have av:=ae v;have ag:=ae P;have ai:=ae ab;have ak:=ae ac;unfold bV at*;clear h O v s E q y F G P ab ac e r aa;go_enter func109,ntmps109;go_wp2_with fail;generalize w.alloc (cells #[int i64 b.seq,int i64 b.next,int i64 b.K,int i64 b.H,int i64 b.Z,int i64 b.extra,slice j d o,slice k 0 p] 68)=w0 at*;refine(V.o w0 (Fd w0) u.o A.o X.o).mono ?_;rintro I w1 ⟨v1,rfl,r,e⟩;obtain⟨ap,J,cp,rfl⟩:=nu r
 have D:(mE b L).length=J:=by
  obtain⟨a',n',c',Q,_,_,_,h4,_⟩:=r;injection Q with Q _;injection Q with _ e2 _;rw[aG] at h4;omega
 have M:0<J/\J<=100000:=by have S:=Y.o;rw[D,ag.o] at S;exact⟨aW h0 S.1,aP S.2 (by omega)⟩
 have al:=ae (W.o.below e);have U:=ae (t.o.below e t.o.lt);have am:=ae ((rI _).fd u.o e);have an:=ae ((rS 4 _).fd A.o e);have ao:=ae (ad.o.trans (e.mono (aP z.o.2 ad.o.size)));have aw:=ae (ar.o.trans (ChgT.below e));have CA:=ae (GG (mE b L) ap J cp g f m R w1 al.o ((rS 2 _).more r λaq hb _=>hb.fd) D M.1 M.2 (λx hx=>⟨ai.o x.1 (C.o x hx).1,(C.o x hx).2⟩) ak.o);clear r e D M W t u A X V Y C ag ai ak;go_wp2_with fail;refine CA.o.mono ?_;rintro I w2 ⟨rfl,r,e⟩;have ag:=ae r;have ai:=ae (U.o.chg e λy=>Md.not (Blk.ty U.o) (by decide) (by decide) y.2);have ak:=ae ((rI _).chgD am.o e);have aq:=ae ((rS 4 _).chgD an.o e);have V:=ae (ao.o.trans (e.lo (aP z.o.2 ao.o.size)));have ax:=ae (aw.o.trans (ChgT.ofD e));clear r e CA al U am an;obtain⟨x0,x1,x2,x3,x4,x5,x6,x7⟩:=bW ai.o;go_wp2_with fail;refine(CO.o w2 ak.o aq.o).mono ?_;rintro I r ⟨v3,t,u,rfl,U,al,M⟩;have W:=ae (ag.o.below M);have am:=ae (mI U);have an:Sz ((rS 4 (b.objs.map df)).ok r (Fu r) [slice t 0 u]):=ae (by rw[av.o];exact(al (Fu r)).repU (by decide));have X:=ae (V.o.trans (M.mono (aP z.o.2 V.o.size)));have ay:=ae (ax.o.trans (ChgT.below M));obtain⟨A,C,D,rfl⟩:=U.sl;obtain⟨-,⟨az,aA,e,-⟩,-⟩:=id W.o;obtain⟨k0,k1,k2,k3,k4,k5,k6,k7,-⟩:=iB e;have f0:=e.frozen 0;have f1:=e.frozen 1;have f2:=e.frozen 2;have f3:=e.frozen 3;have f4:=e.frozen 4;have f5:=e.frozen 5;have f6:=e.frozen 6;have f7:=e.frozen 7;have Y:=ae e;clear U al M ag ai ak aq V CO x0 x1 x2 x3 x4 x5 x6 x7 e
 have U:Blk ((((((((r.setCell ⟨g,0,none⟩ (int i64 b.seq)).setCell ⟨g,1,none⟩ (int i64 b.next)).setCell ⟨g,2,none⟩ (int i64 b.K)).setCell ⟨g,3,none⟩ (int i64 b.H)).setCell ⟨g,4,none⟩ (int i64 b.Z)).setCell ⟨g,5,none⟩ (int i64 b.extra)).setCell ⟨g,6,none⟩ (slice A C D)).setCell ⟨g,7,none⟩ (slice t 0 u)) g 96 (kZ b (slice A C D) (slice t 0 u) f.p (oC f)):=by
  have h:=((((((((Y.o.set 0 (int i64 b.seq)).set 1 (int i64 b.next)).set 2 (int i64 b.K)).set 3 (int i64 b.H)).set 4 (int i64 b.Z)).set 5 (int i64 b.extra)).set 6 (slice A C D)).set 7 (slice t 0 u));exact Dn h
 have e:Chg (·=g) r ((((((((r.setCell ⟨g,0,none⟩ (int i64 b.seq)).setCell ⟨g,1,none⟩ (int i64 b.next)).setCell ⟨g,2,none⟩ (int i64 b.K)).setCell ⟨g,3,none⟩ (int i64 b.H)).setCell ⟨g,4,none⟩ (int i64 b.Z)).setCell ⟨g,5,none⟩ (int i64 b.extra)).setCell ⟨g,6,none⟩ (slice A C D)).setCell ⟨g,7,none⟩ (slice t 0 u)):=(((((((((Chg.refl (·=g) r).set ⟨g,0,none⟩ (int i64 b.seq) λ_=>rfl).set ⟨g,1,none⟩ (int i64 b.next) λ_=>rfl).set ⟨g,2,none⟩ (int i64 b.K) λ_=>rfl).set ⟨g,3,none⟩ (int i64 b.H) λ_=>rfl).set ⟨g,4,none⟩ (int i64 b.Z) λ_=>rfl).set ⟨g,5,none⟩ (int i64 b.extra) λ_=>rfl).set ⟨g,6,none⟩ (slice A C D) λ_=>rfl).set ⟨g,7,none⟩ (slice t 0 u) λ_=>rfl);have V:=ae (W.o.other e U am.o an.o au.o);have ag:=ae (ay.o.trans (Chg.mono e λai _ M=>by subst M;exact .inr (.inr (Blk.ty Y.o))));have ak:=ae (X.o.trans (e.below (aP z.o.2 X.o.size) λai M=>by rw[M];exact z.o.1));clear U e W am an X Y;go_wp2_with fail;go_ret;exact⟨rfl,V.o,ak.o,ag.o⟩
end
section
variable {B:Nat}
theorem Rx(m:cZ)(e:eB)(ac:m.objs=[e])(y s:SE)(u z x:Nat)(F:Nat->Prop)(w:World)(hd:(rI m.drives).ok w F [slice y u z])(au:m.drives.length=u)(hn:u<=1000)(P:(rS 4 (m.objs.map df)).ok w F [slice s 1 x])(av:e.tries.length<=1000):
 Calls prog 49 #[.agg (bV m (slice y u z) (slice s 1 x))] w λL G=>∃v g c ag,L=returned (.agg (bV m v (slice (some ⟨g,0,none⟩) 1 c)))/\OwnI G w.heap.size v m.drives/\Blk G g 65 ag/\(ag.size=c*4/\1<=c/\c<=maxLen/\w.heap.size<=g)/\Below w.heap.size w G:=by
 have CC:=ae λw (h:(rI m.drives).ok w F [slice y u z])=>iV m.drives F y u z w h au (by omega)
 obtain⟨ai,rfl⟩:∃a,s=some a:=by
  obtain⟨a',n',c',e',_,_,_,_,cs,_,h6,_⟩:=P;injection e' with e' _;injection e' with q1 q2 q3;subst q1 q2 q3;obtain⟨b,a0,e,_⟩:=h6 (by omega);exact⟨_,e⟩
 have M:=ae λG (h:(rS 4 (m.objs.map df)).ok G (Bl w.heap.size) [slice (some ai) 1 x])=>uD m.objs (Bl w.heap.size) ai 1 x G h (by omega);rw[ac] at P;rw[ac] at M;obtain⟨s,d⟩:∃s,s=some ai:=⟨_,rfl⟩;rw[<-d] at P M ⊢;obtain⟨i,a⟩:∃i,i=(w.alloc (cells #[int i64 m.seq,int i64 m.next,int i64 m.K,int i64 m.H,int i64 m.Z,int i64 m.extra,slice y u z,slice s 1 x] 68)).alloc (cells #[int i64 0,int i64 0,int i64 0,int i64 0,int i64 0,int i64 0,slice none 0 0,slice none 0 0] 68):=⟨_,rfl⟩;have f:(w.alloc (cells #[int i64 m.seq,int i64 m.next,int i64 m.K,int i64 m.H,int i64 m.Z,int i64 m.extra,slice y u z,slice s 1 x] 68)).heap.size=w.heap.size+1:=by simp
 have A:Sz (Blk i w.heap.size 68 #[int i64 m.seq,int i64 m.next,int i64 m.K,int i64 m.H,int i64 m.Z,int i64 m.extra,slice y u z,slice s 1 x]):=ae (by rw[a];exact(Blk.new w _ _).alloc _);have O:Sz (Blk i (w.heap.size+1) 68 #[int i64 0,int i64 0,int i64 0,int i64 0,int i64 0,int i64 0,slice none 0 0,slice none 0 0]):=ae (by rw[a,<-f];exact Blk.new _ _ _);have ak:Sz (Below w.heap.size w i):=ae (by rw[a];exact((aC _ _).alloc (aj _) _).alloc (by simp) _);have al:=ae ((rI _).new hd ak.o);have X:=ae ((rS 4 _).new ((rS 4 _).bl P) ak.o);have j:=ae a;have aK:=ae av;unfold bV;clear hd au hn a f P av ac d;go_enter func49,ntmps49;go_upto_region 1 with fail;rw[<-j.o];have aw:w.heap.size<i.heap.size:=A.o.lt;clear j;obtain⟨a,d⟩:∃a,a=w.heap.size:=⟨_,rfl⟩;rw[<-d] at A O aw X M ⊢;have C:i.cell? ⟨a,6,none⟩=some (slice y u z):=A.o.cell 6;have Q:i.cell? ⟨a,7,none⟩=some (slice s 1 x):=A.o.cell 7;have HG:=ae d;clear d;go_cut [] (λd=>∃v vo,Sz (OwnI d i.heap.size v m.drives)/\Sz (OwnS d i.heap.size 65 4 (Bl a) vo [df e])/\Sz (Blk d a 68 #[int i64 m.seq,int i64 m.next,int i64 m.K,int i64 m.H,int i64 m.Z,int i64 m.extra,v,vo])/\Sz (Blk d (a+1) 68 #[int i64 0,int i64 0,int i64 0,int i64 0,int i64 0,int i64 0,slice none 0 0,slice none 0 0])/\Sz (Below a i d))
 case first=>
  go_region_law (first
   | (have HQ:=aa
      go_simp;go_at_call 100;refine(M.o E ((rS 4 _).new X.o d)).mono ?_;rintro L D ⟨V,rfl,I,q⟩;have J:Sz (OwnI D i.heap.size W m.drives):=ae (aa.o.below q);have R:Sz (OwnS D i.heap.size 65 4 (Bl a) V [df e]):=ae (I.base d.size λb f=>f.1);replace q:=d.trans (q.mono d.size);have r:=ae (A.o.below q A.o.lt);have ab:=ae (O.o.below q O.o.lt);have an:=ae q;obtain⟨Y,n4,c4,rfl⟩:=R.o.sl;obtain⟨j,k,o,rfl⟩:=J.o.sl;have aq:D.cell? ⟨a,6,none⟩=some (slice y u z):=r.o.cell 6;have ar:D.cell? ⟨a,7,none⟩=some (slice s 1 x):=r.o.cell 7;have ax:=r.o.frozen 6;have ay:=(r.o.set 6 (slice j k o)).frozen 7;have az:(D.setCell ⟨a,6,none⟩ (slice j k o)).cell? ⟨a,7,none⟩=some (slice s 1 x):=(by simpa using(r.o.set 6 (slice j k o)).cell 7);clear I q S d;go_simp)
   | (have HQ:=ao
      go_simp;go_at_call 99;refine(CC.o E ((rI _).new al.o d)).mono ?_;rintro L D ⟨W,rfl,I,q⟩;have R:Sz (OwnS D i.heap.size 65 4 (Bl a) V [df e]):=ae (ao.o.new q);have J:Sz (OwnI D i.heap.size W m.drives):=ae (OwnI.base I d.size);replace q:=d.trans (q.mono d.size);have r:=ae (A.o.below q A.o.lt);have ab:=ae (O.o.below q O.o.lt);have an:=ae q;obtain⟨Y,n4,c4,rfl⟩:=R.o.sl;obtain⟨j,k,o,rfl⟩:=J.o.sl;have aq:D.cell? ⟨a,6,none⟩=some (slice y u z):=r.o.cell 6;have ar:D.cell? ⟨a,7,none⟩=some (slice s 1 x):=r.o.cell 7;have ax:=r.o.frozen 6;have ay:=(r.o.set 6 (slice j k o)).frozen 7;have az:(D.setCell ⟨a,6,none⟩ (slice j k o)).cell? ⟨a,7,none⟩=some (slice s 1 x):=(by simpa using(r.o.set 6 (slice j k o)).cell 7);clear I q S d;go_simp)
   | (go_simp
      go_at_call 99;refine(CC.o i.drew al.o).mono ?_;rintro L E ⟨W,rfl,S,d⟩;replace d:=bQ d;have aa:Sz (OwnI E i.heap.size W m.drives):=ae S;have U:=ae (A.o.below d A.o.lt);have aA:E.cell? ⟨a,6,none⟩=some (slice y u z):=U.o.cell 6;have am:E.cell? ⟨a,7,none⟩=some (slice s 1 x):=U.o.cell 7;go_simp)
   | (go_simp
      go_at_call 100;refine(M.o i.drew X.o).mono ?_;rintro L E ⟨V,rfl,S,d⟩;replace d:=bQ d;have ao:Sz (OwnS E i.heap.size 65 4 (Bl a) V [df e]):=ae (S.base (aj _) λb f=>f.1);have U:=ae (A.o.below d A.o.lt);have aA:E.cell? ⟨a,6,none⟩=some (slice y u z):=U.o.cell 6;have am:E.cell? ⟨a,7,none⟩=some (slice s 1 x):=U.o.cell 7;go_simp))
  all_goals(
   have ap:∀b,(Value.slice j k o).ownBlock=some b->b≠a:=λb f e=>Ty.ne2 e (J.o.ty b f) (Blk.ty r.o) (by decide);have aB:Below a i D:=an.o.mono (by omega);go_simp;refine ‹∀(a':Act) (G:World),Met _ a' G->_› _ _ ?_;go_meet;refine⟨slice j k o,slice Y n4 c4,ae (J.o.keepO λb f=>(bJ _ _ _ b (ap b f)).trans (bJ _ _ _ b (ap b f))),ae (R.o.keepAt (λb f=> ?_) λb f _ _=> ?_),ae ?_,ae ((ab.o.far (show a+1≠a by omega) _).far (show a+1≠a by omega) _),ae ((aB.setCell (p:=⟨a,6,none⟩) (aj _) _).setCell (p:=⟨a,7,none⟩) (aj _) _)⟩
   ·have h:b≠a:=λe=>Ty.ne2 e (R.o.ownTy b f) (Blk.ty r.o) (by decide)
    exact(bJ _ _ _ b h).trans (bJ _ _ _ b h)
   ·have h:b≠a:=λe=>by have G:b<a:=f;omega
    exact(bJ _ _ _ b h).trans (bJ _ _ _ b h)
   ·simpa using(r.o.set 6 (slice j k o)).set 7 (slice Y n4 c4))
 case rest=>
  obtain⟨v,vo,HO,q,R,HZ,HB⟩:=hcut;rename World=>w5;clear C Q M X al;obtain⟨j,k,o,rfl⟩:=HO.o.sl;obtain⟨d,r,ag,Y,ct,rfl,D,E,G⟩:=EntB.of q.o;have aa:=ae E;have ax:=ae G;have S:=ae D;clear E G D q CC;obtain⟨nm,ob,ln,q⟩:=e;simp only at*;have Q:w5.cell? ⟨a,7,none⟩=some (slice (some ⟨d,0,none⟩) 1 r):=R.o.cell 7;go_wp2_with fail;clear Q;go_loopw [15] (λD wr=>(D=int i64 0/\Sz (wr=w5))\/(D=int i64 1/\∃U an ao,Sz (OwnI wr i.heap.size (slice j k o) m.drives)/\Sz (Blk wr a 68 #[int i64 m.seq,int i64 m.next,int i64 m.K,int i64 m.H,int i64 m.Z,int i64 m.extra,slice j k o,slice (some ⟨d,0,none⟩) 1 r])/\Sz (Blk wr (a+1) 68 #[int i64 0,int i64 0,int i64 0,int i64 0,int i64 0,int i64 0,slice none 0 0,slice none 0 0])/\Sz (Below a i wr)/\Sz (EntB wr d r U ⟨nm,ob,ln,q⟩ (slice an q.length ao))/\Sz ((rI q).ok wr (λb=>Ty 3 wr b/\a<=b) [slice an q.length ao]))) (λD _=>1-(intOf D).toNat)
  case atStart=>exact .inl ⟨rfl,ae rfl⟩
  case round=>
   rcases hrel with⟨rfl,HW⟩ | ⟨rfl,U,an,ao,ap,ay,V,az,I,aA⟩
   ·obtain rfl:=HW.o
    have CT:=ae λD (h:(rI q).ok D (Bl a) [slice Y q.length ct])=>iV q (Bl a) Y q.length ct D h rfl (by have:=aK.o;omega);have Q:wr.cell? ⟨a,7,none⟩=some (slice (some ⟨d,0,none⟩) 1 r):=R.o.cell 7;have e3:wr.cell? ⟨d,3,none⟩=some (slice Y q.length ct):=(Blk.cell aa.o.blk 3).trans (kI aa.o.take).2.2.2;have aB:=ae (show a<=wr.heap.size from HB.o.size |> aP (Nat.le_of_lt aw));go_upto_region 5 with fail
    go_region_law (go_simp
                   go_at_call 99;refine(CT.o wr.drew ax.o).mono ?_;rintro L D ⟨v6,rfl,aq,G⟩;replace G:=bQ G;have ar:=ae (R.o.below G R.o.lt);have aD:=ae (HZ.o.below G HZ.o.lt);have J:=ae (aa.o.below G);have W:=ae (HO.o.below G);have ab:=ae (HB.o.trans (G.mono aB.o));have aE:=ae aq;obtain⟨E,C,rfl⟩:=aq.lenA;have am:D.cell? ⟨a,7,none⟩=some (slice (some ⟨d,0,none⟩) 1 r):=ar.o.cell 7;have aL:D.cell? ⟨d,3,none⟩=some (slice Y q.length ct):=(Blk.cell J.o.blk 3).trans (kI J.o.take).2.2.2;have aM:D.frozen? ⟨d,3,none⟩=false:=J.o.blk.frozen 3;clear aq G;go_simp)
    all_goals(
     clear Q e3 am aL aM CT;have aq:a≠d:=(by have:=S.o;omega);have aF:a+1≠d:=(by have:=S.o;have:=O.o.lt;omega);have aR:=ae (ar.o.far (p:=⟨d,3,none⟩) aq (slice E q.length C));have aS:=ae (aD.o.far (p:=⟨d,3,none⟩) aF (slice E q.length C));have aT:=ae (J.o.set (slice E q.length C));have aV:Sz (OwnI (D.setCell ⟨d,3,none⟩ (slice E q.length C)) i.heap.size (slice j k o) m.drives):=ae (W.o.keepO λb f=>bJ _ _ _ b λe=>Ty.ne2 e (W.o.ty b f) (Blk.ty J.o.blk) (by decide));have aX:Sz (Below a i (D.setCell ⟨d,3,none⟩ (slice E q.length C))):=ae (ab.o.setCell (p:=⟨d,3,none⟩) (by show a<=d;have:=S.o;omega) _)
     have aY:Sz ((rI q).ok (D.setCell ⟨d,3,none⟩ (slice E q.length C)) (λb=>Ty 3 (D.setCell ⟨d,3,none⟩ (slice E q.length C)) b/\a<=b) [slice E q.length C]):=ae ((rI q).keep (wu aE.o) λb f hl=>by
      have h:(D.setCell ⟨d,3,none⟩ (slice E q.length C)).heap[b]? =D.heap[b]? :=bJ _ _ _ b λe=>Ty.ne2 e f.1 (Blk.ty J.o.blk) (by decide);exact⟨h,f.1.keep h,aP aB.o f.2⟩)
     clear ar aD J W ab aE R HZ aa HO HB ax aq aF;generalize D.setCell ⟨d,3,none⟩ (slice E q.length C)=w7 at*;go_wp2_with fail;go_roundw
     case rel=>exact .inr ⟨by go_num,_,_,_,aV,aR,aS,aX,aT,aY⟩
     case measure=>simp[intOf])
   ·obtain⟨L,x1,x2,x3,x4,x5,x6,x7⟩:=bW ay.o
    have J:Sz ((rS 4 ([(⟨nm,ob,ln,q⟩:eB)].map df)).ok wr (λb=>(b=d\/Ty 3 wr b)/\a<=b) [slice (some ⟨d,0,none⟩) 1 r]):=ae (I.o.rep ((rI q).more aA.o λb f _=>⟨.inr f.1,f.2⟩) ⟨.inl rfl,by have:=S.o;omega⟩);have G:=ae (Blk.ty I.o.blk)
    go_wp2_with (change wpList _ _ _ (Oper.mk none (Op.store 68 _ _) _ _ _ _ :: _) _ _;refine wpList_store_row rfl 68 _ _ rfl (a+1) #[int i64 m.seq,int i64 m.next,int i64 m.K,int i64 m.H,int i64 m.Z,int i64 m.extra,slice j k o,slice (some ⟨d,0,none⟩) 1 r] rfl rfl 68 _ V.o (by kernel_rfl) rfl (by kernel_rfl) ?_)
    have HR:=ae (V.o.row #[int i64 m.seq,int i64 m.next,int i64 m.K,int i64 m.H,int i64 m.Z,int i64 m.extra,slice j k o,slice (some ⟨d,0,none⟩) 1 r]);have ab:=ae (bS az.o (Nat.le_succ a) #[int i64 m.seq,int i64 m.next,int i64 m.K,int i64 m.H,int i64 m.Z,int i64 m.extra,slice j k o,slice (some ⟨d,0,none⟩) 1 r])
    have E:∀b,(b=d\/Ty 3 wr b)->(wr.setRow (a+1) #[int i64 m.seq,int i64 m.next,int i64 m.K,int i64 m.H,int i64 m.Z,int i64 m.extra,slice j k o,slice (some ⟨d,0,none⟩) 1 r]).heap[b]? =wr.heap[b]? :=λb f=>setRow_other _ _ _ _ (by
     intro e;rcases f with h | h
     ·subst h
      exact Ty.ne2 (by first | exact e | exact e.symm) G.o (Blk.ty V.o) (by decide)
     ·exact Ty.ne2 (by first | exact e | exact e.symm) h (Blk.ty V.o) (by decide))
    have W:Sz (OwnI (wr.setRow (a+1) #[int i64 m.seq,int i64 m.next,int i64 m.K,int i64 m.H,int i64 m.Z,int i64 m.extra,slice j k o,slice (some ⟨d,0,none⟩) 1 r]) i.heap.size (slice j k o) m.drives):=ae (ap.o.keepO λb f=>E b (.inr (ap.o.ty b f)))
    have aq:Sz ((rS 4 ([(⟨nm,ob,ln,q⟩:eB)].map df)).ok (wr.setRow (a+1) #[int i64 m.seq,int i64 m.next,int i64 m.K,int i64 m.H,int i64 m.Z,int i64 m.extra,slice j k o,slice (some ⟨d,0,none⟩) 1 r]) (λb=>Fu (wr.setRow (a+1) #[int i64 m.seq,int i64 m.next,int i64 m.K,int i64 m.H,int i64 m.Z,int i64 m.extra,slice j k o,slice (some ⟨d,0,none⟩) 1 r]) b/\a<=b) [slice (some ⟨d,0,none⟩) 1 r]):=ae ((rS 4 _).keep J.o λb f hl=>⟨E b f.1,by
     have h:=E b f.1;rcases f.1 with e | e
     ·exact Mt.not (t:=65) ((e▸G.o).keep h) (by decide) (by decide) (by decide)
     ·exact Mt.not (e.keep h) (by decide) (by decide) (by decide),f.2⟩)
    have f:Sz (Blk (wr.setRow (a+1) #[int i64 m.seq,int i64 m.next,int i64 m.K,int i64 m.H,int i64 m.Z,int i64 m.extra,slice j k o,slice (some ⟨d,0,none⟩) 1 r]) d 65 U):=ae ((E d (.inl rfl)).trans I.o.blk);have am:Sz (U.size=r*4/\1<=r/\r<=maxLen/\a<=d):=ae ⟨I.o.size,I.o.c1,I.o.c2,by have:=S.o;omega⟩;clear ay V az ap I aA J G E L x1 x2 x3 x4 x5 x6 x7;generalize wr.setRow (a+1) #[int i64 m.seq,int i64 m.next,int i64 m.K,int i64 m.H,int i64 m.Z,int i64 m.extra,slice j k o,slice (some ⟨d,0,none⟩) 1 r]=D at*;go_wp2_with fail
    (try simp only[Exit.inBlock,Exit.then])
    refine bodyPost_ret (results_cell_row rfl _ _ (a+1) 68 #[int i64 m.seq,int i64 m.next,int i64 m.K,int i64 m.H,int i64 m.Z,int i64 m.extra,slice j k o,slice (some ⟨d,0,none⟩) 1 r] (0,0) _ rfl HR.o underlying68 rfl (by kernel_rfl)) rfl ?_;rw[<-HG.o];exact⟨_,d,r,U,rfl,W.o.base (by omega),f.o,by have:=am.o;omega,(HG.o▸ak.o).trans ab.o⟩
theorem uW{P:Program}(w:World)(t b e:TypeId)(i:TypeInfo)(d:P.underlying t=some (.slice e))(f:P.info? e=some i)(a x:SE)(c g:Nat):
 (Builtin.append_ #[t,t] b #[slice a 0 c,slice x 0 g]).run P w=.ok (slice a 0 c) w:=by
 cases a <;> cases x <;> simp[Builtin.append_,run_underlying d,sizeOf,typeInfo,f,Builtin.lenOf,Builtin.firstCells,loadCells,loadCellsFrom,storeCells]
theorem IX(w:World)(h:TypeId)(g c:Nat)(a:Array Value)(b:Blk w g 65 a)(hs:4<=a.size):
 (Builtin.clear_ #[66] h #[slice (some ⟨g,0,none⟩) 1 c]).run prog w=.ok (.tuple #[]) (w.setCells g 0 [.string .empty,int i64 0,int i64 0,slice none 0 0]):=by
 have d:=run_storeCells_cells (P:=prog) g 0 [.string .empty,int i64 0,int i64 0,slice none 0 0] 0 w (λe f=>by
  rw[Nat.zero_add,b.cell];have f:e<4:=f;rw[Array.getElem?_eq_getElem (by omega)];rfl) (λe _=>b.frozen _) (by intro k e;simp at e;rcases e with rfl | rfl | rfl <;> rfl)
 simp only[Nat.add_zero] at d;have i:∀w,(zeroValue 65).run prog w=.ok (.agg #[.string .empty,int i64 0,int i64 0,slice none 0 0]) w:=Tryz.zeroValue65;have j:(Builtin.zeroCells #[Value.string .empty,int i64 0,int i64 0,slice none 0 0] 1).toList=[.string .empty,int i64 0,int i64 0,slice none 0 0]:=by kernel_rfl
 simp[Builtin.clear_,run_underlying underlying66,i,Value.cells,j,d]
theorem Ev(g c:Nat)(a:Array Value)(w:World)(h:Blk w g 65 a)(hs:a.size=c*4/\1<=c/\c<=maxLen):
 Calls prog 116 #[slice (some ⟨g,0,none⟩) 1 c,int i64 0,int i64 1] w λb d=>b=returned (slice (some ⟨g,0,none⟩) 0 c)/\Chg (·=g) w d:=by
 obtain⟨d,e,-⟩:=info_parts sP;have j:=λ(f:SE) (i:Nat) b=>uW (P:=prog) w.drew 66 b 65 d underlying66 e (some ⟨g,0,none⟩) f c i;have i:=λf b=>IX w.drew b g f a h (by omega);have k:(1:Int)<=(c:Int):=by omega
 have b:Sz (Chg (·=g) w (w.drew.setCells g 0 [.string .empty,int i64 0,int i64 0,slice none 0 0])):=ae (((((Chg.of (M:=(·=g)) ((aC _ w).drew)).set ⟨g,0,none⟩ _ λ_=>rfl).set ⟨g,1,none⟩ _ λ_=>rfl).set ⟨g,2,none⟩ _ λ_=>rfl).set ⟨g,3,none⟩ _ λ_=>rfl);by_cases f:c=1
 ·subst f
  clear hs h;go_enter func116,ntmps116;go_upto_region 5 with fail;go_region;go_wp2_with fail;go_ret;exact⟨rfl,b.o⟩
 ·have m:¬(c:Int)=1:=by omega
  clear hs h;go_enter func116,ntmps116;go_upto_region 5 with fail;go_region;go_wp2_with fail;go_ret;exact⟨rfl,b.o⟩
end
