import Derived.Test.YtgccllbnfngpcaaGreatDoorW18
set_option linter.unusedVariables false
set_option maxRecDepth 100000
set_option maxHeartbeats 400000000
namespace Go.Proofs.YtgccllbnfngpcaaGreatDoor
open Go.RowKit _root_.Go.Proofs.Tryz List
open Value (int slice pointer bool)
open IntKind (i64)
open Ending (returned)
open Obj (cells)
section
variable {B:Nat}
def pxB(P:PaB):rf->Option cZ×SC
 | .inl a=>(some a,eD a 0)
 | .inr a=>(none,j4 P.K P.H P.Z a)
theorem Qh(P:PaB)(X:List rf):(X.map (pxB P)).map (·.2)=X.map (iP P):=by
 rw[map_map];refine map_congr_left λa _=> ?_;cases a <;> rfl
theorem Fs(P:PaB):∀X:List rf,nE (X.map (pxB P))=X.filterMap rq
 | []=>rfl
 | .inl m :: X=>by
   have a:=Fs P X;unfold nE at a ⊢;rw[map_cons,filterMap_cons_some (show(pxB P (.inl m)).1=some m from rfl),filterMap_cons_some (show rq (.inl m)=some m from rfl),a]
 | .inr r :: X=>by
   have a:=Fs P X;unfold nE at a ⊢;rw[map_cons,filterMap_cons_none (show(pxB P (.inr r)).1=none from rfl),filterMap_cons_none (show rq (.inr r)=none from rfl),a]
theorem px_ok{P:PaB}(e:P.OK){x:rf}(b:Dt P x):RF (pxB P x):=by
 have c:=pU b e;cases x with
 | inl d=>
   refine⟨c.1,c.2,λf a=> ?_,λa=>by cases a⟩;injection a with a;subst a;exact⟨rfl,b.1,b.2.1,b.2.2.1,b.2.2.2.1,b.2.2.2.2,c.2⟩
 | inr d=>
   refine⟨c.1,c.2,λf a=>(by cases a),λ_ f=> ?_⟩;have g:(j4 P.K P.H P.Z d).getD 3 0=1:=rfl;have a:(j4 P.K P.H P.Z d).getD 3 0=2:=f.2;rw[g] at a;exact absurd a (by decide)
section
variable {P:PaB} {s o:Nat} {p:Option ObB} {X:Nat->List rf}
theorem RowsB.old{i:Nat}{L:List rf}(c:RowsB P s o p i L):∀m∈L.filterMap rq,EI (gB P s o p) m:=λm a=>by
 obtain⟨e,b,d,-⟩:=c.pg;rw[b] at a;rcases bF.1 a with a | a
 ·have:=d m a
  have f:(gB P s o p).seq=s:=rfl;exact⟨by omega,λb=>by omega⟩
 ·obtain rfl:=mem_singleton.1 a
  exact⟨aj _,λ_=>rfl⟩
theorem RowsB.cur{i:Nat}{L:List rf}(a:RowsB P s o p i L):gB P s o p∈L.filterMap rq:=by
 obtain⟨c,b,-⟩:=a.pg;rw[b];exact mem_append_right _ (mem_singleton.2 rfl)
theorem Dh(h:InvB P s o p X){i:Nat}(C:i<P.N)(m r t:Nat)(D:Option Nat)(w:World)(E:DrR w m r t ((X i).map (iP P)) D):
 Calls prog 208 #[pointer (some ⟨m,0,none⟩)] w λd a=>∃g e n f,d=returned (slice (some ⟨g,0,none⟩) e n)/\Py (gB P s o p) w.heap.size a g e f/\Below w.heap.size w a:=by
 have c:=h.hX i C;have F:=h.hs;have U:=h.ho;have u:(X i).length<=1000:=by have:=c.ln;omega
 obtain⟨G,H,v,x,-⟩:=E
 have y:=ae (zT m r t H G ((X i).map (iP P)) _ _ v x.rep (by rw[aG];exact u) (λI j=>by
  obtain⟨a,b,rfl⟩:=aZ.1 j;rw[(pU (c.ok a b) h.hP).1];omega))
 have k:=Fs P (X i)
 have z:=ae λ(q:SE) (l A:Nat) w (j:(rM ((X i).map (iP P))).ok w Any [slice q l A]) (J:(X i).length=l)=>Pt ((X i).map (pxB P)) q l A w (by rw[Qh];exact j) (by rw[aG];exact J) (by omega) (λI j=>by obtain⟨a,b,rfl⟩:=aZ.1 j;exact px_ok h.hP (c.ok a b))
  (by rw[k];exact length_pos_of_mem c.cur) (by rw[k];have:=c.many F.2;omega) (by rw[k];exact c.rise.1.imp λ{q I} j=>by omega)
 have J:=ae k;have K:=ae c.old;have L:=ae c.cur;clear v x h c k u;go_enter func208,ntmps208;go_wp2_with fail;refine y.o.mono ?_;rintro d M ⟨V,rfl,c,j⟩;obtain⟨N,O,rfl,-⟩:=c.val;rw[aG,aG] at c ⊢;have q:=ae (z.o N (X i).length O M c.repAny rfl);have u:=ae j;clear c j y z;generalize (X i).length=l at*;go_wp2_with fail;refine q.o.mono ?_;rintro d Q ⟨g,e,n,f,rfl,v,x,c,y,z,j,A⟩;have k:=u.o.size
 have R:Sz (Py (gB P s o p) w.heap.size Q g e f):=ae (by
  rw[J.o] at c;have S:=λa (b:a∈f)=>c.mem_iff.1 (aZ.2 ⟨a,b,rfl⟩);refine⟨v,x,y,λa b=>(z a b).keep λI T _=>⟨rfl,aP k T⟩,⟨aP k j.1,j.2⟩,λa b=>K.o _ (S a b),?_⟩;obtain⟨a,b,d⟩:=aZ.1 (c.mem_iff.2 L.o);exact⟨a,b,d⟩)
 have I:=ae (u.o.trans (A.mono k));clear v x c y z j A q;go_wp2_with fail;go_ret;exact⟨g,e,n,f,rfl,R.o,I.o⟩
end
theorem R9(m:cZ)(j k a:Nat)(b c:SE)(d e f g:Nat)(F:Nat->Prop)(X:List (Option dS×SC))(o:Option Nat)(w:World)(h:DrR w j k a (jk X) o)(r:m.objs.length<=1)(t:(rI m.drives).ok w F [slice b d e])(u:(rS 4 (m.objs.map df)).ok w F [slice c f g])
 (x:gP m)(y:jE m)(z:BK m X)(A:(bR m).length+(fA X).length<=a):
 Calls prog 144 #[pointer (some ⟨j,0,none⟩),.agg (bV m (slice b d e) (slice c f g))] w λl i=>∃v,l=returned v/\OwnS i w.heap.size 30 1 (Ty 5 i) v ((bR m++(fA X).map (j4 m.K m.H m.Z)).map rB)/\Below w.heap.size w i:=by
 have i:=(aC w.heap.size w).alloc (aj _) (cells (bV m (slice b d e) (slice c f g)) 68);have G:=ae (Blk.new w 68 (bV m (slice b d e) (slice c f g)));have n:=ae i;have C:=ae (Rm m j k a b c d e f g F X o _ (h.below i) r ((rI _).new t i) ((rS 4 _).new u i) x y z);have H:=ae (h.below i);have O:(bR m++(fA X).map (j4 m.K m.H m.Z)).length<=a:=by rw[aI,aG];exact A
 clear h r t u x y z A i;generalize bR m++(fA X).map (j4 m.K m.H m.Z)=D at*;unfold bV at*;go_enter func144,ntmps144;go_upto_region 1 with fail;generalize w.alloc (cells #[int i64 m.seq,int i64 m.next,int i64 m.K,int i64 m.H,int i64 m.Z,int i64 m.extra,slice b d e,slice c f g] 68)=Q at*;obtain⟨R,S,T,m3,U,V,W,Y⟩:=bW G.o;go_wp2_with fail;refine C.o.mono ?_;rintro l I ⟨Z,rfl,i,q⟩;obtain⟨a3,c3,rfl,-⟩:=i.val;rw[aG] at i ⊢;obtain⟨J,K,E,-⟩:=H.o.below q;have L:=ae (GN j k a K J I E);have M:=ae i;have N:=ae (n.o.trans (q.mono n.o.size));have aa:(D.length:Int)<=(a:Int):=by omega
 clear i q E C;generalize D.length=q at*;go_wp2_with fail;refine L.o.mono ?_;rintro l C ⟨rfl,rfl⟩;go_wp2_with fail;go_ret;exact⟨_,rfl,M.o.base n.o.size λE i=>i,N.o⟩
theorem Qi(b c:List SC)(D E:SE)(e i F G:Nat)(w:World)(q:(rM b).ok w Any [slice D e F])(t:(rM c).ok w Any [slice E i G])(j:b.length=e)(k:c.length=i)(hn:e<=100000)(u:∀r∈b,By r)(v:∀r∈c,By r):
 Calls prog 139 #[slice D e F,slice E i G,.func (.func 94) #[] #[]] w λf a=>f=returned (bool (decide (b=c)))/\Below w.heap.size w a:=by
 by_cases H:e=i
 ·subst H
  have Q:=ae q;have R:=ae t;have l:=ae j;have x:=ae k;have S:=ae u;have T:=ae v;have U:Sz (∀a w,(callFunc 94 a).run prog w=.ok (.enter 94 a) w):=ae (enters_of func94 (by kernel_rfl) rfl);clear q t j k u v;go_enter func139,ntmps139;go_wp2_with fail;go_loopw [17] (λd wr=>∃a:Nat,a<=e/\d=int i64 a/\Sz (∀d,d<a->b.getD d []=c.getD d [])/\Sz (wr=w)) (λd _=>e-(intOf d).toNat)
  case atStart=>exact⟨0,by omega,rfl,ae λd g=>absurd g (by omega),ae rfl⟩
  case round=>
   obtain⟨a,hk,rfl,I,m⟩:=hrel;have V:=m.o;subst V;clear m;by_cases m:a<e
   ·have ak:(a:Int)<(e:Int):=by omega
    obtain⟨aX,cX,W,J,-⟩:=fE Q.o l.o;injection W with y _ z;subst y z;obtain⟨bx,ox,Y,Z,rfl,al,am,K,aa,ab,ac⟩:=J.at m;obtain⟨aY,cY,eY,L,-⟩:=fE R.o x.o;injection eY with y _ z;subst y z;obtain⟨bz,oz,az,cz,rfl,an,ao,M,ad,ag,ai⟩:=L.at m;have N:=S.o (b.getD a []) (by rw[af,ah (by rw[l.o];exact m)];exact aQ _);have O:=T.o (c.getD a []) (by rw[af,ah (by rw[x.o];exact m)];exact aQ _);have n:=ae (ib (b.getD a []) (c.getD a []) _ _ Y az _ _ Z cz _ K M N O)
    have A:Sz (∀(h:b.getD a []=c.getD a []),∀d,d<a+1->b.getD d []=c.getD d []):=ae λh d g=>by
     rcases Nat.lt_succ_iff_lt_or_eq.1 g with h' | rfl
     ·exact I.o d h'
     ·exact h
    have C:Sz (¬b.getD a []=c.getD a []->¬b=c):=ae λh f=>h (by rw[f]);have eg:=U.o;clear J L K M aa ad ab ac ag ai N O;by_cases g:b.getD a []=c.getD a []
    ·rw[bq g] at n
     have J:=ae (A.o g);clear A C g;generalize b.getD a []=K at*;generalize c.getD a []=L at*
     go_wp2_with (go_at_fn 94;refine n.o.mono ?_;rintro f M ⟨rfl,rfl⟩)
     go_roundw
     case rel=>exact⟨a+1,by omega,by go_num,J,by first | exact ae rfl | trivial⟩
     case measure=>simp[intOf];omega
    ·rw[decide_eq_false g] at n
     have J:=ae (C.o g);clear A C g;generalize b.getD a []=K at*;generalize c.getD a []=L at*
     go_wp2_with (go_at_fn 94;refine n.o.mono ?_;rintro f M ⟨rfl,rfl⟩)
     go_ret;exact⟨by rw[decide_eq_false J.o];rfl,aC _ _⟩
   ·obtain rfl:a=e:=by omega
    have n:Sz (b=c):=ae (by
     refine ext_getElem (by rw[l.o,x.o]) λd g y=> ?_;have h:=I.o d (by rw[<-l.o];exact g);rw[af,ah g,af,ah y] at h;exact h)
    go_wp2_with fail;go_ret;exact⟨by rw[bq n.o];rfl,aC _ _⟩
 ·have a:¬b=c:=λf=>H (by rw[<-j,<-k,f])
  have d:¬(e:Int)=(i:Int):=(by omega);rw[decide_eq_false a];clear q t j k u v a;go_enter func139,ntmps139;go_wp2_with fail;go_ret;exact⟨rfl,aC _ _⟩
end
section
variable {B:Nat}
theorem b_own(m:cZ)(u:m.objs.length<=1)(A:∀e∈m.objs,e.tries.length<=1000)(h i:SE)(b j c k:Nat)(F:Nat->Prop)(w:World)(x:(rI m.drives).ok w F [slice h b j])(y:m.drives.length=b)(z:b<=1000)(l:(rS 4 (m.objs.map df)).ok w F [slice i c k]):
 Calls prog 49 #[.agg (bV m (slice h b j) (slice i c k))] w λe a=>∃v d f,e=returned (.agg (bV m v (slice d c f)))/\OwnI a w.heap.size v m.drives/\(rS 4 (m.objs.map df)).ok a (λg=>Fu a g/\w.heap.size<=g) [slice d c f]/\Below w.heap.size w a:=by
 have g:=xe l;rw[aG] at g
 match hob:m.objs with
 | []=>
   rw[hob] at g l;obtain rfl:0=c:=g;refine(Ez m h i b j k F w x y z l).mono ?_;rintro C a ⟨v,d,f,q,r,n,t⟩;exact⟨v,d,f,q,r,kr (n Any).rep a _,t⟩
 | [e]=>
   have D:=l;rw[hob] at g;obtain rfl:1=c:=g;refine(yL m e hob h i b j k F w x y z D (A e (by rw[hob];exact mem_singleton.2 rfl))).mono ?_;rintro C a ⟨v,d,f,q,r,n,t⟩;rw[hob] at n;exact⟨v,d,f,q,r,n,t⟩
 | _ :: _ :: L=>rw[hob] at u;simp at u
theorem FO(m:cZ)(a b:Value)(p:Nat)(x y:Nat->Value):(splice (kZ m a b p x).toList 10 ((range 64).map y)).toArray=kZ m a b p y:=by
 apply Array.ext';unfold splice kZ;simp
theorem QB(N:Nat)(D:Nat->Nat):∀v∈(range 64).map (iF N D),v.oneCell'=true:=λv a=>by
 obtain⟨b,_,rfl⟩:=aZ.1 a;unfold iF;split <;> rfl
theorem FP(m:cZ)(b c:Value)(p g gk N:Nat)(x D:Nat->Nat)(X:Nat->Value)(w:World)(k:Blk w g 96 (kZ m b c p X))(l:∀i,i<64->w.cell? ⟨gk,i,none⟩=some (iF N D i)):
 ∃w',(Builtin.copy_ #[141,141] 3 #[slice (some ⟨g,10,none⟩) 64 64,slice (some ⟨gk,0,none⟩) 64 64]).run prog w=.ok (int i64 64) w'/\Blk w' g 96 (kZ m b c p (iF N D))/\w.grownBy w' (some g):=by
 have n:(prog.info? 42).map (·.size)=some 1:=by kernel_rfl
 have a:((range 64).map (iF N D)).length=64:=by simp
 obtain⟨w',e,f,q⟩:=oL (P:=prog) w 141 3 42 underlying141 n g 10 64 64 (some ⟨gk,0,none⟩) 64 64 (kZ m b c p X).toList 96 (by rw[Array.toArray_toList];exact k) ((range 64).map (iF N D)) a
  (λ_=>⟨_,rfl,λh j d=>by
    rw[Addr.add_lit,Nat.zero_add]
    have j:h<64:=by
     have:=(List.getElem?_eq_some_iff.1 d).1
     rwa [a] at this
    rw[l h j];rw[List.getElem?_map,List.getElem?_range j] at d;exact d⟩) (by rw[a];simp[kZ]) (QB N D)
 rw[a] at e;rw[FO] at f;exact⟨w',e,f,q⟩
theorem Kv(m:cZ)(R:m.objs.length<=1)(ac:∀e∈m.objs,e.tries.length<=1000)(p gk N:Nat)(D:Nat->Nat)(k l:SE)(b n a q:Nat)(F:Nat->Prop)(w:World)(E:(rI m.drives).ok w F [slice k b n])(G:m.drives.length=b)(S:b<=1000)(A:(rS 4 (m.objs.map df)).ok w F [slice l a q])(T:gP m)(H:PwS w p)
 (U:∀i,i<64->w.cell? ⟨gk,i,none⟩=some (iF N D i))(ag:gk<w.heap.size):
 Calls prog 145 #[.agg (bV m (slice k b n) (slice l a q)),pointer (some ⟨p,0,none⟩),slice (some ⟨gk,0,none⟩) 64 64] w λe d=>∃g f r,e=returned (pointer (some ⟨g,0,none⟩))/\w.heap.size<=g/\Blk d g 96 (kZ m f r p (iF N D))/\(rI m.drives).ok d (λc=>Fu d c/\w.heap.size<=c) [f]/\(rS 4 (m.objs.map df)).ok d (λc=>Fu d c/\w.heap.size<=c) [r]/\Below w.heap.size w d:=by
 have t:=(aC w.heap.size w).alloc (aj _) (cells (bV m (slice k b n) (slice l a q)) 68);have j:=ae (Blk.new w 68 (bV m (slice k b n) (slice l a q)));have u:=ae t;have z:m.objs.length=a:=by rw[<-xe A,aG]
 have x:=ae (sj m R k l b n a q F _ ((rI _).new E t) G ((rS 4 _).new A t) z T);have y:=ae λd (v:Below w.heap.size w d)=>b_own m R ac k l b n a q F d ((rI _).new E v) G S ((rS 4 _).new A v);have V:=ae λd (v:Below w.heap.size w d)=>AV p d (Blk.below H v (Blk.lt H));have HK:=ae U;have ai:=ae ag;have W:=ae λ(f r:Value) g X d=>FP m f r p g gk N D D X d
 have Y:Sz (∀C d f,(((((((((zeroCells96.setIfInBounds 0 (Value.int .i64 m.seq)).setIfInBounds 1 (Value.int .i64 m.next)).setIfInBounds 2 (Value.int .i64 m.K)).setIfInBounds 3 (Value.int .i64 m.H)).setIfInBounds 4 (Value.int .i64 m.Z)).setIfInBounds 5 (Value.int .i64 m.extra)).setIfInBounds 6 C).setIfInBounds 7 (Value.slice d a f)).setIfInBounds 8 (Value.pointer (some ⟨p,0,none⟩))).setIfInBounds 9 (Value.int .i64 0)=kZ m C (slice d a f) p (λ_=>pointer none)):=ae (λC d f=>by
  rw[vQ,Bc];unfold kZ;apply Array.ext';simp;rfl)
 unfold bV at x y j u ⊢;clear E A T H U t z G S;go_enter func145,ntmps145;go_upto_region 1 with fail;generalize w.alloc (cells #[int i64 m.seq,int i64 m.next,int i64 m.K,int i64 m.H,int i64 m.Z,int i64 m.extra,slice k b n,slice l a q] 68)=w0 at*;obtain⟨I,J,K,m3,L,M,O,Q⟩:=bW j.o;go_wp2_with fail;refine x.o.mono ?_;rintro e w1 ⟨rfl,r⟩;have t:=ae (u.o.trans (r.mono u.o.size));have z:=ae (j.o.below r j.o.lt);clear I J K m3 L M O Q j u x r;obtain⟨I,J,K,m3,L,M,O,Q⟩:=bW z.o;have Z:=ae (y.o w1 t.o);go_wp2_with fail;refine Z.o.mono ?_;rintro e w2 ⟨C,d,f,rfl,j,h3,aa⟩;have r:=ae (t.o.trans (aa.mono t.o.size));have ak:=ae j;have al:=ae h3;have ab:=ae (V.o w2 r.o);obtain⟨u,v,x,rfl⟩:=j.sl;clear j h3 aa y Z V z I J K m3 L M O Q;go_wp2_with fail;refine ab.o.mono ?_;rintro e j ⟨rfl,rfl⟩;go_upto_region 4 with fail;rw[Y.o (slice u v x) d f];have y:Sz (Below j.heap.size j (j.alloc (cells (kZ m (slice u v x) (slice d a f) p (λ_=>pointer none)) 96))):=ae ((aC _ _).alloc (aj _) _);have z:=Blk.new j 96 (kZ m (slice u v x) (slice d a f) p (λ_=>pointer none));obtain⟨w4,aa,V,Z⟩:=W.o (slice u v x) (slice d a f) _ _ _ z (λi hi=>((r.o.trans (y.o.mono r.o.size)).cell (p:=⟨gk,i,none⟩) ai.o).trans (HK.o i hi));have am:Sz (Below j.heap.size j w4):=ae (y.o.grown Z y.o.size (λg hg=>by simp at hg;omega));have an:=ae V;clear z V Z y W Y ab;generalize j.alloc (cells (kZ m (slice u v x) (slice d a f) p (λ_=>pointer none)) 96)=Z at*;generalize y:j.heap.size=Y at*;have V:=ae y;clear y
 go_wp2_with (first | simp only[aa])
 go_ret;have y:=am.o;rw[<-V.o] at y;exact⟨Y,_,_,rfl,by rw[<-V.o];exact r.o.size,an.o,(rI _).more (wu (ak.o.below y)) (λc z _=>⟨Mt.not z.1 (by decide) (by decide) (by decide),aP t.o.size z.2⟩),(rS 4 _).keep al.o (λc z W=>⟨y.block c W,Fu.keep z.1 (y.block c W),aP t.o.size z.2⟩),r.o.trans (y.mono r.o.size)⟩
end
section
variable {B:Nat}
def dX(p g:Nat)(x:Nat->Value):Array Value:=#[pointer (some ⟨p,0,none⟩),pointer (some ⟨g,0,none⟩)]++((range 64).map x).toArray
theorem Pb(p g:Nat):uO p g=dX p g λ_=>pointer none:=by
 unfold uO dX;congr 1
theorem iU{w:World}{a p g:Nat}{x:Nat->Value}(b:Blk w a 80 (dX p g x)):w.cell? ⟨a,0,none⟩=some (pointer (some ⟨p,0,none⟩))/\w.cell? ⟨a,1,none⟩=some (pointer (some ⟨g,0,none⟩)):=
 ⟨(Blk.cell b 0).trans (by simp[dX]),(Blk.cell b 1).trans (by simp[dX])⟩
theorem o6(p g:Nat)(x:Nat->Value){i:Nat}(a:i<64):(dX p g x)[2+i]? =some (x i):=by
 unfold dX;rw[Array.getElem?_append_right (by simp)];simp[a]
theorem IY(p g:Nat)(x:Nat->Value)(y:Value){k:Nat}(e:k<64):(dX p g x).setIfInBounds (2+k) y=dX p g (λa=>if a=k then y else x a):=by
 unfold dX;rw[Array.setIfInBounds_append_right (by simp)];congr 1;apply Array.ext';apply ext_getElem
 ·simp
 ·intro b c d
  simp at c d;simp[getElem_set];by_cases a:k=b
  ·subst a;simp
  ·simp[a,Ne.symm a]
theorem BI(p g a:Nat)(x:Nat->Value):(dX p g x).setIfInBounds 1 (pointer (some ⟨a,0,none⟩))=dX p a x:=by
 unfold dX;rw[Array.setIfInBounds_append_left (by simp)];rfl
theorem Me(u p g n c:Nat)(x:Nat->Value)(e:ByteArray)(a:SE)(m:Prop)(Q:World->Prop)(w:World)(q:Blk w u 80 (dX p g x))
 (v:∀W,Below w.heap.size w W->Calls prog 51 #[pointer (some ⟨g,0,none⟩),.string e,slice a n c] W λj b=>∃E,j=returned (int i64 E)/\ChgT W b/\((E=8/\m/\Below W.heap.size W b)\/(E=0/\Q b))):
 Calls prog 29 #[pointer (some ⟨u,0,none⟩),.agg (mF 1 e (slice a n c))] w λj b=>∃E,j=returned (.agg (fD E (slice none 0 0)))/\ChgT w b/\((E=8/\m/\Below w.heap.size w b)\/(E=0/\Q b)):=by
 obtain⟨b,f⟩:∃b,b=(w.alloc (cells (mF 1 e (slice a n c)) 33)).alloc (cells (fD 0 (slice none 0 0)) 40):=⟨_,rfl⟩;have i:(w.alloc (cells (mF 1 e (slice a n c)) 33)).heap.size=w.heap.size+1:=by simp
 have d:Sz (Below w.heap.size w b):=ae (by rw[f];exact((aC _ _).alloc (aj _) _).alloc (by simp) _);have C:Sz (Blk b w.heap.size 33 (mF 1 e (slice a n c))):=ae (by rw[f];exact(Blk.new w _ _).alloc _);have r:Sz (Blk b (w.heap.size+1) 40 (fD 0 (slice none 0 0))):=ae (by rw[f,<-i];exact Blk.new _ _ _);have D:=ae (q.below d.o q.lt);have F:=ae (v b.drew (d.o.trans ((aC _ b).drew.mono d.o.size)));have k:=ae f;obtain⟨U,V⟩:=iU D.o;unfold mF fD at*;obtain⟨Y,Z,m2,m3,m4,m5,m6,m7,m8⟩:=rE C.o;obtain⟨G,H,I,J,K,L,M,N⟩:=bW r.o;clear q v i f;go_enter func29,ntmps29;go_upto_region 1 with fail;rw[<-k.o];clear k;go_upto_region 3 with fail
 go_region_law (go_simp
                go_at_call 51;refine F.o.mono ?_;rintro j f ⟨E,rfl,k,l⟩;have i:=ae (Blk.chgT (Blk.drew r.o) k (Mt.not (Blk.ty (Blk.drew r.o)) (by decide) (by decide) (by decide)));have y:=ae l;have z:=ae ((ChgT.below d.o).trans ((ChgT.below (aC _ b).drew).trans k));have O:=i.o.frozen 0;have A:=i.o.cell 0;clear k l;go_simp)
 all_goals(
  go_simp;have k:Sz (Blk (f.setCell ⟨w.heap.size+1,0,none⟩ (int i64 E)) (w.heap.size+1) 40 #[int i64 E,slice none 0 0,slice none 0 0,int i64 0,int i64 0,int i64 0,slice none 0 0,int i64 0]):=ae (by simpa using i.o.set 0 (int i64 E));have R:Sz (ChgT w (f.setCell ⟨w.heap.size+1,0,none⟩ (int i64 E))):=ae (Chg.set z.o ⟨w.heap.size+1,0,none⟩ _ λh=>absurd (show w.heap.size+1<w.heap.size from h) (by omega))
  have S:Sz ((E=8/\m/\Below w.heap.size w (f.setCell ⟨w.heap.size+1,0,none⟩ (int i64 E)))\/(E=0/\Q (f.setCell ⟨w.heap.size+1,0,none⟩ (int i64 E)))):=ae (by
   rcases y.o with⟨l,T,t⟩ | ⟨l,t⟩
   ·exact .inl ⟨l,T,(d.o.trans (((aC _ b).drew.trans t).mono d.o.size)).setCell (p:=⟨w.heap.size+1,0,none⟩) (by show w.heap.size<=w.heap.size+1;omega) _⟩
   ·refine .inr ⟨l,?_⟩
    subst l;rw[d9 i.o (by rfl)];exact t)
  clear G H I J K L M N A O i z y;generalize f.setCell ⟨w.heap.size+1,0,none⟩ (int i64 E)=w2 at*;obtain⟨A,q1,q2,q3,q4,q5,q6,q7⟩:=bW k.o
  go_wp2_with (change wpList _ _ _ (Oper.mk none (Op.store 40 _ _) _ _ _ _ :: _) _ _;refine wpList_store_row rfl 40 _ _ rfl (w.heap.size+1) #[int i64 E,slice none 0 0,slice none 0 0,int i64 0,int i64 0,int i64 0,slice none 0 0,int i64 0] rfl rfl 40 _ k.o (by kernel_rfl) rfl (by kernel_rfl) ?_)
  rw[fT k.o];go_wp2_with fail
  (try simp only[Exit.inBlock,Exit.then])
  refine bodyPost_ret (results_cell_row rfl _ _ (w.heap.size+1) 40 #[int i64 E,slice none 0 0,slice none 0 0,int i64 0,int i64 0,int i64 0,slice none 0 0,int i64 0] (0,0) _ rfl k.o underlying40 rfl (by kernel_rfl)) rfl ?_;exact⟨E,rfl,R.o,S.o⟩)
theorem Mf(q p g:Nat)(x:Nat->Value)(c:ByteArray)(k:Prop)(Q:World->Prop)(w:World)(l:Blk w q 80 (dX p g x))
 (r:∀W,Below w.heap.size w W->Calls prog 53 #[pointer (some ⟨g,0,none⟩),.string c] W λf a=>∃E,f=returned (int i64 E)/\ChgT W a/\((E=8/\k/\Below W.heap.size W a)\/(E=0/\Q a))):
 Calls prog 29 #[pointer (some ⟨q,0,none⟩),.agg (mF 3 c (slice none 0 0))] w λf a=>∃E,f=returned (.agg (fD E (slice none 0 0)))/\ChgT w a/\((E=8/\k/\Below w.heap.size w a)\/(E=0/\Q a)):=by
 obtain⟨a,d⟩:∃a,a=(w.alloc (cells (mF 3 c (slice none 0 0)) 33)).alloc (cells (fD 0 (slice none 0 0)) 40):=⟨_,rfl⟩;have e:(w.alloc (cells (mF 3 c (slice none 0 0)) 33)).heap.size=w.heap.size+1:=by simp
 have b:Sz (Below w.heap.size w a):=ae (by rw[d];exact((aC _ _).alloc (aj _) _).alloc (by simp) _);have y:Sz (Blk a w.heap.size 33 (mF 3 c (slice none 0 0))):=ae (by rw[d];exact(Blk.new w _ _).alloc _);have m:Sz (Blk a (w.heap.size+1) 40 (fD 0 (slice none 0 0))):=ae (by rw[d,<-e];exact Blk.new _ _ _);have z:=ae (l.below b.o l.lt);have A:=ae (r a.drew (b.o.trans ((aC _ a).drew.mono b.o.size)));have i:=ae d;obtain⟨R,S⟩:=iU z.o;unfold mF fD at*;obtain⟨T,U,V,m3,Y,Z,m6,m7,m8⟩:=rE y.o;obtain⟨C,D,F,G,H,I,J,K⟩:=bW m.o;clear l r e d;go_enter func29,ntmps29;go_upto_region 1 with fail;rw[<-i.o];clear i;go_upto_region 7 with fail
 go_region_law (go_simp
                go_at_call 53;refine A.o.mono ?_;rintro f d ⟨E,rfl,i,j⟩;have e:=ae (Blk.chgT (Blk.drew m.o) i (Mt.not (Blk.ty (Blk.drew m.o)) (by decide) (by decide) (by decide)));have t:=ae j;have u:=ae ((ChgT.below b.o).trans ((ChgT.below (aC _ a).drew).trans i));have L:=e.o.frozen 0;have v:=e.o.cell 0;clear i j;go_simp)
 all_goals(
  go_simp;have i:Sz (Blk (d.setCell ⟨w.heap.size+1,0,none⟩ (int i64 E)) (w.heap.size+1) 40 #[int i64 E,slice none 0 0,slice none 0 0,int i64 0,int i64 0,int i64 0,slice none 0 0,int i64 0]):=ae (by simpa using e.o.set 0 (int i64 E));have M:Sz (ChgT w (d.setCell ⟨w.heap.size+1,0,none⟩ (int i64 E))):=ae (Chg.set u.o ⟨w.heap.size+1,0,none⟩ _ λh=>absurd (show w.heap.size+1<w.heap.size from h) (by omega))
  have N:Sz ((E=8/\k/\Below w.heap.size w (d.setCell ⟨w.heap.size+1,0,none⟩ (int i64 E)))\/(E=0/\Q (d.setCell ⟨w.heap.size+1,0,none⟩ (int i64 E)))):=ae (by
   rcases t.o with⟨j,O,n⟩ | ⟨j,n⟩
   ·exact .inl ⟨j,O,(b.o.trans (((aC _ a).drew.trans n).mono b.o.size)).setCell (p:=⟨w.heap.size+1,0,none⟩) (by show w.heap.size<=w.heap.size+1;omega) _⟩
   ·refine .inr ⟨j,?_⟩
    subst j;rw[d9 e.o (by rfl)];exact n)
  clear C D F G H I J K v L e u t;generalize d.setCell ⟨w.heap.size+1,0,none⟩ (int i64 E)=w2 at*;obtain⟨v,q1,q2,q3,q4,q5,q6,q7⟩:=bW i.o
  go_wp2_with (change wpList _ _ _ (Oper.mk none (Op.store 40 _ _) _ _ _ _ :: _) _ _;refine wpList_store_row rfl 40 _ _ rfl (w.heap.size+1) #[int i64 E,slice none 0 0,slice none 0 0,int i64 0,int i64 0,int i64 0,slice none 0 0,int i64 0] rfl rfl 40 _ i.o (by kernel_rfl) rfl (by kernel_rfl) ?_)
  rw[fT i.o];go_wp2_with fail
  (try simp only[Exit.inBlock,Exit.then])
  refine bodyPost_ret (results_cell_row rfl _ _ (w.heap.size+1) 40 #[int i64 E,slice none 0 0,slice none 0 0,int i64 0,int i64 0,int i64 0,slice none 0 0,int i64 0] (0,0) _ rfl i.o underlying40 rfl (by kernel_rfl)) rfl ?_;exact⟨E,rfl,M.o,N.o⟩)
theorem Mg(G p g:Nat)(x:Nat->Value)(l:ByteArray)(P:Int->SC->Prop)(w:World)(y:Blk w G 80 (dX p g x))
 (H:∀W,Below w.heap.size w W->Calls prog 52 #[pointer (some ⟨g,0,none⟩),.string l] W λt d=>∃v E b,t=returned (.tuple #[v,int i64 E])/\P E b/\(rB b).ok d (Fr W.heap.size) [v]/\Below W.heap.size W d):
 Calls prog 29 #[pointer (some ⟨G,0,none⟩),.agg (mF 2 l (slice none 0 0))] w λt d=>∃E b a c,t=returned (.agg (fD E (slice a b.length c)))/\P E b/\(rB b).ok d (Fr w.heap.size) [slice a b.length c]/\Below w.heap.size w d:=by
 obtain⟨k,d⟩:∃k,k=(w.alloc (cells (mF 2 l (slice none 0 0)) 33)).alloc (cells (fD 0 (slice none 0 0)) 40):=⟨_,rfl⟩;have f:(w.alloc (cells (mF 2 l (slice none 0 0)) 33)).heap.size=w.heap.size+1:=by simp
 have n:Sz (Below w.heap.size w k):=ae (by rw[d];exact((aC _ _).alloc (aj _) _).alloc (by simp) _);have L:Sz (Blk k w.heap.size 33 (mF 2 l (slice none 0 0))):=ae (by rw[d];exact(Blk.new w _ _).alloc _);have z:Sz (Blk k (w.heap.size+1) 40 (fD 0 (slice none 0 0))):=ae (by rw[d,<-f];exact Blk.new _ _ _);have M:=ae (y.below n.o y.lt);have N:=ae (H k.drew (n.o.trans ((aC _ k).drew.mono n.o.size)));have e:=ae d;obtain⟨a0,a1⟩:=iU M.o;obtain⟨m0,m1,m2,m3,m4,m5,m6,m7,m8⟩:=rE (show Blk k w.heap.size 33 #[int i64 2,.string l,slice none 0 0,int i64 0,int i64 0,int i64 0,.int .u32 0,slice none 0 0,slice none 0 0] from L.o);have aa:w.heap.size+1<k.heap.size:=z.o.lt;clear y H f d;unfold mF;go_enter func29,ntmps29;unfold mF fD at e;go_upto_region 1 with fail;rw[<-e.o];clear e;go_upto_region 5 with fail
 go_region_law (go_simp
                go_at_call 52;refine N.o.mono ?_;rintro t q ⟨O,E,b,rfl,j,i,r⟩;replace r:=bQ r;have I:=ae j;have J:Sz ((rB b).ok q (λf=>k.heap.size<=f) [O]):=ae i;obtain⟨d,e,rfl,-⟩:=eU i rfl;have m:=ae (z.o.below r z.o.lt);have K:=ae (n.o.trans (r.mono n.o.size));have Q:=m.o.frozen 0;have R:=m.o.frozen 1;have A:q.cell? ⟨w.heap.size+1,0,none⟩=some (int i64 0):=m.o.cell 0;have C:q.cell? ⟨w.heap.size+1,1,none⟩=some (slice none 0 0):=m.o.cell 1;clear i r j;go_simp)
 all_goals(
  go_simp;clear A C Q R;generalize j:b.length=i at*;have u:=ae j.symm;clear j
  first
  | (have j:=ae (Sn m.o (slice d i e) E)
     have D:Sz ((rB b).ok ((q.setCell ⟨w.heap.size+1,1,none⟩ (slice d i e)).setCell ⟨w.heap.size+1,0,none⟩ (int i64 E)) (Fr w.heap.size) [slice d i e]):=ae ((rB _).keep J.o λf S _=>⟨(bJ _ _ _ f (by show f≠w.heap.size+1;omega)).trans (bJ _ _ _ f (by show f≠w.heap.size+1;omega)),by show w.heap.size<=f;omega⟩);have F:=ae ((K.o.setCell (p:=⟨w.heap.size+1,1,none⟩) (by show w.heap.size<=w.heap.size+1;omega) (slice d i e)).setCell (p:=⟨w.heap.size+1,0,none⟩) (by show w.heap.size<=w.heap.size+1;omega) (int i64 E));unfold fD at j;obtain⟨A,C,T,U,V,Y,Z,q7⟩:=bW j.o
     go_wp2_with (change wpList _ _ _ (Oper.mk none (Op.store 40 _ _) _ _ _ _ :: _) _ _;refine wpList_store_row rfl 40 _ _ rfl (w.heap.size+1) #[int i64 E,slice d i e,slice none 0 0,int i64 0,int i64 0,int i64 0,slice none 0 0,int i64 0] rfl rfl 40 _ j.o (by kernel_rfl) rfl (by kernel_rfl) ?_)
     rw[fT j.o];go_wp2_with fail
     (try simp only[Exit.inBlock,Exit.then])
     refine bodyPost_ret (results_cell_row rfl _ _ (w.heap.size+1) 40 #[int i64 E,slice d i e,slice none 0 0,int i64 0,int i64 0,int i64 0,slice none 0 0,int i64 0] (0,0) _ rfl j.o underlying40 rfl (by kernel_rfl)) rfl ?_;exact⟨E,b,d,e,by rw[<-u.o];rfl,I.o,by rw[<-u.o];exact D.o,F.o⟩)
  | (have j:=ae (Sq m.o (slice d i e) E)
     have D:Sz ((rB b).ok ((q.setCell ⟨w.heap.size+1,0,none⟩ (int i64 E)).setCell ⟨w.heap.size+1,1,none⟩ (slice d i e)) (Fr w.heap.size) [slice d i e]):=ae ((rB _).keep J.o λf S _=>⟨(bJ _ _ _ f (by show f≠w.heap.size+1;omega)).trans (bJ _ _ _ f (by show f≠w.heap.size+1;omega)),by show w.heap.size<=f;omega⟩);have F:=ae ((K.o.setCell (p:=⟨w.heap.size+1,0,none⟩) (by show w.heap.size<=w.heap.size+1;omega) (int i64 E)).setCell (p:=⟨w.heap.size+1,1,none⟩) (by show w.heap.size<=w.heap.size+1;omega) (slice d i e));unfold fD at j;obtain⟨A,C,T,U,V,Y,Z,q7⟩:=bW j.o
     go_wp2_with (change wpList _ _ _ (Oper.mk none (Op.store 40 _ _) _ _ _ _ :: _) _ _;refine wpList_store_row rfl 40 _ _ rfl (w.heap.size+1) #[int i64 E,slice d i e,slice none 0 0,int i64 0,int i64 0,int i64 0,slice none 0 0,int i64 0] rfl rfl 40 _ j.o (by kernel_rfl) rfl (by kernel_rfl) ?_)
     rw[fT j.o];go_wp2_with fail
     (try simp only[Exit.inBlock,Exit.then])
     refine bodyPost_ret (results_cell_row rfl _ _ (w.heap.size+1) 40 #[int i64 E,slice d i e,slice none 0 0,int i64 0,int i64 0,int i64 0,slice none 0 0,int i64 0] (0,0) _ rfl j.o underlying40 rfl (by kernel_rfl)) rfl ?_;exact⟨E,b,d,e,by rw[<-u.o];rfl,I.o,by rw[<-u.o];exact D.o,F.o⟩))
theorem Pd(q p g n c:Nat)(x:Nat->Value)(d:ByteArray)(a:SE)(i:Prop)(Q:World->Prop)(w:World)(r:Blk w q 80 (dX p g x))
 (u:∀W,Below w.heap.size w W->Calls prog 51 #[pointer (some ⟨g,0,none⟩),.string d,slice a n c] W λj b=>∃E,j=returned (int i64 E)/\ChgT W b/\((E=8/\i/\Below W.heap.size W b)\/(E=0/\Q b))):
 Calls prog 10 #[pointer (some ⟨q,0,none⟩),.agg (mF 1 d (slice a n c))] w λj b=>∃E,j=returned (.agg (fD E (slice none 0 0)))/\ChgT w b/\((E=8/\i/\Below w.heap.size w b)\/(E=0/\Q b)):=by
 obtain⟨b,f⟩:∃b,b=(w.alloc (cells (mF 1 d (slice a n c)) 33)).alloc (cells (fD 0 (slice none 0 0)) 40):=⟨_,rfl⟩;have k:(w.alloc (cells (mF 1 d (slice a n c)) 33)).heap.size=w.heap.size+1:=by simp
 have e:Sz (Below w.heap.size w b):=ae (by rw[f];exact((aC _ _).alloc (aj _) _).alloc (by simp) _);have A:Sz (Blk b w.heap.size 33 (mF 1 d (slice a n c))):=ae (by rw[f];exact(Blk.new w _ _).alloc _);have v:Sz (Blk b (w.heap.size+1) 40 (fD 0 (slice none 0 0))):=ae (by rw[f,<-k];exact Blk.new _ _ _);have t:=ae (Me q p g n c x d a i Q b (r.below e.o r.lt) λW l=>u W (e.o.trans (l.mono e.o.size)));have l:=ae f;unfold mF fD at*;obtain⟨C,D,F,m3,G,H,I,J,K⟩:=rE A.o;clear r u k f;go_enter func10,ntmps10;go_upto_region 1 with fail;rw[<-l.o];clear l;go_wp2_with fail;refine t.o.mono ?_;rintro j k ⟨E,rfl,m,y⟩;have l:=ae (Blk.chgT v.o m (Mt.not (Blk.ty v.o) (by decide) (by decide) (by decide)));have z:=ae y;have f:=ae ((ChgT.below e.o).trans m);clear y m C D F m3 G H I J K t
 go_wp2_with (change wpList _ _ _ (Oper.mk none (Op.store 40 _ _) _ _ _ _ :: _) _ _;refine wpList_store_row rfl 40 _ _ rfl (w.heap.size+1) #[int i64 E,slice none 0 0,slice none 0 0,int i64 0,int i64 0,int i64 0,slice none 0 0,int i64 0] rfl rfl 40 _ l.o (by kernel_rfl) rfl (by kernel_rfl) ?_)
 have y:=ae (l.o.row #[int i64 E,slice none 0 0,slice none 0 0,int i64 0,int i64 0,int i64 0,slice none 0 0,int i64 0]);have C:Sz (ChgT w (k.setRow (w.heap.size+1) #[int i64 E,slice none 0 0,slice none 0 0,int i64 0,int i64 0,int i64 0,slice none 0 0,int i64 0])):=ae ⟨f.o.os,f.o.tape,f.o.output,by simpa using f.o.size,λm t D=>(setRow_other _ _ _ _ (by omega)).trans (f.o.block m t D)⟩
 have D:Sz ((E=8/\i/\Below w.heap.size w (k.setRow (w.heap.size+1) #[int i64 E,slice none 0 0,slice none 0 0,int i64 0,int i64 0,int i64 0,slice none 0 0,int i64 0]))\/(E=0/\Q (k.setRow (w.heap.size+1) #[int i64 E,slice none 0 0,slice none 0 0,int i64 0,int i64 0,int i64 0,slice none 0 0,int i64 0]))):=ae (by
  rcases z.o with⟨m,F,t⟩ | ⟨m,t⟩
  ·exact .inl ⟨m,F,bS (e.o.trans (t.mono e.o.size)) (show w.heap.size<=w.heap.size+1 by omega) _⟩
  ·refine .inr ⟨m,?_⟩
   subst m;rw[fT l.o];exact t)
 clear l f z;generalize k.setRow (w.heap.size+1) #[int i64 E,slice none 0 0,slice none 0 0,int i64 0,int i64 0,int i64 0,slice none 0 0,int i64 0]=f at*;go_wp2_with fail
 (try simp only[Exit.inBlock,Exit.then])
 refine bodyPost_ret (results_cell_row rfl _ _ (w.heap.size+1) 40 #[int i64 E,slice none 0 0,slice none 0 0,int i64 0,int i64 0,int i64 0,slice none 0 0,int i64 0] (0,0) _ rfl y.o underlying40 rfl (by kernel_rfl)) rfl ?_;exact⟨E,rfl,C.o,D.o⟩
theorem Pe(l p g:Nat)(x:Nat->Value)(b:ByteArray)(e:Prop)(Q:World->Prop)(w:World)(m:Blk w l 80 (dX p g x))
 (q:∀W,Below w.heap.size w W->Calls prog 53 #[pointer (some ⟨g,0,none⟩),.string b] W λf a=>∃E,f=returned (int i64 E)/\ChgT W a/\((E=8/\e/\Below W.heap.size W a)\/(E=0/\Q a))):
 Calls prog 10 #[pointer (some ⟨l,0,none⟩),.agg (mF 3 b (slice none 0 0))] w λf a=>∃E,f=returned (.agg (fD E (slice none 0 0)))/\ChgT w a/\((E=8/\e/\Below w.heap.size w a)\/(E=0/\Q a)):=by
 obtain⟨a,d⟩:∃a,a=(w.alloc (cells (mF 3 b (slice none 0 0)) 33)).alloc (cells (fD 0 (slice none 0 0)) 40):=⟨_,rfl⟩;have i:(w.alloc (cells (mF 3 b (slice none 0 0)) 33)).heap.size=w.heap.size+1:=by simp
 have c:Sz (Below w.heap.size w a):=ae (by rw[d];exact((aC _ _).alloc (aj _) _).alloc (by simp) _);have v:Sz (Blk a w.heap.size 33 (mF 3 b (slice none 0 0))):=ae (by rw[d];exact(Blk.new w _ _).alloc _);have r:Sz (Blk a (w.heap.size+1) 40 (fD 0 (slice none 0 0))):=ae (by rw[d,<-i];exact Blk.new _ _ _);have n:=ae (Mf l p g x b e Q a (m.below c.o m.lt) λW j=>q W (c.o.trans (j.mono c.o.size)));have j:=ae d;unfold mF fD at*;obtain⟨y,z,A,m3,C,D,F,G,H⟩:=rE v.o;clear m q i d;go_enter func10,ntmps10;go_upto_region 1 with fail;rw[<-j.o];clear j;go_wp2_with fail;refine n.o.mono ?_;rintro f i ⟨E,rfl,k,t⟩;have j:=ae (Blk.chgT r.o k (Mt.not (Blk.ty r.o) (by decide) (by decide) (by decide)));have u:=ae t;have d:=ae ((ChgT.below c.o).trans k);clear t k y z A m3 C D F G H n
 go_wp2_with (change wpList _ _ _ (Oper.mk none (Op.store 40 _ _) _ _ _ _ :: _) _ _;refine wpList_store_row rfl 40 _ _ rfl (w.heap.size+1) #[int i64 E,slice none 0 0,slice none 0 0,int i64 0,int i64 0,int i64 0,slice none 0 0,int i64 0] rfl rfl 40 _ j.o (by kernel_rfl) rfl (by kernel_rfl) ?_)
 have t:=ae (j.o.row #[int i64 E,slice none 0 0,slice none 0 0,int i64 0,int i64 0,int i64 0,slice none 0 0,int i64 0]);have y:Sz (ChgT w (i.setRow (w.heap.size+1) #[int i64 E,slice none 0 0,slice none 0 0,int i64 0,int i64 0,int i64 0,slice none 0 0,int i64 0])):=ae ⟨d.o.os,d.o.tape,d.o.output,by simpa using d.o.size,λk n z=>(setRow_other _ _ _ _ (by omega)).trans (d.o.block k n z)⟩
 have z:Sz ((E=8/\e/\Below w.heap.size w (i.setRow (w.heap.size+1) #[int i64 E,slice none 0 0,slice none 0 0,int i64 0,int i64 0,int i64 0,slice none 0 0,int i64 0]))\/(E=0/\Q (i.setRow (w.heap.size+1) #[int i64 E,slice none 0 0,slice none 0 0,int i64 0,int i64 0,int i64 0,slice none 0 0,int i64 0]))):=ae (by
  rcases u.o with⟨k,A,n⟩ | ⟨k,n⟩
  ·exact .inl ⟨k,A,bS (c.o.trans (n.mono c.o.size)) (show w.heap.size<=w.heap.size+1 by omega) _⟩
  ·refine .inr ⟨k,?_⟩
   subst k;rw[fT j.o];exact n)
 clear j d u;generalize i.setRow (w.heap.size+1) #[int i64 E,slice none 0 0,slice none 0 0,int i64 0,int i64 0,int i64 0,slice none 0 0,int i64 0]=d at*;go_wp2_with fail
 (try simp only[Exit.inBlock,Exit.then])
 refine bodyPost_ret (results_cell_row rfl _ _ (w.heap.size+1) 40 #[int i64 E,slice none 0 0,slice none 0 0,int i64 0,int i64 0,int i64 0,slice none 0 0,int i64 0] (0,0) _ rfl t.o underlying40 rfl (by kernel_rfl)) rfl ?_;exact⟨E,rfl,y.o,z.o⟩
theorem Ga(m p g:Nat)(x:Nat->Value)(j:ByteArray)(P:Int->SC->Prop)(w:World)(n:Blk w m 80 (dX p g x))
 (u:∀W,Below w.heap.size w W->Calls prog 52 #[pointer (some ⟨g,0,none⟩),.string j] W λl d=>∃v E b,l=returned (.tuple #[v,int i64 E])/\P E b/\(rB b).ok d (Fr W.heap.size) [v]/\Below W.heap.size W d):
 Calls prog 10 #[pointer (some ⟨m,0,none⟩),.agg (mF 2 j (slice none 0 0))] w λl d=>∃E b a c,l=returned (.agg (fD E (slice a b.length c)))/\P E b/\(rB b).ok d (Fr w.heap.size) [slice a b.length c]/\Below w.heap.size w d:=by
 obtain⟨f,d⟩:∃f,f=(w.alloc (cells (mF 2 j (slice none 0 0)) 33)).alloc (cells (fD 0 (slice none 0 0)) 40):=⟨_,rfl⟩;have e:(w.alloc (cells (mF 2 j (slice none 0 0)) 33)).heap.size=w.heap.size+1:=by simp
 have k:Sz (Below w.heap.size w f):=ae (by rw[d];exact((aC _ _).alloc (aj _) _).alloc (by simp) _);have D:Sz (Blk f w.heap.size 33 (mF 2 j (slice none 0 0))):=ae (by rw[d];exact(Blk.new w _ _).alloc _);have q:Sz (Blk f (w.heap.size+1) 40 (fD 0 (slice none 0 0))):=ae (by rw[d,<-e];exact Blk.new _ _ _);have y:=ae (Mg m p g x j P f (n.below k.o n.lt) λW i=>u W (k.o.trans (i.mono k.o.size)));have i:=ae d;unfold mF fD at*;obtain⟨F,G,H,m3,I,J,K,L,M⟩:=rE D.o;clear n u e d;go_enter func10,ntmps10;go_upto_region 1 with fail;rw[<-i.o];clear i;go_wp2_with fail;refine y.o.mono ?_;rintro l r ⟨E,b,d,e,rfl,z,A,i⟩;have N:=ae z;have C:=ae (q.o.below i q.o.lt);have O:Sz ((rB b).ok r (λt=>f.heap.size<=t) [slice d b.length e]):=ae A;have Q:=ae (k.o.trans (i.mono k.o.size));have R:w.heap.size+1<f.heap.size:=q.o.lt;clear A i z F G H m3 I J K L M y;generalize y:b.length=i at*;have z:=ae y.symm;clear y
 go_wp2_with (change wpList _ _ _ (Oper.mk none (Op.store 40 _ _) _ _ _ _ :: _) _ _;refine wpList_store_row rfl 40 _ _ rfl (w.heap.size+1) #[int i64 E,slice d i e,slice none 0 0,int i64 0,int i64 0,int i64 0,slice none 0 0,int i64 0] rfl rfl 40 _ C.o (by kernel_rfl) rfl (by kernel_rfl) ?_)
 have y:=ae (C.o.row #[int i64 E,slice d i e,slice none 0 0,int i64 0,int i64 0,int i64 0,slice none 0 0,int i64 0]);have A:Sz ((rB b).ok (r.setRow (w.heap.size+1) #[int i64 E,slice d i e,slice none 0 0,int i64 0,int i64 0,int i64 0,slice none 0 0,int i64 0]) (Fr w.heap.size) [slice d i e]):=ae ((rB _).keep O.o λt F _=>⟨setRow_other _ _ _ _ (by omega),by show w.heap.size<=t;omega⟩);have t:=ae (bS Q.o (show w.heap.size<=w.heap.size+1 by omega) #[int i64 E,slice d i e,slice none 0 0,int i64 0,int i64 0,int i64 0,slice none 0 0,int i64 0]);generalize r.setRow (w.heap.size+1) #[int i64 E,slice d i e,slice none 0 0,int i64 0,int i64 0,int i64 0,slice none 0 0,int i64 0]=F at*;go_wp2_with fail
 (try simp only[Exit.inBlock,Exit.then])
 refine bodyPost_ret (results_cell_row rfl _ _ (w.heap.size+1) 40 #[int i64 E,slice d i e,slice none 0 0,int i64 0,int i64 0,int i64 0,slice none 0 0,int i64 0] (0,0) _ rfl y.o underlying40 rfl (by kernel_rfl)) rfl ?_;exact⟨E,b,d,e,by rw[<-z.o],N.o,by rw[<-z.o];exact A.o,t.o⟩
end
section
variable {B:Nat}
theorem Drz.drw{w:World}{f:Fl}{R:Nat->List SC}{W:Nat->Nat}(a:Drz B w f R W){s:Nat}(hs:s<f.n)(c:f.Z s=false):∃o,DrW w (f.D s) f.p (f.room s) (R s) (W s) o:=by
 obtain⟨-,⟨o,d,-⟩,-⟩:=a;rcases d s hs with⟨b,-⟩ | ⟨-,a⟩
 ·rw[c] at b;cases b
 ·exact⟨_,a⟩
theorem Drz.congr{w:World}{f:Fl}{R Q:Nat->List SC}{W:Nat->Nat}(b:Drz B w f R W)(e:∀i,i<f.n->R i=Q i):Drz B w f Q W:=by
 obtain⟨c,⟨o,d,g⟩,h,j⟩:=b;exact⟨c,⟨o,λi a=>by rw[<-e i a];exact d i a,g⟩,h,j⟩
theorem Drz.md{w:World}{f:Fl}{R:Nat->List SC}{W:Nat->Nat}(b:Drz B w f R W){s:Nat}(hs:s<f.n):B<=f.D s/\Md w (f.D s)/\f.D s<w.heap.size:=by
 obtain⟨d,⟨o,a,e⟩,g,c⟩:=b;exact⟨c s hs,.inl (a s hs).ty,(a s hs).ty.lt⟩
theorem Cb(s:Nat)(f:Fl)(R:Nat->List SC)(W:Nat->Nat)(L:List SC)(F:Nat->Prop)(a:SE)(n c:Nat)(w:World)(hs:s<f.n)(C:f.Z s=false)(D:W s=0)(q:Drz B w f R W)(O:(rM L).ok w F [slice a n c])(Q:L.length=n)(S:n<=1000)(T:n<=f.room s)(E:∀x∈L,x.length=64):
 Calls prog 134 #[pointer (some ⟨f.D s,0,none⟩),slice a n c] w λg r=>g=returned (int i64 0)/\Drz B r f (upd R s L) W/\Chg (·=f.D s) w r:=by
 obtain⟨t,⟨o,l,U,V⟩,G,H⟩:=q;have m:=λb e=>(l b e).ty;have u:=λb e=>(l b e).oty
 obtain⟨Y,j,v,Z,h4,h5⟩:DrW w (f.D s) f.p (f.room s) (R s) (W s) (o s):=by
  rcases l s hs with⟨g,-⟩ | ⟨-,q⟩
  ·rw[C] at g;cases g
  ·exact q
 rw[D] at j;refine(Ef (f.D s) f.p (f.room s) Y L F a n c w j t O Q S T E).mono ?_;rintro g r ⟨rfl,I,k1,J,y⟩;have z:=J.lt;refine⟨rfl,⟨Blk.chg t y λg=>(Blk.ty t).ne (g▸m s hs) (by decide),⟨upd o s I.ownBlock,λb e=> ?_,λb A h e K M d i=> ?_,λb h e d=> ?_⟩,G,H⟩,y⟩
 ·by_cases g:b=s
  ·subst g
   rw[upd_same,upd_same,D];exact .inr ⟨C,I,k1,J.base (bE _) λh k=>k,bE _,rfl,E⟩
  ·rw[upd_ne _ _ g,upd_ne _ _ g]
   exact(l b e).chg y (λd=>G b s e hs g d) (λh k d=>(u b e h k).ne (d▸m s hs) (by decide)) (λh d k=>k.ne (d▸m s hs) (by decide))
 ·by_cases k:b=s
  ·subst k
   rw[upd_same] at d;rw[upd_ne _ _ (Ne.symm M)] at i;have j:=(z h d).1;have v:=(u A K h i).lt;omega
  ·rw[upd_ne _ _ k] at d
   by_cases N:A=s
   ·subst N
    rw[upd_same] at i;have j:=(z h i).1;have v:=(u b e h d).lt;omega
   ·rw[upd_ne _ _ N] at i
    exact U b A h e K M d i
 ·by_cases k:b=s
  ·subst k
   rw[upd_same] at d;have j:=(m b e).lt;have v:=H b e;have Z:=(z h d).1;omega
  ·rw[upd_ne _ _ k] at d
   exact V b h e d
end
section
variable {B:Nat}
theorem FL(k:Nat)(D:Nat->Nat):(λa=>if a=k then Value.pointer (some ⟨D k,0,none⟩) else iF k D a)=iF (k+1) D:=by
 funext a;unfold iF;by_cases b:a=k
 ·subst b;rw[bu rfl,bu (by omega)]
 ·rw[bA b]
  by_cases c:a<k
  ·rw[bu c,bu (by omega)]
  ·rw[bA c,bA (by omega)]
def FM(x:Nat->Value):Array Value:=((range 64).map x).toArray
theorem GR(x:Nat->Value){i:Nat}(a:i<64):(FM x)[i]? =some (x i):=by unfold FM;simp[a]
theorem Qv(x:Nat->Value)(y:Value){k:Nat}(e:k<64):(FM x).setIfInBounds k y=FM (λa=>if a=k then y else x a):=by
 unfold FM;apply Array.ext';apply ext_getElem
 ·simp
 ·intro b c d
  simp at c d;simp[getElem_set];by_cases a:k=b
  ·subst a;simp
  ·simp[a,Ne.symm a]
theorem Km:(prog.info? 42).map (λa=>(a.zero,a.size,a.bytes))=some (some (pointer none),1,8):=by kernel_rfl
theorem Kn{n:Nat}:madeCells #[Value.pointer none] n=(replicate n (Value.pointer none)).toArray:=by rw[sW]
theorem Qw:FM (λ_=>pointer none)=(replicate 64 (Value.pointer none)).toArray:=by unfold FM;rw[map_const',bg]
theorem Ko(w:World):(Instr.makeSlice 141 (int i64 64) (int i64 64)).run prog w=.ok (slice (some ⟨w.heap.size,0,none⟩) 64 64) (w.alloc (cells (FM (λ_=>pointer none)) 42)):=by
 obtain⟨b,c,d,e,f⟩:=info_parts Km;have a:=run_make (P:=prog) w 141 42 b (pointer none) underlying141 c d .i64 .i64 ((64:Nat):Int) ((64:Nat):Int) (by omega) (by omega) (by rw[f];omega) (by omega);rw[e,Nat.mul_one,Int.toNat_natCast] at a;rw[Qw,<-Kn];exact a
theorem Oc(b:cZ)(f:Fl)(q g0:Nat)(R L:Nat->List SC)(w:World)(hm:gP b)(aB:b.drives=range f.n)(aT:b.objs.length<=1)(aV:∀e∈b.objs,e.tries.length<=1000)(hn:1<=f.n/\f.n<=64)(hz:∀i,i<f.n->f.Z i=false)
 (hd:Drz B w f R (λ_=>0))(hA:Blk w q 80 (dX f.p g0 (oC f)))
 (hM:∀k,k<f.n->∀W,Below w.heap.size w W->Calls prog 208 #[pointer (some ⟨f.D k,0,none⟩)] W λe w'=>∃g a c d,e=returned (slice (some ⟨g,0,none⟩) a c)/\Py b W.heap.size w' g a d/\Below W.heap.size W w')
 (hK:∀k,k<f.n->∀W ob t l u x y z F,DrW W (f.D k) f.p (f.room k) (R k) 0 ob->(rI b.drives).ok W F [slice t l u]->(rS 4 (b.objs.map df)).ok W F [slice x y z]->Calls prog 144 #[pointer (some ⟨f.D k,0,none⟩),.agg (bV b (slice t l u) (slice x y z))] W λe w'=>∃v,e=returned v/\OwnS w' W.heap.size 30 1 (Ty 5 w') v ((L k).map rB)/\Below W.heap.size W w')
 (hR:∀k,k<f.n->(R k).length<=1000/\∀r∈R k,r.length=64/\By r)(hL:∀k,k<f.n->((L k).length<=20/\20<=f.room k)/\∀r∈L k,r.length=64/\By r):
 Calls prog 85 #[pointer (some ⟨f.p,0,none⟩),slice (some ⟨q,2,none⟩) 64 64] w λe w'=>∃g,e=returned (.tuple #[pointer (some ⟨g,0,none⟩),int i64 0])/\w.heap.size<=g/\(∀W,Chg (·=q) w' W->Stq B W g f b L)/\ChgD B w w':=by
 have a:=ae (Jk b q 2 f.n 64 f.D w hn (λi I=>(Blk.cell hA (2+i)).trans (o6 _ _ _ I)) hA.lt (λk C W A=>by
  obtain⟨ob,v,D,-⟩:=(hd.below A).drw C (hz k C);exact sU _ _ _ _ _ _ D) hM)
 have j:=ae hA;have aa:=ae hd;have HM:=ae hm;have Y:=ae aB;have HN:=ae hn;have HZ:=ae hz;have aD:=ae hK;have ad:=ae hR;have ag:=ae hL;have aX:∀w:World,(Instr.makeSlice 141 (int i64 64) (int i64 64)).run prog w=.ok (slice (some ⟨w.heap.size,0,none⟩) 64 64) (w.alloc (cells (FM (λ_=>pointer none)) 42)):=Ko;clear hm aB hn hz hd hA hM hK hR hL;go_enter func85,ntmps85;go_wp2_with fail;refine a.o.mono ?_;rintro e n ⟨t,l,u,x,y,z,rfl,D,h2,c⟩;have m:=ae c;have ab:=ae D;have ak:=ae h2;clear D h2 c a;have a:Sz (Blk (n.alloc (.cells jB 68)) n.heap.size 68 jB):=ae (Blk.new n _ _);unfold jB at a;unfold bV;go_upto_region 5 with(change wpList _ _ _ (Oper.mk none (Op.store 68 _ _) _ _ _ _ :: _) _ _;refine wpList_store_row rfl 68 _ _ rfl n.heap.size #[int i64 b.seq,int i64 b.next,int i64 b.K,int i64 b.H,int i64 b.Z,int i64 b.extra,slice t l u,slice x y z] rfl rfl 68 _ a.o (by kernel_rfl) rfl (by kernel_rfl) ?_);have ac:=ae (a.o.row #[int i64 b.seq,int i64 b.next,int i64 b.K,int i64 b.H,int i64 b.Z,int i64 b.extra,slice t l u,slice x y z]);have ai:Sz (Below n.heap.size n ((n.alloc (cells #[int i64 0,int i64 0,int i64 0,int i64 0,int i64 0,int i64 0,slice none 0 0,slice none 0 0] 68)).setRow n.heap.size #[int i64 b.seq,int i64 b.next,int i64 b.K,int i64 b.H,int i64 b.Z,int i64 b.extra,slice t l u,slice x y z])):=ae (bS ((aC _ _).alloc (aj _) _) (aj _) _);clear a;generalize (n.alloc (cells #[int i64 0,int i64 0,int i64 0,int i64 0,int i64 0,int i64 0,slice none 0 0,slice none 0 0] 68)).setRow n.heap.size #[int i64 b.seq,int i64 b.next,int i64 b.K,int i64 b.H,int i64 b.Z,int i64 b.extra,slice t l u,slice x y z]=w2 at*;have aE:=ae (ac.o.alloc (cells (FM (λ_=>pointer none)) 42));have al:=ae (Blk.new w2 42 (FM (λ_=>pointer none)));have H:=ae (ai.o.alloc ai.o.size (cells (FM (λ_=>pointer none)) 42));obtain⟨J,K,O,m3,Q,S,T,U⟩:=bW aE.o;go_upto_region 8 with(first | simp only[aX]);generalize w2.alloc (cells (FM (λ_=>pointer none)) 42)=V at*
 have am:List.length b.drives=l:=by
  obtain⟨ax,cx,e,-⟩:=dY ab.o rfl;injection e with _ e _;exact e.symm
 have Z:Sz (f.n=l):=ae (by rw[<-am,Y.o,bg]);have an:n.heap.size<w2.heap.size:=ac.o.lt;have ao:=ae m.o.size;have E:=ae an;have aY:Sz ((rI b.drives).ok V (λa=>w.heap.size<=a/\a<n.heap.size) [slice t l u]):=ae ((rI _).keep ab.o λa c d=>⟨H.o.block a d,c,d⟩);have a0:Sz ((rS 4 (b.objs.map df)).ok V (λa=>w.heap.size<=a/\a<n.heap.size) [slice x y z]):=ae ((rS 4 _).keep ak.o λa c d=>⟨H.o.block a d,c,d⟩);have ap:=ae (m.o.trans (H.o.mono m.o.size));have a3:=ae (Blk.below j.o ap.o j.o.lt);have aq:Sz (∀a,a<w.heap.size->B<=a/\Md w a->True):=ae λ_ _ _=>trivial
 have a4:Sz (¬((q<w.heap.size/\B<=q/\Md w q)\/q=w2.heap.size)):=ae (by
  rintro(⟨-,-,h⟩ | h)
  ·exact Md.not (Blk.ty j.o) (by decide) (by decide) h
  ·have:=j.o.lt;have:=m.o.size;omega)
 have a5:=ae λk (C:k<f.n)=>aa.o.md C;have C:=ae (aa.o.below ap.o);clear j aa m ai H ac ab ak an am aq;generalize j:w2.heap.size=m at*;generalize H:n.heap.size=GM at*;clear j H;unfold bV at aD;have aF:Sz (Drz B V f (λi=>if i<0 then L i else R i) (λ_=>0)):=ae (C.o.congr λi _=>by rw[bA (Nat.not_lt_zero i)])
 have aK:Sz (Blk V m 42 (FM (iF 0 f.D))):=ae (by
  have e:iF 0 f.D=λ_=>pointer none:=(by funext i;unfold iF;rw[bA (Nat.not_lt_zero i)]);rw[e];exact al.o)
 have aL:Sz (Chg (λa=>(a<w.heap.size/\B<=a/\Md w a)\/a=m) V V):=ae (Chg.refl _ _);go_wp2_with fail;clear J K O m3 Q S T U al C;go_loopw [32] (λi wr=>∃k:Nat,k<=l/\i=int i64 k/\Sz (Drz B wr f (λi=>if i<k then L i else R i) (λ_=>0))/\Sz (Blk wr m 42 (FM (iF k f.D)))/\Sz (Chg (λa=>(a<w.heap.size/\B<=a/\Md w a)\/a=m) V wr)) (λi _=>l-(intOf i).toNat)
 case atStart=>exact⟨0,by omega,rfl,aF,aK,aL⟩
 case round=>
  clear aF aK aL;obtain⟨k,bh,rfl,ai,H,C⟩:=hrel;have aa:=ae (Blk.chg aE.o C.o (by rintro(⟨h,-⟩ | h) <;> (have:=ao.o;have:=E.o;omega)));have ak:=ae (Blk.chg a3.o C.o a4.o);have ab:=ae ((rI b.drives).keep aY.o (w':=wr) (G:=λa=>w.heap.size<=a/\a<GM) λa c d=>⟨C.o.block a d (by rintro(⟨h,-⟩ | h) <;> (have:=c.1;have:=c.2;have:=E.o;omega)),c⟩);have al:=ae ((rS 4 (b.objs.map df)).keep a0.o (w':=wr) (G:=λa=>w.heap.size<=a/\a<GM) λa c d=>⟨C.o.block a d (by rintro(⟨h,-⟩ | h) <;> (have:=c.1;have:=c.2;have:=E.o;omega)),c⟩);by_cases a8:k<l
  ·have bi:(k:Int)<(l:Int):=by omega
   have j:k<f.n:=(by rw[Z.o];exact a8);have aq:k<64:=aW j HN.o.2;have bj:(k:Int)<64:=(by omega);have bk:¬(64:Int)<=(k:Int):=by omega
   have cq:∃bx ox,t=some ⟨bx,ox,none⟩/\wr.cell? ⟨bx,ox+k,none⟩=some (int i64 k):=by
    obtain⟨ax,cx,e,a9,-⟩:=dY ab.o (by rw[Y.o,bg,Z.o]:b.drives.length=l);injection e with e1 e2 e3;subst e1 e3;obtain⟨bx,ox,rfl,bl,ba⟩:=a9.2 (by omega);have bb:k<b.drives.length:=(by rw[Y.o,bg];exact j);have cq:=ba k (int i64 (b.drives.getD k 0:Nat)) (dh bb);rw[Y.o,jD j] at cq;exact⟨bx,ox,rfl,cq⟩
   obtain⟨bx,ox,rfl,cq⟩:=cq;have ca:wr.cell? ⟨q,2+k,none⟩=some (pointer (some ⟨f.D k,0,none⟩)):=(Blk.cell ak.o (2+k)).trans (by rw[o6 _ _ _ aq,uu f j]);have cg:wr.cell? ⟨m,k,none⟩=some (pointer none):=(Blk.cell H.o k).trans (by rw[GR _ aq];unfold iF;rw[bA (Nat.lt_irrefl _)]);have fg:wr.frozen? ⟨m,k,none⟩=false:=H.o.frozen k;have hx:=H.o.set k (pointer (some ⟨f.D k,0,none⟩));rw[Qv _ _ aq,FL] at hx;have ar:=ae hx;have aM:=ae (C.o.set ⟨m,k,none⟩ (pointer (some ⟨f.D k,0,none⟩)) λ_=>.inr rfl);have ac:Sz (Chg (·=m) wr (wr.setCell ⟨m,k,none⟩ (pointer (some ⟨f.D k,0,none⟩)))):=ae ((Chg.refl _ _).set ⟨m,k,none⟩ _ λ_=>rfl);have au:=ae (ai.o.chgTy ac.o (λa e=>e▸Blk.ty H.o) (by decide));obtain⟨J,K,O,m3,Q,S,T,U⟩:=bW aa.o;clear hx;go_upto_region 14 with fail;clear J K O m3 Q S T U cq ca cg fg;have bc:=ae (aa.o.far (p:=⟨m,k,none⟩) (show GM≠m by have:=E.o;omega) (pointer (some ⟨f.D k,0,none⟩)));have bd:=ae ((rI b.drives).keep ab.o (w':=wr.setCell ⟨m,k,none⟩ (pointer (some ⟨f.D k,0,none⟩))) (G:=λa=>w.heap.size<=a/\a<GM) λa c d=>⟨ac.o.block a d (by have:=c.2;have:=E.o;omega),c⟩);have be:=ae ((rS 4 (b.objs.map df)).keep al.o (w':=wr.setCell ⟨m,k,none⟩ (pointer (some ⟨f.D k,0,none⟩))) (G:=λa=>w.heap.size<=a/\a<GM) λa c d=>⟨ac.o.block a d (by have:=c.2;have:=E.o;omega),c⟩);clear ab al aa ak C H ai ac;generalize wr.setCell ⟨m,k,none⟩ (pointer (some ⟨f.D k,0,none⟩))=w4 at*;obtain⟨ob,ac⟩:=au.o.drw j (HZ.o k j);rw[bA (Nat.lt_irrefl k)] at ac;have CK:=ae (aD.o k j w4 ob _ l u x y z _ ac bd.o be.o)
   have CL:=ae (by
    obtain⟨v4,av,-⟩:=ac;exact sU _ _ _ _ _ _ av:Calls prog 90 #[pointer (some ⟨f.D k,0,none⟩)] w4 λe w'=>e=returned (bool false)/\w'=w4)
   have CA:=ae λW (A:Below w4.heap.size w4 W)=>(by
    obtain⟨v4,av,bf,-⟩:=ac.chg (M:=λ_=>False) (Chg.of A) (λh=>h) (λ_ _ h=>h) (λ_ h=>h.elim);exact zT (f.D k) f.p (f.room k) 0 v4 (R k) _ W av bf.rep (ad.o k j).1 (λam hx=>by rw[((ad.o k j).2 am hx).1];omega):Calls prog 13 #[pointer (some ⟨f.D k,0,none⟩)] W λe w'=>∃v,e=returned v/\OwnS w' W.heap.size 30 1 (Fr W.heap.size) v ((R k).map rB)/\Below W.heap.size W w')
   clear ac;go_wp2_with fail;refine CL.o.mono ?_;rintro e w5 ⟨rfl,rfl⟩;obtain⟨J,K,O,m3,Q,S,T,U⟩:=bW bc.o;clear CL;go_wp2_with fail;refine CK.o.mono ?_;rintro e w6 ⟨v6,rfl,ac,am⟩;have aA:=ae (CA.o w6 am);clear CK CA J K O m3 Q S T U;obtain⟨a6,c6,rfl,-⟩:=ac.val;rw[aG] at ac ⊢;go_wp2_with fail;refine aA.o.mono ?_;rintro e w7 ⟨v7,rfl,an,aw⟩;obtain⟨a7,c7,rfl,-⟩:=an.val;rw[aG] at an ⊢;have ay:(rM (L k)).ok w7 Any [slice a6 (L k).length c6]:=(rM _).new ac.repAny aw;have CE:=ae (Qi (R k) (L k) a7 a6 _ _ c7 c6 w7 an.repAny ay rfl rfl (by have:=(ad.o k j).1;omega) (λr hr=>((ad.o k j).2 r hr).2) (λr hr=>((ag.o k j).2 r hr).2));have az:=ae (am.trans (aw.mono am.size));have aR:=ae ay;have bm:Sz (∀aS w,(callFunc 94 aS).run prog w=.ok (.enter 94 aS) w):=ae (enters_of func94 (by kernel_rfl) rfl);clear ac an am aw ay aA;generalize am:(R k).length=nR at*;generalize ac:(L k).length=nL at*;have aw:=ae ac;clear am ac;go_wp2_with fail;refine CE.o.mono ?_;rintro e w8 ⟨rfl,an⟩;have ac:=ae (az.o.trans (an.mono az.o.size));have aS:=ae ((rM _).new aR.o an);have am:=ae (au.o.below ac.o);have ay:=ae (ar.o.below ac.o ar.o.lt);have aA:=ae (aM.o.trans (Chg.of ac.o));clear an az aR au ar aM CE ac;by_cases ac:R k=L k
   ·rw[bq ac]
    have ar:Sz (Drz B w8 f (λi=>if i<k+1 then L i else R i) (λ_=>0)):=ae (am.o.congr λi I=>by
     by_cases e:i=k
     ·subst e;rw[bA (Nat.lt_irrefl _),bu (by omega)];exact ac
     ·by_cases h:i<k
      ·rw[bu h,bu (by omega)]
      ·rw[bA h,bA (by omega)])
    clear ac am;go_wp2_with fail;go_roundw
    case rel=>exact⟨k+1,by omega,by go_num,ar,ay,aA⟩
    case measure=>simp[intOf];omega
   ·rw[decide_eq_false ac]
    have CW:=ae (Cb k f _ _ (L k) Any a6 nL c6 w8 j (HZ.o k j) rfl am.o aS.o aw.o (by have:=(ag.o k j).1;have:=aw.o;omega) (by have:=(ag.o k j).1;have:=aw.o;omega) (λr hr=>((ag.o k j).2 r hr).1));clear ac am;go_wp2_with fail;refine CW.o.mono ?_;rintro e w9 ⟨rfl,az,au⟩
    have ar:Sz (Drz B w9 f (λi=>if i<k+1 then L i else R i) (λ_=>0)):=ae (az.congr λi I=>by
     by_cases e:i=k
     ·subst e;rw[upd_same,bu (by omega)]
     ·rw[upd_ne _ _ e]
      by_cases h:i<k
      ·rw[bu h,bu (by omega)]
      ·rw[bA h,bA (by omega)])
    have an:=a5.o k j;have aM:=ae (Blk.chg ay.o au (by have:=E.o;have:=ao.o;omega));have aR:=ae (aA.o.trans (au.mono (N:=λa=>(a<w.heap.size/\B<=a/\Md w a)\/a=m) λa _ e=>by rw[e];exact .inl ⟨an.2.2,an.1,an.2.1⟩));clear az au an ay aA CW;go_wp2_with fail;go_roundw
    case rel=>exact⟨k+1,by omega,by go_num,ar,aM,aR⟩
    case measure=>simp[intOf];omega
  ·obtain rfl:k=l:=by omega
   have an:Sz (Drz B wr f L (λ_=>0)):=ae (ai.o.congr λi I=>by rw[bu (by rw[<-Z.o];exact I)]);have ac:=ae (Kv b aT aV f.p m f.n f.D t x k u y z _ wr ab.o (by rw[Y.o,bg,Z.o]) (by have:=HN.o;have:=Z.o;omega) al.o HM.o an.o.pw (λi I=>(Blk.cell H.o i).trans (by rw[GR _ I,Z.o])) H.o.lt);have av:=ae C.o.size
   have aq:Sz (ChgD B w wr):=ae (((Chg.of ap.o).trans C.o).mono λa c hm=>by
    rcases hm with h | h
    ·exact h.2
    ·have:=ao.o;have:=E.o;omega)
   obtain⟨J,K,O,m3,Q,S,T,U⟩:=bW aa.o;unfold bV at ac;have am:=ae ak.o;clear ai H C aa ak ab al;go_wp2_with fail;refine ac.o.mono ?_;rintro e w9 ⟨g,vd,vo,rfl,D,h2,h3,h4,I⟩
   have ar:Sz (w.heap.size<=g/\(∀W,Chg (·=q) w9 W->Stq B W g f b L)/\ChgD B w w9):=ae ⟨aP aq.o.size D,λW A=>by
    have au:Ty 80 w9 q:=Blk.ty (am.o.below I am.o.lt);have j:∀a,wr.heap.size<=a->¬a=q:=λa c e=>(by have:=am.o.lt;omega);exact⟨(an.o.below I).chgTy A (λa e=>e▸au) (by decide),⟨vd,vo,Blk.chg h2 A (j g D),(rI _).keep h3 λa c d=>⟨A.block a d (j a c.2),Fu.keep c.1 (A.block a d (j a c.2))⟩,(rS 4 _).keep h4 λa c d=>⟨A.block a d (j a c.2),Fu.keep c.1 (A.block a d (j a c.2))⟩⟩,Y.o,HN.o⟩,aq.o.trans (Chg.of I)⟩
   clear D h2 h3 h4 I J K O m3 Q S T U ac;go_wp2_with fail;go_ret2;exact⟨g,rfl,ar.o⟩
end
section
variable {B:Nat} {P:PaB} {s o:Nat} {p:Option ObB} {X:Nat->List rf}
def mD(P:PaB)(s o:Nat)(p:Option ObB)(i:Nat):List SC:=(xP P s o p i).map (iP P)
theorem InvB.ok(a:InvB P s o p X):Dt P (.inl (gB P s o p)):=by
 have b:=a.hs;have c:=a.ho;exact pV a.hP ⟨b.1,by omega⟩ (by omega) a.hp
theorem KC(a:InvB P s o p X){i:Nat}(b:i<P.N):bR (gB P s o p)++(fA ((X i).map (AR P p))).map (j4 (gB P s o p).K (gB P s o p).H (gB P s o p).Z)=mD P s o p i:=by
 obtain⟨d,c,e,-⟩:=a.ok;rw[pW c (by omega),a.cnt b];unfold mD xP;rw[map_cons,map_map];rfl
theorem KD(a:InvB P s o p X){i:Nat}(b:i<P.N):(mD P s o p i).length<=13:=by
 have:=a.len12 b;unfold mD xP;rw[aG,length_cons,aG];omega
theorem KE(a:InvB P s o p X){i:Nat}(b:i<P.N):∀r∈mD P s o p i,r.length=64/\By r:=λr c=>by
 obtain⟨d,e,rfl⟩:=aZ.1 c;exact pU ((a.fall.hX i b).ok d e) a.hP
theorem QD(a:InvB P s o p X)(f:Fl)(h n:Nat)(w:World)(z:f.n=P.N)(q:∀i,i<f.n->f.Z i=false)(r:∀i,i<f.n->200<=f.room i)
 (t:Drz B w f (λi=>(X i).map (iP P)) (λ_=>0))(A:Blk w h 80 (dX f.p n (oC f))):
 Calls prog 85 #[pointer (some ⟨f.p,0,none⟩),slice (some ⟨h,2,none⟩) 64 64] w λe b=>∃g,e=returned (.tuple #[pointer (some ⟨g,0,none⟩),int i64 0])/\w.heap.size<=g/\(∀W,Chg (·=h) b W->Stq B W g f (gB P s o p) (mD P s o p))/\ChgD B w b:=by
 obtain⟨u,v,O,x,Q⟩:=a.ok;have R:=a.hP.hN;have C:(bR (gB P s o p)).length=1:=by rw[pW v (by omega)];rfl
 refine Oc (gB P s o p) f h n (λi=>(X i).map (iP P)) (mD P s o p) w u (by rw[z];rfl) x (λe j=> ?_) (by omega) q t A (λb c W D=> ?_) (λb c W k E F G H I J K l m y=> ?_) (λb c=> ?_) λb c=> ?_
 ·cases hp:p with
  | none=>rw[hp] at j;cases j
  | some d=>
    rw[hp] at j;obtain rfl:e=⟨P.nm,d.o,d.n,d.T⟩:=mem_singleton.1 j;have m:=(a.hp d hp).1.hT;have y:=(a.hp d hp).1.h2;show d.T.length<=1000;have:=m.1;omega
 ·obtain⟨k,l⟩:=(t.below D).drw c (q b c)
  exact Dh a (by omega) _ _ _ k W l.r
 ·have e:=KC a (show b<P.N by omega)
  rw[<-e];exact R9 (gB P s o p) (f.D b) f.p (f.room b) E H F G I J K ((X b).map (AR P p)) k W (by rw[Dq];exact l.r) x m y u v (a.okR (by omega)) (by rw[C,a.cnt (by omega)];have:=a.len12 (show b<P.N by omega);have:=r b c;omega)
 ·have d:=a.hX b (by omega)
  refine⟨?_,λS L=> ?_⟩
  ·show((X b).map (iP P)).length<=1000
   rw[aG];have:=d.ln;have:=a.hs;have:=a.ho;omega
  ·obtain⟨M,N,rfl⟩:=aZ.1 L
   exact pU (d.ok M N) a.hP
 ·have:=KD a (show b<P.N by omega)
  have:=r b c;exact⟨by omega,KE a (by omega)⟩
end
section
variable {B:Nat}
theorem MO(s g:Nat)(f:Fl)(w:World)(h:StB w g f)(b:s<64):Calls prog 38 #[pointer (some ⟨g,0,none⟩),int i64 s] w λa c=>a=returned (oC f s)/\c=w:=by
 obtain⟨c,d,e,a⟩:=h;have i:¬(s:Int)<0:=by omega
 have j:(s:Int)<64:=by omega
 have k:¬(64:Int)<=(s:Int):=by omega
 have l:w.cell? ⟨g,10+s,none⟩=some (oC f s):=(Blk.cell a (10+s)).trans (pK _ _ _ _ _ b);generalize oC f s=m at*;clear a;go_enter func38,ntmps38;go_wp2_with fail;go_ret;exact⟨rfl,rfl⟩
theorem MP(s a p g:Nat)(x:Nat->Value)(f:Fl)(w:World)(b:Blk w a 80 (dX p g x))(h:StB w g f)(d:s<64):Calls prog 11 #[pointer (some ⟨a,0,none⟩),int i64 s] w λc e=>c=returned (oC f s)/\e=w:=by
 have e:=ae (MO s g f w h d);obtain⟨i,j⟩:=iU b;have k:¬(s:Int)<0:=by omega
 have l:(s:Int)<64:=by omega
 have m:¬(64:Int)<=(s:Int):=by omega
 generalize oC f s=n at*;clear b h;go_enter func11,ntmps11;go_wp2_with fail;refine e.o.mono ?_;rintro c q ⟨rfl,rfl⟩;go_wp2_with fail;go_ret;exact⟨rfl,rfl⟩
end
section
variable {B:Nat} {P:PaB} {s o:Nat} {p:Option ObB} {X:Nat->List rf}
def Mj(v:Value):Array Value:=#[int i64 13,.string .empty,slice none 0 0,int i64 0,int i64 0,int i64 0,.int .u32 0,v,slice none 0 0]
theorem Pg(f:Fl)(i:Nat):∃q,oC f i=.pointer q:=by
 unfold oC iF;split
 ·exact⟨_,rfl⟩
 ·exact⟨_,rfl⟩
theorem I5(f:Fl)(R:Nat->List SC)(i:Nat)(k t:Int)(w:World)(d:Drz B w f R (λ_=>0))(e:∀i,i<f.n->f.Z i=false)(g:∀i,i<f.n->(R i).length<=100000):
 Calls prog 82 #[oC f i,int i64 k,int i64 t] w λb c=>b=returned (.tuple #[])/\∃j,c=w.drewN j:=by
 by_cases a:i<f.n
 ·rw[uu f a]
  obtain⟨q,r,h,l,u,v,x⟩:=d.drw a (e i a);obtain⟨y,z,rfl,A,m,n,C,D⟩:=dH l.choose_spec.1;exact Lc _ _ _ _ _ _ _ _ _ h (by rw[aG];exact g i a) ⟨m,n⟩
 ·rw[show oC f i=pointer none by unfold oC iF;rw[bA a]]
  refine(Ii k t w).mono ?_;rintro b c ⟨rfl,rfl⟩;exact⟨rfl,0,rfl⟩
theorem Ph(h:InvB P s o p X)(f:Fl)(d m C:Nat)(x:Nat->Value)(A:List Int)(a:SE)(n c:Nat)(w:World)(hN:f.n=P.N)(hz:∀i,i<f.n->f.Z i=false)(aa:∀i,i<f.n->200<=f.room i)
 (J:Stq B w m f (gB P s o p) (λi=>(X i).map (iP P)))(D:Blk w d 80 (dX f.p m x))(ab:Rd w C a n (A.map (Value.int .i64)))(hC:C<=d):
 Calls prog 37 #[pointer (some ⟨d,0,none⟩),.agg (Mj (slice a n c))] w λj w'=>j=returned (int i64 0)/\∃g,Blk w' d 80 (dX f.p g (oC f))/\w.heap.size<=g/\Stq B w' g f (gB P s o p) (mD P s o p)/\Chg (λk=>(B<=k/\Md w k)\/k=d) w w':=by
 have b:=(aC w.heap.size w).alloc (aj _) (cells (Mj (slice a n c)) 33);have ac:=ae (Blk.new w 33 (Mj (slice a n c)));have N:=ae b;have O:=ae (Blk.below D b D.lt);have Q:=ae D.lt;have ad:=ae (J.drs.below b);have an:=ae (J.sb.below b);have ag:=ae ab;have ao:=ae hC
 have ap:Sz (m≠d):=ae (by
  obtain⟨-,⟨_,_,aq,-⟩,-⟩:=J;exact λj=>Ty.ne2 j (Blk.ty aq) (Blk.ty D) (by decide))
 have ar:Sz (∀i,i<f.n->((X i).map (iP P)).length<=100000):=ae λi e=>by
  have hX:=h.hX i (by omega);rw[aG];have:=hX.ln;have:=h.hs;have:=h.ho;omega
 have HI:=ae h;have HN:=ae hN;have HZ:=ae hz;have au:=ae aa;unfold Mj at*;clear h J D ab hC b hN hz aa;go_enter func37,ntmps37;go_upto_region 1 with fail;generalize w.alloc (cells #[int i64 13,.string .empty,slice none 0 0,int i64 0,int i64 0,int i64 0,.int .u32 0,slice a n c,slice none 0 0] 33)=E at*
 have ai:Sz (Blk E d 80 (dX f.p m (λb=>if b<0 then oC f b else x b))):=ae (by
  rw[show(λb=>if b<0 then oC f b else x b)=x from funext λb=>bA (Nat.not_lt_zero b)];exact O.o)
 have ak:Sz (Chg (·=d) E E):=ae (Chg.refl _ _);go_wp2_with fail;go_loopw [8] (λi wr=>∃e:Nat,e<=64/\i=int i64 e/\Sz (Blk wr d 80 (dX f.p m (λb=>if b<e then oC f b else x b)))/\Sz (Chg (·=d) E wr)) (λi _=>64-(intOf i).toNat)
 case atStart=>exact⟨0,by omega,rfl,ai,ak⟩
 case round=>
  clear ai ak;obtain⟨e,hk,rfl,F,v⟩:=hrel;by_cases K:e<64
  ·have az:(e:Int)<64:=by omega
   obtain⟨z,L⟩:=Pg f e;have t:Sz (StB wr m f):=ae (by obtain⟨av,vd,vo,G⟩:=an.o;exact⟨av,vd,vo,Blk.chg G v.o ap.o⟩);have l:Sz (Blk wr.drew d 80 (dX f.p m (λb=>if b<e then oC f b else x b))):=ae F.o;have q:=MP e d f.p m _ f wr.drew l.o t.o K;rw[L] at q;have CD:=ae q;have y:=F.o.set (2+e) (.pointer z)
   rw[IY _ _ _ _ K,show(λi=>if i=e then Value.pointer z else if i<e then oC f i else x i)=(λb=>if b<e+1 then oC f b else x b) from funext λb=>by
    by_cases j:b=e
    ·subst j;rw[bu rfl,bu (by omega),L]
    ·rw[bA j]
     by_cases h:b<e
     ·rw[bu h,bu (by omega)]
     ·rw[bA h,bA (by omega)]] at y
   have u:Sz (Blk (wr.setCell ⟨d,2+e,none⟩ (.pointer z)).drew d 80 (dX f.p m (λb=>if b<e+1 then oC f b else x b))):=ae y;have r:Sz (Chg (·=d) E (wr.setCell ⟨d,2+e,none⟩ (.pointer z)).drew):=ae ((v.o.set ⟨d,2+e,none⟩ _ λ_=>rfl).trans (Chg.of ((aC _ _).drew)));have fg:wr.drew.frozen? ⟨d,2+e,none⟩=false:=l.o.frozen (2+e);obtain⟨vq,aw⟩:∃H,wr.drew.cell? ⟨d,2+e,none⟩=some H:=⟨_,(Blk.cell l.o (2+e)).trans (o6 _ _ _ K)⟩;clear y q F l t v;go_upto_region 4 with fail
   go_region_law (go_simp
                  go_at_call 11;refine CD.o.mono ?_;rintro j l ⟨rfl,rfl⟩;go_simp)
   all_goals(
    clear CD fg aw;generalize (wr.setCell ⟨d,2+e,none⟩ (.pointer z)).drew=l at*;have I:=ae (ad.o.chgTy r.o (λk j=>j▸Blk.ty O.o) (by decide));have M:Sz (Blk l w.heap.size 33 #[int i64 13,.string .empty,slice none 0 0,int i64 0,int i64 0,int i64 0,.int .u32 0,slice a n c,slice none 0 0]):=ae (Blk.chg ac.o r.o (λj=>by have q:=Q.o;have j:w.heap.size=d:=j;omega))
    have V:Sz (Rd l l.heap.size a n (A.map (Value.int .i64))):=ae (by
     refine⟨ag.o.1,λR=> ?_⟩;obtain⟨k,o,j,G,hc⟩:=ag.o.2 R;have S:=ao.o;have T:=Q.o;have h4:=N.o.size;have h5:=r.o.size;refine⟨k,o,j,by omega,λi H hv=> ?_⟩;have h6:l.heap[k]? =w.heap[k]? :=(r.o.block k (by omega) (by omega)).trans (N.o.block k (by omega));exact(xq (w:=w) (w':=l) h6).trans (hc i H hv))
    have al:=ae λb=>F4 A a n c e (l.drewN b) ((V.o.below (below_drewN (aC l.heap.size l) b) (aj _)).more (below_drewN (aC l.heap.size l) b).size);have t:=ae λb=>F4 [] none 0 0 e (l.drewN b) ⟨rfl,λR=>absurd R (by simp)⟩;have W:([]:List Int).getD e 0=0:=rfl;rw[W] at t;have U:=λam b=>I5 f (λi=>(X i).map (iP P)) e am 0 (l.drewN b) (I.o.below (below_drewN (aC _ l) b)) HZ.o ar.o;rw[L] at U;have CC:=ae (U (A.getD e 0));clear U W V;generalize A.getD e 0=am at*;have cx:l.cell? ⟨d,2+e,none⟩=some (.pointer z):=(Blk.cell u.o (2+e)).trans (by rw[o6 _ _ _ K,bu (by omega),L]);obtain⟨U,V,W,m3,Y,Z,m6,m7,m8⟩:=rE M.o;go_upto_region 5 with fail
    go_quiet (first | (go_at_call 83;with_reducible exact Calls.quiet_of_same (al.o _)) | (go_at_call 83;with_reducible exact Calls.quiet_of_same (t.o _)) | (go_at_call 82;exact Calls.quiet_of (CC.o _)))
    have ax:=ae (u.o.drewN nq);have ay:=ae (r.o.trans (Chg.of (below_drewN (aC _ l) nq)));clear al t CC cx U V W m3 Y Z m6 m7 m8 u r I M;generalize l.drewN nq=t at*;go_wp2_with fail;go_roundw
    case rel=>exact⟨e+1,by omega,by go_num,ax,ay⟩
    case measure=>simp[intOf];omega)
  ·obtain rfl:e=64:=by omega
   have u:Sz (Blk wr d 80 (dX f.p m (oC f))):=ae (by
    have j:dX f.p m (oC f)=dX f.p m (λb=>if b<64 then oC f b else x b):=by
     have e2:(range 64).map (oC f)=(range 64).map (λb=>if b<64 then oC f b else x b):=map_congr_left λb l=>(by rw[bu (bG.1 l)]);unfold dX;rw[e2]
    rw[j];exact F.o)
   have I:=ae (ad.o.chgTy v.o (λk j=>j▸Blk.ty O.o) (by decide));have M:Sz (Blk wr w.heap.size 33 #[int i64 13,.string .empty,slice none 0 0,int i64 0,int i64 0,int i64 0,.int .u32 0,slice a n c,slice none 0 0]):=ae (Blk.chg ac.o v.o (λj=>by have q:=Q.o;have j:w.heap.size=d:=j;omega));have r:=ae ((Chg.of N.o).trans v.o);clear F v;obtain⟨c0,c1⟩:=iU u.o;obtain⟨U,V,W,m3,Y,Z,m6,m7,m8⟩:=rE M.o;have R:=ae (Lb f.p wr I.o.pw);go_wp2_with fail;refine R.o.mono ?_;rintro j t ⟨rfl,rfl⟩;have CO:=ae (QD HI.o f d m t.drew HN.o HZ.o au.o (I.o.below ((aC _ t).drew)) u.o);go_upto_region 10 with fail;go_cut [6,7] (λH j z=>∃g,H=pointer (some ⟨g,0,none⟩)/\j=int i64 0/\Sz (t.heap.size<=g/\(∀l,Chg (·=d) z l->Stq B l g f (gB P s o p) (mD P s o p))/\ChgD B t z))
   case first=>
    go_region_law (go_simp
                   go_at_call 85;refine CO.o.mono ?_;rintro j z ⟨g,rfl,q,S,T⟩;have H:Sz (t.heap.size<=g/\(∀l,Chg (·=d) z l->Stq B l g f (gB P s o p) (mD P s o p))/\ChgD B t z):=ae ⟨q,S,(Chg.of ((aC _ t).drew)).trans T⟩;clear q S T;go_simp)
    all_goals(
     go_wp2_with fail;go_meet;exact⟨g,rfl,rfl,H⟩)
   case rest=>
    obtain⟨g,rfl,rfl,l⟩:=hcut;have z:=ae (Blk.chg u.o l.o.2.2 λH=>Md.not (Blk.ty u.o) (by decide) (by decide) H.2);have al:wc.cell? ⟨d,1,none⟩=some (pointer (some ⟨m,0,none⟩)):=(iU z.o).2;have f1:wc.frozen? ⟨d,1,none⟩=false:=z.o.frozen 1;have y:=z.o.set 1 (pointer (some ⟨g,0,none⟩));rw[BI] at y;have L:Chg (·=d) wc (wc.setCell ⟨d,1,none⟩ (pointer (some ⟨g,0,none⟩))):=(Chg.refl _ _).set ⟨d,1,none⟩ _ λ_=>rfl
    have HF:Sz (Blk (wc.setCell ⟨d,1,none⟩ (pointer (some ⟨g,0,none⟩))) d 80 (dX f.p g (oC f))/\w.heap.size<=g/\Stq B (wc.setCell ⟨d,1,none⟩ (pointer (some ⟨g,0,none⟩))) g f (gB P s o p) (mD P s o p)/\Chg (λk=>(B<=k/\Md w k)\/k=d) w (wc.setCell ⟨d,1,none⟩ (pointer (some ⟨g,0,none⟩)))):=ae ⟨y,aP r.o.size l.o.1,l.o.2.1 _ L,by
     have q:Chg (λk=>(B<=k/\Md w k)\/k=d) w t:=r.o.mono λk _ j=>.inr j;refine(⟨l.o.2.2.os.trans q.os,l.o.2.2.tape.trans q.tape,l.o.2.2.output.trans q.output,aP q.size l.o.2.2.size,λk G S=> ?_⟩:Chg (λk=>(B<=k/\Md w k)\/k=d) w wc).trans (L.mono λk _ j=>.inr j);have T:=q.block k G S;exact(l.o.2.2.block k (aW G q.size) λH=>S (.inl ⟨H.1,H.2.keep T.symm⟩)).trans T⟩
    clear y L c0 c1 U V W m3 Y Z m6 m7 m8 z l CO R;go_wp2_with fail;go_ret;exact⟨rfl,g,HF.o⟩
end
section
variable {B:Nat} {P:PaB} {s o:Nat} {p:Option ObB} {X:Nat->List rf}
theorem KY(h:InvB P s o p X)(f:Fl)(k t C:Nat)(x:Nat->Value)(v:List Int)(a:SE)(n c:Nat)(w:World)(y:f.n=P.N)(z:∀i,i<f.n->f.Z i=false)(A:∀i,i<f.n->200<=f.room i)
 (D:Stq B w t f (gB P s o p) (λi=>(X i).map (iP P)))(r:Blk w k 80 (dX f.p t x))(E:Rd w C a n (v.map (Value.int .i64)))(F:C<=k):
 Calls prog 10 #[pointer (some ⟨k,0,none⟩),.agg (Mj (slice a n c))] w λG b=>G=returned (.agg (fD 0 (slice none 0 0)))/\∃g,Blk b k 80 (dX f.p g (oC f))/\w.heap.size<=g/\Stq B b g f (gB P s o p) (mD P s o p)/\Chg (λe=>(B<=e/\Md w e)\/e=k) w b:=by
 obtain⟨q,b⟩:∃q,q=(w.alloc (cells (Mj (slice a n c)) 33)).alloc (cells (fD 0 (slice none 0 0)) 40):=⟨_,rfl⟩;have d:(w.alloc (cells (Mj (slice a n c)) 33)).heap.size=w.heap.size+1:=by simp
 have j:Sz (Below w.heap.size w q):=ae (by rw[b];exact((aC _ _).alloc (aj _) _).alloc (by simp) _);have M:Sz (Blk q w.heap.size 33 (Mj (slice a n c))):=ae (by rw[b];exact(Blk.new w _ _).alloc _);have H:Sz (Blk q (w.heap.size+1) 40 (fD 0 (slice none 0 0))):=ae (by rw[b,<-d];exact Blk.new _ _ _);have N:=ae r.lt;have I:=ae (Ph h f k t C x v a n c q y z A (D.below j.o) (r.below j.o r.lt) (E.below j.o (by have:=r.lt;omega)) F);have l:=ae b;unfold Mj fD at*;obtain⟨O,Q,R,m3,S,T,U,V,W⟩:=rE M.o;clear h r D E F y z A d b;go_enter func10,ntmps10;go_upto_region 1 with fail;rw[<-l.o];clear l;go_wp2_with fail;refine I.o.mono ?_;rintro G b ⟨rfl,g,J,K,L,l⟩
 have d:=ae (Blk.chg H.o l (by
  rintro(m | m)
  ·exact Md.not (Blk.ty H.o) (by decide) (by decide) m.2
  ·have:=N.o;omega))
 have Y:Sz (Blk b k 80 (dX f.p g (oC f))/\w.heap.size<=g/\Stq B b g f (gB P s o p) (mD P s o p)/\Chg (λe=>(B<=e/\Md w e)\/e=k) w b):=ae ⟨J,aP j.o.size K,L,
  ⟨l.os.trans j.o.os,l.tape.trans j.o.tape,l.output.trans j.o.output,aP j.o.size l.size,λe u Z=>(l.block e (aW u j.o.size) λm=>Z (m.elim (λm=>.inl ⟨m.1,m.2.keep (j.o.block e u).symm⟩) .inr)).trans (j.o.block e u)⟩⟩
 clear J K L l O Q R m3 S T U V W I;have e:b.cell? ⟨w.heap.size+1,0,none⟩=some (int i64 0):=d.o.cell 0;have l:b.cell? ⟨w.heap.size+1,1,none⟩=some (slice none 0 0):=d.o.cell 1;have u:b.cell? ⟨w.heap.size+1,2,none⟩=some (slice none 0 0):=d.o.cell 2;have I:b.cell? ⟨w.heap.size+1,3,none⟩=some (int i64 0):=d.o.cell 3;have J:b.cell? ⟨w.heap.size+1,4,none⟩=some (int i64 0):=d.o.cell 4;have K:b.cell? ⟨w.heap.size+1,5,none⟩=some (int i64 0):=d.o.cell 5;have L:b.cell? ⟨w.heap.size+1,6,none⟩=some (slice none 0 0):=d.o.cell 6;have O:b.cell? ⟨w.heap.size+1,7,none⟩=some (int i64 0):=d.o.cell 7;have Q:b.frozen? ⟨w.heap.size+1,0,none⟩=false:=d.o.frozen 0;have R:b.setCell ⟨w.heap.size+1,0,none⟩ (int i64 0)=b:=d9 d.o (by rfl);go_upto_region 27 with fail
 go_wp2_with (change wpList _ _ _ (Oper.mk none (Op.store 40 _ _) _ _ _ _ :: _) _ _;refine wpList_store_row rfl 40 _ _ rfl (w.heap.size+1) #[int i64 0,slice none 0 0,slice none 0 0,int i64 0,int i64 0,int i64 0,slice none 0 0,int i64 0] rfl rfl 40 _ d.o (by kernel_rfl) rfl (by kernel_rfl) ?_;rw[fT d.o])
 (try simp only[Exit.inBlock,Exit.then])
 refine bodyPost_ret (results_cell_row rfl _ _ (w.heap.size+1) 40 #[int i64 0,slice none 0 0,slice none 0 0,int i64 0,int i64 0,int i64 0,slice none 0 0,int i64 0] (0,0) _ rfl d.o underlying40 rfl (by kernel_rfl)) rfl ?_;exact⟨rfl,g,Y.o⟩
end
