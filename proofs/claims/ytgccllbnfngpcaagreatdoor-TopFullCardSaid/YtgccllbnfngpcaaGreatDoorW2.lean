import Derived.Test.YtgccllbnfngpcaaGreatDoorW1
import Derived.StillTailTactics
import Derived.Laws.CopyOwn
import Derived.Maps.AppendAt
import Derived.Laws.AppendOwnNone
import Derived.Laws.BitsAllLaws
import Derived.Laws.CopyRow
import Derived.Shelf.Bytes.SlSmallAll
import Derived.Lib.Bytes
set_option linter.unusedVariables false
set_option maxRecDepth 100000
set_option maxHeartbeats 400000000
namespace Go.Proofs.YtgccllbnfngpcaaGreatDoor
open Go.RowKit _root_.Go.Proofs.Tryz List
open Value (int slice pointer bool)
open IntKind (i64)
open Ending (returned)
open Obj (cells)
def bF(l:PI):List Value:=l.map λa:Nat=>Value.int .u8 a
def bK(l:PI):Array Value:=(bF l).toArray
theorem bG(l:PI):(bF l).length=l.length:=aC _
theorem iI(l:PI):∀u∈bF l,u.oneCell'=true:=by
 intro u a;obtain⟨b,_,rfl⟩:=aY.1 a;rfl
theorem dQ{l:PI}{i:Nat}(a:i<l.length):(bF l)[i]? =some (.int .u8 (l.getD i 0:Nat)):=by
 simp[bF,List.getElem?_map,ah a]
theorem jw(l:PI):(bK l).size=l.length:=by simp[bK,bF]
theorem AB{l:PI}{i:Nat}(a:i<l.length):(bK l)[i]? =some (.int .u8 (l.getD i 0:Nat)):=by
 simp only[bK,List.getElem?_toArray];exact dQ a
theorem kV(l:PI)(i x:Nat):(bK l).setIfInBounds i (.int .u8 (x:Nat))=bK (l.set i x):=by
 apply Array.ext';rw[Array.toList_setIfInBounds];simp[bK,bF]
def By(l:PI):Prop:=∀a∈l,a<256
theorem AC(l:PI):bF l=(l.map λa:Nat=>(a:Int)).map (Value.int .u8):=by simp[bF]
def jN(R:PI)(k:Nat):PI:=R.take k++replicate (R.length-k) 0
theorem GD{R:PI}{k:Nat}(a:k<=R.length):(jN R k).length=R.length:=by simp[jN];omega
theorem Dk(R:PI):jN R 0=replicate R.length 0:=by simp[jN]
theorem Dl(R:PI):jN R R.length=R:=by simp[jN]
theorem GE{R:PI}{k:Nat}(a:k<R.length):(jN R k).set k (R.getD k 0)=jN R (k+1):=by
 unfold jN;rw[aN a,show R.length-k=(R.length-(k+1))+1 by omega,replicate_succ,set_append_right _ _ (by rw[aG];omega)];rw[aG,Nat.min_eq_left (by omega),Nat.sub_self,set_cons_zero,append_assoc,singleton_append,af,ah a];rfl
theorem GF{R:PI}{k:Nat}(a:k<R.length):(jN R k).getD k 0=0:=by
 unfold jN;rw[af,List.getElem?_append_right (by rw[aG];omega),aG,Nat.min_eq_left (by omega),Nat.sub_self,List.getElem?_replicate,bg (by omega)];rfl
theorem GG(n:Nat):madeCells #[Value.int .u8 0] n=bK (replicate n 0):=by
 apply Array.ext (by rw[size_madeCells,jw,aI]);intro a b c;simp[madeCells,bK,bF,Nat.mod_one]
def OwnB(w:World)(C:Nat)(v:Value)(l:PI):Prop:=w.ownsRow C 5 1 v l.length (bF l)
theorem OwnB.nil(w:World)(C:Nat):OwnB w C (slice none 0 0) []:=World.ownsRow_nil _ _ _ _
theorem OwnB.base{w:World}{C a:Nat}{v:Value}{l:PI}(b:OwnB w C v l)(c:a<=C):OwnB w a v l:=kI b c
theorem OwnB.below{w w':World}{C:Nat}{v:Value}{l:PI}(a:OwnB w C v l)(b:Below w.heap.size w w'):OwnB w' C v l:=fI a b
theorem OwnB.drewN{w:World}{C:Nat}{v:Value}{l:PI}(a:OwnB w C v l)(j:Nat):OwnB (w.drewN j) C v l:=a
theorem OwnB.rd{w:World}{C:Nat}{v:Value}{l:PI}(b:OwnB w C v l):∃a c,v=slice a l.length c/\Rd w w.heap.size a l.length (bF l):=mV b
theorem vh{w:World}{g C:Nat}{l:PI}(a:Blk w g 5 (bK l))(b:C<=g)(c:l.length<=1000000):OwnB w C (slice (some ⟨g,0,none⟩) l.length l.length) l:=
 ⟨by rw[bG];omega,.inr ⟨g,l.length,bK l,rfl,b,a,aj _,by unfold maxLen;omega,by rw[jw];omega,by rw[Nat.mul_one];exact aJ (by rw[Array.length_toList,jw];exact aj _)⟩⟩
theorem Rd.atB{w:World}{B:Nat}{a:PK}{n:Nat}{l:PI}(c:Rd w B a n (bF l)){k:Nat}(g:k<n):∃b o,a=some ⟨b,o,none⟩/\b<B/\∀j,j<n->w.cell? ⟨b,o+j,none⟩=some (.int .u8 (l.getD j 0:Nat)):=by
 obtain⟨b,o,rfl,d,e⟩:=c.2 (by omega);have f:=c.len;rw[bG] at f;exact⟨b,o,rfl,d,λj h=>e j _ (dQ (by omega))⟩
theorem iW:(prog.info? 5).map (λa=>(a.zero,a.size,a.bytes))=some (some (.int .u8 0),1,1):=by kernel_rfl
theorem dR{n:Nat}(g:n<=1000000)(w:World):(Instr.makeSlice 30 (int i64 (n:Int)) (int i64 (n:Int))).run prog w=.ok (slice (some ⟨w.heap.size,0,none⟩) n n) (w.alloc (cells (bK (replicate n 0)) 5)):=by
 obtain⟨b,c,d,e,f⟩:=info_parts iW;have a:=run_make (P:=prog) w 30 5 b (.int .u8 0) underlying30 c d .i64 .i64 (n:Int) (n:Int) (by omega) (by omega) (by rw[f];omega) (by omega);rw[e,Nat.mul_one,Int.toNat_natCast] at a;rw[<-GG];exact a
theorem Kc(p:PK)(w:World)(a:Fp w p):
 Calls prog 376 #[.pointer p] w λb c=>∃g,b=returned (pointer (some ⟨g,0,none⟩))/\Fld c g/\Below w.heap.size w c:=by
 rcases a with rfl | ⟨g,rfl,a⟩
 ·go_enter func376,ntmps376
  go_wp2_with fail;refine(oV _).mono ?_;rintro b d ⟨g,rfl,e,a,c⟩;go_wp2_with fail;go_ret;exact⟨g,rfl,a,c⟩
 ·go_enter func376,ntmps376
  go_wp2_with fail;go_ret;exact⟨g,rfl,a,az _ _⟩
theorem GH(p:PK)(c:Nat)(xs:PI)(a:PK)(n d:Nat)(w:World)(J:Fp w p)(K:c<256)(o:Rd w w.heap.size a n (bF xs))(q:By xs)(D:n<=1000000):
 Calls prog 334 #[.pointer p,.int .u8 c,slice a n d] w λr b=>∃v,r=returned v/\OwnB b w.heap.size v (kE c xs)/\Below w.heap.size w b:=by
 have e:=o.len;rw[bG] at e;have f:(kE c xs).length=n:=by rw[kE,aC];exact e
 have L:PH (∀b,(kE c xs).getD b 0=fm c (xs.getD b 0)):=ae λb=>jl c xs b;have u:=dR D;have M:=ae o;have N:=ae q;have m:=ae f;clear o q e f;generalize kE c xs=f at*;go_enter func334,ntmps334;go_wp2_with fail;refine(Kc p _ J).mono ?_;rintro r g ⟨s,rfl,i,k⟩;have x:=ae i;have O:=Blk.lt i
 go_wp2_with (simp only[])
 have t:w.heap.size<=g.heap.size:=k.size;have y:=Blk.new g 5 (bK (replicate n 0));have e:PH (Blk (g.alloc (cells (bK (replicate n 0)) 5)) g.heap.size 5 (bK (jN f 0))):=ae (by rw[Dk,m.o];exact y);have j:=ae (k.alloc t (cells (bK (replicate n 0)) 5));have l:=ae (x.o.below ((az g.heap.size g).alloc (aj _) (cells (bK (replicate n 0)) 5)) O);clear y u i x k;generalize g.alloc (cells (bK (replicate n 0)) 5)=W at*;generalize i:w.heap.size=u at*;have x:=ae i;clear i;generalize g.heap.size=k at*;go_loopw [8,9,17] (λ_ _ i wr=>∃b:Nat,b<=n/\i=int i64 b/\PH (Blk wr k 5 (bK (jN f b)))/\PH (Fld wr s)/\PH (Below u w wr)) (λ_ _ i _=>n-(intOf i).toNat)
 case atStart=>exact⟨0,by omega,rfl,e,l,j⟩
 case round=>
  clear e j l;obtain⟨b,X,rfl,e,l,j⟩:=hrel;by_cases y:b<n
  ·obtain⟨P,Q,rfl,q,E⟩:=M.o.atB y
   have R:=(j.o.cell (p:=⟨P,Q+b,none⟩) (by have:=x.o;omega)).trans (E b y);have S:=getD_lt N.o b;have B:=L.o b;have z:b<f.length:=(by rw[m.o];exact y);have i:=e.o.set b (.int .u8 (f.getD b 0:Nat));rw[kV,GE z] at i;have A:=(e.o.cell b).trans (AB (by rw[GD (by omega)];exact z));rw[GF z] at A;have F:=e.o.frozen b;rw[B] at i;generalize xs.getD b 0=G at*;have H:=ae (ut s c G K S wr l.o);have I:=ae i;clear i B E;generalize fm c G=B at*;have Y:(b:Int)<(n:Int):=(by omega);go_wp2_with fail;refine H.o.mono ?_;rintro r Z ⟨rfl,i,rfl⟩;have aa:(wr.drewN i).cell? ⟨k,b,none⟩=some (.int .u8 0):=A;have ab:(wr.drewN i).frozen? ⟨k,b,none⟩=false:=F;have T:PH (Blk ((wr.drewN i).setCell ⟨k,b,none⟩ (.int .u8 (B:Nat))) k 5 (bK (jN f (b+1)))):=ae I.o;have U:PH (Below u w ((wr.drewN i).setCell ⟨k,b,none⟩ (.int .u8 (B:Nat)))):=ae ((below_drewN j.o i).setCell t _);have V:PH (Fld ((wr.drewN i).setCell ⟨k,b,none⟩ (.int .u8 (B:Nat))) s):=ae (Blk.far (w:=wr.drewN i) l.o (by simp;omega) _);clear I j e R A F H l;generalize wr.drewN i=A at*;go_wp2_with fail;go_roundw
   case rel=>exact⟨b+1,by omega,by go_num,T,V,U⟩
   case measure=>simp[intOf];omega
  ·obtain rfl:b=n:=by omega
   have z:jN f b=f:=(by rw[<-m.o];exact Dl f);rw[z] at e;have i:=vh e.o (C:=u) t (by rw[m.o];exact D);rw[m.o] at i;have A:=ae i;clear i z e;go_wp2_with fail;go_ret;exact⟨_,rfl,by rw[x.o];exact A.o,by rw[x.o];exact j.o⟩
theorem By.sc(c:Nat)(xs:PI):By (kE c xs):=by
 intro b a;obtain⟨d,_,rfl⟩:=aY.1 a;exact iC _ _
theorem qE(c:Nat)(xs:PI):(kE c xs).length=xs.length:=aC _
def jL(r:PI):Nat:=r.findIdx (·!= 0)
def iB(r:PI):Int:=if jL r<r.length then (jL r:Int) else-1
theorem uZ{r:PI}{j:Nat}(a:r.getD j 0≠0)(d:∀i,i<j->r.getD i 0=0):jL r=j/\j<r.length:=by
 have b:j<r.length:=by
  rcases bq j r.length with c | c
  ·exact c
  ·exact absurd (by rw[af,List.getElem?_eq_none c];rfl) a
 refine⟨?_,b⟩;unfold jL;rw[findIdx_eq b];refine⟨?_,λi e=> ?_⟩
 ·rw[af,ah b] at a
  simpa using a
 ·have:=d i e
  rw[af,ah (by omega)] at this;simpa using this
theorem Aw{r:PI}(b:jL r<r.length):r.getD (jL r) 0≠0/\∀i,i<jL r->r.getD i 0=0:=by
 constructor
 ·rw[af,ah b]
  have:=findIdx_getElem (p:=λa:Nat=>a != 0) (xs:=r) (w:=b);exact bne_iff_ne.1 this
 ·intro i c
  have d:i<r.length:=(by omega);have:=not_of_lt_findIdx (p:=λa:Nat=>a != 0) (xs:=r) c;rw[af,ah d];simpa using this
theorem C8{r:PI}(b:¬jL r<r.length)(i:Nat):r.getD i 0=0:=by
 rcases bq i r.length with a | a
 ·have:=not_of_lt_findIdx (p:=λc:Nat=>c != 0) (xs:=r) (i:=i) (by unfold jL at b;omega)
  rw[af,ah a];simpa using this
 ·rw[af,List.getElem?_eq_none a];rfl
theorem xm{r:PI}:iB r<0↔vO r=vz:=by
 unfold iB;constructor
 ·intro a
  split at a
  ·omega
  ·rename_i b;exact funext λc=>C8 b c
 ·intro a
  split
  ·rename_i b;exact absurd (congrFun a _) (Aw b).1
  ·omega
def kT:List PI->PI->PI
 | [],v=>v
 | x :: R,v=>kT R (lU (v.getD (jL x) 0) x v)
theorem restR_wf{n:Nat}:∀ {R:List PI} {v:PI},Wf n R->v.length=n->(∀x∈v,x<256)->(kT R v).length=n/\∀x∈kT R v,x<256:=by
 intro R
 induction R with
 | nil=>intro v _ a b;exact⟨a,b⟩
 | cons x R d=>
   intro v c a b;have g:=c x mem_cons_self;exact d (λe f=>c e (mem_cons_of_mem _ f)) (by rw[gS (by omega)];exact a) (pW b)
theorem Gw{n:Nat}:∀ {R:List PI} {v:PI},Wf n R->v.length=n->(∀x∈v,x<256)->∃u,Spn (R.map vO) u/\vO (kT R v)=jP 1 u (vO v):=by
 intro R
 induction R with
 | nil=>
   intro v _ e a;exact⟨vz,.zero,funext λb=>by unfold jP vz;rw[bM,Nat.xor_zero];rfl⟩
 | cons x R h=>
   intro v f e a;have j:=f x mem_cons_self;obtain⟨u,c,i⟩:=h (v:=lU (v.getD (jL x) 0) x v) (λg d=>f g (mem_cons_of_mem _ d)) (by rw[gS (by omega)];exact e) (pW a);refine⟨jP (v.getD (jL x) 0) (vO x) u,?_,?_⟩
   ·exact .add _ _ _ (getD_lt a _) mem_cons_self (c.sub λg d=>mem_cons_of_mem _ d)
   ·simp only[kT]
    rw[i,NT (by omega)];funext b;unfold jP;rw[iP _ (c.vb b),iP _ (rF (c.vb b) (iC _ _)),Nat.xor_assoc,Nat.xor_comm (fm _ _)]
theorem C9{n:Nat}{z:Nat}:∀ {R:List PI} {v:PI},Wf n R->v.length=n->(∀r∈R,r.getD z 0=0)->(kT R v).getD z 0=v.getD z 0:=by
 intro R
 induction R with
 | nil=>intro v _ _ _;rfl
 | cons b R e=>
   intro v c f d;have g:=c b mem_cons_self;simp only[kT];rw[e (λr a=>c r (mem_cons_of_mem _ a)) (by rw[gS (by omega)];exact f) λr a=>d r (mem_cons_of_mem _ a),mN (by omega),d b mem_cons_self,bM,Nat.xor_zero]
theorem Da{n:Nat}:∀ {R:List PI} {ls:PI} {v:PI},Wf n R->v.length=n->(∀x∈v,x<256)->R.length=ls.length->(∀(i k:Nat) r l,R[k]? =some r->ls[i]? =some l->r.getD l 0=if k=i then 1 else 0)->
 (∀(i:Nat) r l,R[i]? =some r->ls[i]? =some l->jL r=l)->∀l∈ls,(kT R v).getD l 0=0:=by
 intro R
 induction R with
 | nil=>intro ls v _ _ _ b _ _ l c;cases ls with
   | nil=>simp at c
   | cons a d=>simp at b
 | cons x R q=>
   intro ls v h s j b d m l c;have u:=h x mem_cons_self;cases ls with
   | nil=>simp at b
   | cons w ls=>
     have o:Wf n R:=λr a=>h r (mem_cons_of_mem _ a);have p:(lU (v.getD (jL x) 0) x v).length=n:=(by rw[gS (by omega)];exact s);simp only[kT];rcases mem_cons.1 c with e | e
     ·subst e
      rw[C9 o p λr a=>by
       obtain⟨k,f⟩:=List.getElem?_of_mem a;have:=d 0 (k+1) r l (by simpa using f) rfl;simpa using this]
      have g:=m 0 x l rfl rfl;have t:=d 0 0 x l rfl rfl;rw[mN (by omega),g,t,bg rfl,o6 _ (getD_lt j _),Nat.xor_self]
     ·refine q o p (pW j) (by simpa using b) (λi k r f a g=> ?_) (λi r f a g=>m (i+1) r f (by simpa using a) (by simpa using g)) l e
      have:=d (i+1) (k+1) r f (by simpa using a) (by simpa using g);simpa using this
theorem Red.lead{n:Nat}{R:List PI}{ls:PI}(a:Red n R ls){i l:Nat}{r:PI}(f:R[i]? =some r)(b:ls[i]? =some l):jL r=l/\l<r.length/\r.getD l 0=1:=by
 have c:(R.map vO)[i]? =some (vO r):=by rw[List.getElem?_map,f];rfl
 have d:r.getD l 0=1:=a.red.one i (vO r) l c b;have e:=uZ (r:=r) (j:=l) (by rw[d];decide) λj g=>a.red.low i (vO r) l c b j g;exact⟨e.1,e.2,d⟩
theorem Red.rest_zero{n:Nat}{R:List PI}{ls:PI}(a:Red n R ls){v:PI}(i:v.length=n)(j:∀x∈v,x<256):∀l∈ls,(kT R v).getD l 0=0:=by
 refine Da a.wf i j (by have:=a.red.len;rwa [aC] at this) (λg d b l e c=> ?_) λg b l e c=>(a.lead e c).1;have h:(R.map vO)[d]? =some (vO b):=by rw[List.getElem?_map,e];rfl
 split
 ·rename_i f;subst f;exact a.red.one d (vO b) l h c
 ·rename_i f;exact a.red.zero g d (vO b) l h c f
theorem Red.rest_spn{n:Nat}{R:List PI}{ls:PI}(a:Red n R ls){v:PI}(c:v.length=n)(d:∀x∈v,x<256):vO (kT R v)=vz↔Spn (R.map vO) (vO v):=by
 obtain⟨h,b,e⟩:=Gw a.wf c d;constructor
 ·intro f
  have:vO v=h:=by
   rw[e] at f;funext g;have:=congrFun f g;unfold jP vz at this;rw[iP _ (b.vb g)] at this;exact qH this
  rw[this];exact b
 ·intro f
  have g:Spn (R.map vO) (vO (kT R v)):=(by rw[e];exact Spn.ax a.wf.vb (by decide) b f);exact a.red.eq_zero g (a.rest_zero c d)
theorem yO{n:Nat}{b:List PI}{v:PI}(d:Wf n b)(e:v.length=n)(f:∀x∈v,x<256):Wf n (b++[v]):=by
 intro c a;rcases bz.1 a with a | a
 ·exact d c a
 ·obtain rfl:c=v:=by simpa using a
  exact⟨e,f⟩
theorem MK{n:Nat}{b:List PI}{v:PI}(d:Wf n b)(g:v.length=n)(h:∀x∈v,x<256)(f:Spn (b.map vO) (vO v)):SpEq (b++[v]) b:=by
 intro i;constructor
 ·intro c
  refine c.trans d.vb λe a=> ?_;rw[aU] at a;rcases bz.1 a with a | a
  ·exact Spn.mem d.vb a
  ·obtain rfl:e=vO v:=by simpa using a
   exact f
 ·exact λc=>c.sub λe a=>by rw[aU];exact mem_append_left _ a
theorem J6{n:Nat}{a:List PI}{v:PI}(b:Wf n a)(c:v.length=n)(d:∀x∈v,x<256):
 (dS a).length<=(dS (a++[v])).length/\((dS (a++[v])).length=(dS a).length↔vO (kT (dS a) v)=vz):=by
 have e:=yO b c d;have g:∀f,Spn (a.map vO) f->Spn ((a++[v]).map vO) f:=λf h=>h.sub λh f=>by rw[aU];exact mem_append_left _ f
 obtain⟨j,h,i⟩:=fF b;refine⟨xX b e g,?_,?_⟩
 ·intro f
  have:=um b e g (by omega);rw[h.rest_spn c d];exact(i _).1 ((this _).2 (Spn.mem e.vb (by rw[aU];exact mem_append_right _ (by simp))))
 ·intro f
  rw[h.rest_spn c d] at f;rw[LV e b (MK b c d ((i _).2 f))]
theorem By.zeros(n:Nat):By (replicate n 0):=λb a=>by rw[eq_of_mem_replicate a];decide
theorem qi{w:World}{g:Nat}{l:PI}(a:Blk w g 5 (bK l)):Rd w w.heap.size (some ⟨g,0,none⟩) l.length (bF l):=by
 refine⟨bG l,λ_=>⟨g,0,rfl,a.lt,λb d c=> ?_⟩⟩;rw[Nat.zero_add,a.cell b];simpa[bK] using c
theorem JQ{l:PI}{k:Nat}(a:∀i,i<k->l.getD i 0=0)(b:l.getD k 0≠0):iB l=(k:Int):=by
 obtain⟨c,d⟩:=uZ b a;unfold iB;rw[c,bg d]
theorem Ct{l:PI}(b:∀i,i<l.length->l.getD i 0=0):iB l= -1:=by
 unfold iB;split
 ·rename_i a
  exact absurd (b _ a) (Aw a).1
 ·rfl
theorem Mw(x:Nat)(w:World)(c:x<256):
 Calls prog 338 #[.int .u8 x] w λa b=>a=returned (bool (decide (x≠0)))/\w=b:=by
 go_enter func338,ntmps338;go_wp2_with fail;go_ret;exact⟨by congr 2;by_cases h:x=0 <;> simp[h],rfl⟩
theorem Cu(xs:PI)(B:Nat)(a:PK)(n d:Nat)(w:World)(g:Rd w B a n (bF xs))(s:By xs)(z:n<=maxLen):
 Calls prog 337 #[slice a n d,.func (.func 338) #[] #[]] w λi b=>i=returned (int i64 (iB xs))/\∃j,b=w.drewN j:=by
 unfold maxLen at z;have A:PH (xs.length=n):=ae (by have:=g.len;rwa [bG] at this);have C:=ae g;have D:=ae s;clear g s;go_enter func337,ntmps337;go_wp2_with fail;go_loopw [5,8] (λ_ c wr=>∃b:Nat,b<=n/\c=int i64 b/\PH (∀c,c<b->xs.getD c 0=0)/\PH (∃j,wr=w.drewN j)) (λ_ c _=>n-(intOf c).toNat)
 case atStart=>exact⟨0,by omega,rfl,ae λc h=>absurd h (by omega),ae ⟨0,rfl⟩⟩
 case round=>
  obtain⟨b,I,rfl,k,e⟩:=hrel;obtain⟨j,m⟩:=e.o;clear e;by_cases t:b<n
  ·obtain⟨E,F,rfl,_,u⟩:=C.o.atB t
   have G:wr.cell? ⟨E,F+b,none⟩=some (.int .u8 (xs.getD b 0:Nat)):=(by rw[m];exact u b t);have v:=getD_lt D.o b;clear u;generalize f:xs.getD b 0=o at G v;have x:=ae f;have p:=ae λw=>Mw o w v;have J:(b:Int)<(n:Int):=(by omega);have e:=ae m;clear m f;by_cases q:o=0
   ·subst q
    go_wp2_with fail;refine(p.o _).mono ?_;rintro i H ⟨rfl,rfl⟩;go_wp2_with fail;go_roundw
    case rel=>exact⟨b+1,by omega,by go_num,ae λc h=>by rcases bq c b with f | f;exact k.o c f;rw[show c=b by omega];exact x.o,ae ⟨j,e.o⟩⟩
    case measure=>simp[intOf];omega
   ·have y:decide (o≠0)=true:=bf q
    have f:=JQ k.o (by rw[x.o];exact q);have r:=ae f;rw[y] at p;clear f y;go_wp2_with fail;refine(p.o _).mono ?_;rintro i H ⟨rfl,rfl⟩;go_wp2_with fail;go_ret;exact⟨by rw[r.o];rfl,j,e.o⟩
  ·obtain rfl:b=n:=by omega
   have f:=Ct (l:=xs) λc h=>k.o c (by rw[<-A.o];exact h);have r:=ae f;clear f;go_wp2_with fail;go_ret;exact⟨by rw[r.o];rfl,j,rfl⟩
theorem JR(xs:PI)(B:Nat)(a:PK)(n d:Nat)(w:World)(b:Rd w B a n (bF xs))(c:By xs)(e:n<=maxLen):
 Calls prog 274 #[slice a n d] w λf g=>f=returned (int i64 (iB xs))/\∃j,g=w.drewN j:=by
 have g:=ae (Cu xs B a n d w b c e);clear b c e;go_enter func274,ntmps274;go_wp2_with fail;refine g.o.mono ?_;rintro f i ⟨rfl,j,rfl⟩;go_wp2_with fail;go_ret;exact⟨rfl,j,rfl⟩
def dO(n k:Nat):PI:=(replicate n 0).set k 1
theorem gP(n k:Nat):(dO n k).length=n:=by simp[dO]
theorem ng(n k:Nat):By (dO n k):=by
 intro b c;rcases mem_or_eq_of_mem_set c with a | a
 ·exact By.zeros n b a
 ·subst a;decide
theorem mr(n k i:Nat):(dO n k).getD i 0=if i=k/\k<n then 1 else 0:=by
 unfold dO;rw[af,List.getElem?_set,aI];by_cases b:k=i
 ·subst b
  rw[bg rfl];by_cases a:k<n
  ·rw[bg a,bg ⟨rfl,a⟩];rfl
  ·rw[bh a,bh (λb=>a b.2)];rfl
 ·rw[bh b,bh (λa=>b a.1.symm),List.getElem?_replicate]
  split <;> rfl
theorem Ob(n a:Int)(w:World)(d:¬(1<=n/\n<=64/\0<=a/\a<n)):
 Calls prog 315 #[int i64 n,int i64 a] w λb c=>b=returned (slice none 0 0)/\w=c:=by
 go_enter func315,ntmps315;go_wp2_with fail
 all_goals first | omega | (go_ret;exact⟨rfl,rfl⟩) | skip
theorem JS(n k:Nat)(w:World)(e:n<=64)(a:k<n):
 Calls prog 315 #[int i64 n,int i64 k] w λc b=>∃v,c=returned v/\OwnB b w.heap.size v (dO n k)/\Below w.heap.size w b:=by
 have c:=dR (n:=n) (by omega);have f:¬(n:Int)<1:=by omega
 have g:¬(n:Int)>64:=by omega
 have i:¬(k:Int)<0:=by omega
 have j:(k:Int)<(n:Int):=by omega
 have m:(bK (replicate n 0))[k]? =some (.int .u8 0):=by
  rw[AB (by rw[aI];exact a),af,List.getElem?_replicate,bg a];rfl
 go_enter func315,ntmps315
 go_wp2_with (simp only[c])
 go_ret;have d:(bK (replicate n 0)).setIfInBounds k (.int .u8 1)=bK (dO n k):=kV _ _ 1;have b:=vh (l:=dO n k) (Blk.new w 5 (bK (dO n k))) (aj _) (by rw[gP];omega);rw[gP] at b;rw[d];exact⟨_,rfl,b,(az _ _).alloc (aj _) _⟩
theorem J8{P:Program}(w:World){ops:Array Oper}{rest:List Oper}{o:Oper}{a:Act}{Q:Exit->Act->World->Prop}(q:o.guard=none)(s x:Operand)(t:TypeId)
 (r:o.op=.call { callee:=.builtin .append,args:=#[s,x],argTypes:=#[t,t] })
 (h:Nat)(e:TypeId)(z:Value)(k:Nat)(y:P.underlying t=some (.slice e))(E:(P.info? e).map (λb=>(b.zero,b.size,b.bytes))=some (some z,1,k))(F:z.cells.size=1)
 (v:Value)(n:Nat)(xs:List Value)(hs:a.eval s=v)(l:w.ownsRow h e 1 v n xs)
 (B:Nat)(d:PK)(m c:Nat)(i:List Value)(A:a.eval x=slice d m c)(G:d=none->c=0)(j:Rd w B d m i)(p:∀u∈i,u.oneCell'=true)
 (H:(n+m)*k<=140737488355328)(I:n+m<=maxLen)(J:h<=w.heap.size)
 (f:∀g w',w'.ownsRow h e 1 g (n+m) (xs++i)->w.grownBy w' v.ownBlock->(g.ownBlock=v.ownBlock\/g.ownBlock=some w.heap.size)->wpList P ops Q rest (a.put o.dst g) w'):wpList P ops Q (o :: rest) a w:=by
 obtain⟨b,C,K,L,M⟩:=info_parts E;cases d with
 | none=>
   obtain rfl:=G rfl
   have D:m=0:=by
    rcases Nat.eq_zero_or_pos m with f | f
    ·exact f
    ·obtain⟨_,_,e,_⟩:=j.2 f;simp at e
   subst D;have N:i=[]:=eq_nil_of_length_eq_zero j.1;subst N;refine wpList_append_own_none q s x t r h e b 1 y C v n xs hs l A (f v w (by simpa using l) ⟨rfl,rfl,rfl,aj _,λ_ _ _=>rfl⟩ (.inl rfl))
 | some d=>
   refine wpList_append_own_at w q s x t r h e b z 1 k y C K L M F (by decide) v n xs hs l d m c i A (by rw[j.1];omega) ?_ p I H J λg w' p D _ N=>f g w' p D N;intro g u D
   have O:g<m:=by
    have:=(List.getElem?_eq_some_iff.1 D).1;rw[j.1] at this;exact this
   obtain⟨R,S,e,_,N⟩:=j.2 (by omega);obtain rfl:=Option.some.inj e;rw[Addr.add_lit];exact N g u D
theorem jv{P:Program}(w:World){ops:Array Oper}{rest:List Oper}{o:Oper}{a:Act}{Q:Exit->Act->World->Prop}(i:o.guard=none)(s x:Operand)(t:TypeId)
 (j:o.op=.call { callee:=.builtin .append,args:=#[s,x],argTypes:=#[t,t] })
 (d:Nat)(e:TypeId)(z:Value)(f:Nat)(k:P.underlying t=some (.slice e))(l:(P.info? e).map (λc=>(c.zero,c.size,c.bytes))=some (some z,1,f))(m:z.cells.size=1)
 (v:Value)(n:Nat)(xs:List Value)(hs:a.eval s=v)(p:w.ownsRow d e 1 v n xs)
 (g:Nat)(u:Value)(q:a.eval x=slice (some ⟨g,0,none⟩) 1 1)(r:w.cell? ⟨g,0,none⟩=some u)(h:u.oneCell'=true)
 (y:(n+1)*f<=140737488355328)(A:n+1<=maxLen)(B:d<=w.heap.size)
 (C:∀b w',w'.ownsRow d e 1 b (n+1) (xs++[u])->w.grownBy w' v.ownBlock->(b.ownBlock=v.ownBlock\/b.ownBlock=some w.heap.size)->wpList P ops Q rest (a.put o.dst b) w'):wpList P ops Q (o :: rest) a w:=by
 obtain⟨c,D,E,F,G⟩:=info_parts l;refine wpList_append_own_at w i s x t j d e c z 1 f k D E F G m (by decide) v n xs hs p ⟨g,0,none⟩ 1 1 [u] q rfl ?_ (by simpa using h) A y B λb w' h H _ I=>C b w' h H I;intro H I b
 match H,b with
 | 0,b=>simp at b;subst b;simpa[Addr.add] using r
theorem jM{w:World}{g e n:Nat}{v:Value}{xs:List Value}(f:w.ownsRow g e 1 v n xs):∃a c,v=slice a n c/\Rd w w.heap.size a n xs/\(a=none->c=0):=by
 obtain⟨a,c,b,h⟩:=mV f;refine⟨a,c,b,h,λi=> ?_⟩;subst i;rcases f.2 with⟨d,_⟩ | ⟨j,k,l,d,_⟩
 ·rw[d] at b;simp at b;exact b.2.symm
 ·rw[d] at b;simp at b
structure wH where
 ok:World->Prop
 stb:∀w w',ok w->Below w.heap.size w w'->ok w'
def mF(a:PK)(n:Nat)(l:List Value):wH:=⟨λb=>Rd b b.heap.size a n l,λ_ _ c b=>(c.below b (aj _)).more b.size⟩
def bS(g:Nat)(t:TypeId)(b:Array Value):wH:=⟨λa=>Blk a g t b,λ_ _ a c=>a.below c a.lt⟩
def eFp(p:PK):wH:=⟨λa=>Fp a p,λ_ _ a c=>by
 rcases a with a | ⟨d,e,b⟩
 ·exact .inl a
 ·exact .inr ⟨d,e,b.below c (Blk.lt b)⟩⟩
def Sx(w0 w:World)(L:List wH):Prop:=Below w0.heap.size w0 w/\∀a∈L,a.ok w
theorem Sx.nil(w:World):Sx w w []:=⟨az _ _,by simp⟩
theorem Sx.step{w0 w w':World}{L:List wH}(a:Sx w0 w L)(b:Below w.heap.size w w'):Sx w0 w' L:=⟨a.1.trans (b.mono a.1.size),λc d=>c.stb _ _ (a.2 c d) b⟩
theorem Sx.alloc{w0 w:World}{L:List wH}(a:Sx w0 w L)(o:Obj):Sx w0 (w.alloc o) L:=a.step ((az _ _).alloc (aj _) o)
theorem Sx.add{w0 w:World}{L:List wH}(b:Sx w0 w L)(e:wH)(c:e.ok w):Sx w0 w (e :: L):=⟨b.1,λd a=>by
 rcases mem_cons.1 a with rfl | a
 ·exact c
 ·exact b.2 d a⟩
theorem Sx.get{w0 w:World}{L:List wH}(a:Sx w0 w L)(i:Nat){e:wH}(b:L[i]? =some e):e.ok w:=a.2 e (mem_of_getElem? b)
theorem Sx.rd{w0 w:World}{L:List wH}(b:Sx w0 w L)(i:Nat){a:PK}{n:Nat}{l:List Value}(c:L[i]? =some (mF a n l)):Rd w w.heap.size a n l:=b.get i c
theorem Sx.fp{w0 w:World}{L:List wH}(a:Sx w0 w L)(i:Nat){p:PK}(b:L[i]? =some (eFp p)):Fp w p:=a.get i b
theorem Sx.blk{w0 w:World}{L:List wH}(b:Sx w0 w L)(i:Nat){g:Nat}{t:TypeId}{a:Array Value}(c:L[i]? =some (bS g t a)):Blk w g t a:=b.get i c
theorem OwnB.rd2{w:World}{C:Nat}{v:Value}{l:PI}{n:Nat}(b:OwnB w C v l)(d:l.length=n):∃a c,v=slice a n c/\(mF a n (bF l)).ok w/\(a=none->c=0):=by
 subst d;exact jM b
theorem DZ(a b c:Int)(w:World)(e: -9223372036854775808<=a/\a<=9223372036854775807)(f: -9223372036854775808<=b/\b<=9223372036854775807)(g: -9223372036854775808<=c/\c<=9223372036854775807):
 Calls prog 40 #[int i64 a,int i64 b,int i64 c] w λd i=>d=returned (dD (1+a%6) (1+b%3) (1+c%9))/\Below w.heap.size w i:=by
 have j:=ae λw=>eU a 6 w e (by omega) (by omega);have k:=ae λw=>eU b 3 w f (by omega) (by omega);have l:=ae λw=>eU c 9 w g (by omega) (by omega);have p:=Int.emod_nonneg a (show(6:Int)≠0 by omega);have q:=Int.emod_lt_of_pos a (show(0:Int)<6 by omega);have r:=Int.emod_nonneg b (show(3:Int)≠0 by omega);have s:=Int.emod_lt_of_pos b (show(0:Int)<3 by omega);have t:=Int.emod_nonneg c (show(9:Int)≠0 by omega);have u:=Int.emod_lt_of_pos c (show(0:Int)<9 by omega);generalize a%6=m at*;generalize b%3=n at*;generalize c%9=o at*;clear e f g;go_enter func40,ntmps40;go_wp2_with fail;refine(j.o _).mono ?_;rintro d i ⟨rfl,rfl⟩;go_wp2_with fail;refine(k.o _).mono ?_;rintro d i ⟨rfl,rfl⟩;go_wp2_with fail;refine(l.o _).mono ?_;rintro d i ⟨rfl,rfl⟩;go_wp2_with fail;refine bodyPost_ret (results_cell_row rfl _ _ w.heap.size 25 _ (0,0) _ rfl (Blk.new w 25 #[int i64 (1+m),int i64 (1+n),int i64 (1+o)]) underlying25 rfl (by kernel_rfl)) rfl ?_;exact⟨rfl,(az _ _).alloc (aj _) _⟩
theorem Lv(b:List Int)(B:Nat)(a:PK)(n c k:Nat)(w:World)(d:Rd w B a n (b.map (Value.int .i64))):
 Calls prog 41 #[slice a n c,int i64 k] w λe f=>e=returned (int i64 (b.getD k 0))/\w=f:=by
 have f:b.length=n:=by have:=d.len;simpa using this
 by_cases j:k<n
 ·have i:(k:Int)<(n:Int):=by omega
  obtain⟨l,m,rfl,o,g⟩:=d.2 (by omega);have p:=g k (int i64 (b.getD k 0)) (by rw[List.getElem?_map,af,ah (by omega)];rfl);generalize b.getD k 0=q at*;clear g d f;go_enter func41,ntmps41;go_wp2_with fail;go_ret;exact⟨rfl,rfl⟩
 ·have i:¬(k:Int)<(n:Int):=by omega
  have e:b.getD k 0=0:=(by rw[af,List.getElem?_eq_none (by omega)];rfl);rw[e];clear d f e;go_enter func41,ntmps41;go_wp2_with fail;go_ret;exact⟨rfl,rfl⟩
theorem pI(K H S:Nat)(w:World)(c:K<=16)(d:S<=24):
 Calls prog 156 #[dD K H S] w λa b=>a=returned (int i64 (K*S:Nat))/\Below w.heap.size w b:=by
 have a:=(az w.heap.size w).alloc (aj _) (cells #[int i64 K,int i64 H,int i64 S] 25);have b:=ae a;clear a;have f:K*S<=16*24:=bn c d;have a:(K:Int)*(S:Int)=((K*S:Nat):Int):=by rw[Int.natCast_mul]
 have g:IntKind.i64.wrap ((K*S:Nat):Int)=((K*S:Nat):Int):=by rw[IntKind.wrap_i64];omega
 generalize K*S=i at*;unfold dD;go_enter func156,ntmps156;go_wp2_with fail;go_ret
 first
 | exact⟨rfl,b.o⟩
 | exact⟨congrArg (λe=>Ending.returned (int i64 e)) a,b.o⟩
def wE(s:Nat):Nat:=if s%2=1 then s/2 ^^^ 3988292384 else s/2
def uS:Nat->Nat->Nat | 0,s=>s | k+1,s=>uS k (wE s)
def crcS(s x:Nat):Nat:=uS 8 (s ^^^ x)
def ry(l:PI)(s:Nat):Nat:=l.foldl crcS s
def Ai(l:PI):Nat:=ry l 4294967295 ^^^ 4294967295
theorem My{s:Nat}(a:s<4294967296):wE s<4294967296:=by
 unfold wE;split
 ·exact Nat.xor_lt_two_pow (n:=32) (by omega) (by omega)
 ·omega
theorem Ew(k:Nat):∀ {s:Nat},s<4294967296->uS k s<4294967296:=by
 induction k with
 | zero=>intro s a;exact a
 | succ k b=>intro s a;exact b (My a)
theorem MB{s x:Nat}(a:s<4294967296)(b:x<256):crcS s x<4294967296:=
 Ew 8 (Nat.xor_lt_two_pow (n:=32) a (by omega))
theorem yJ:∀(l:PI) (s:Nat),s<4294967296->(∀x∈l,x<256)->ry l s<4294967296:=by
 intro l
 induction l with
 | nil=>intro s a _;exact a
 | cons x l c=>intro s a b;exact c _ (MB a (b x (by simp))) λd e=>b d (by simp[e])
theorem JV(a b:PI)(s:Nat):ry (a++b) s=ry b (ry a s):=foldl_append
def b4(s:Nat):PI:=[s%256,s/256%256,s/65536%256,s/16777216%256]
def fW(kind:Nat)(body:PI):PI:=[87,115,1,kind]++(body++replicate (55-body.length) 0)
def cellL(kind:Nat)(body:PI):PI:=fW kind body++(b4 (Ai (fW kind body))++[165])
def jf(b:PI):Prop:=b.length=64/\1<=b.getD 3 0/\b=cellL (b.getD 3 0) ((b.drop 4).take 55)
theorem xN{kind:Nat}{body:PI}(a:body.length<=55):(fW kind body).length=59:=by simp[fW];omega
theorem gA{kind:Nat}{body:PI}(a:body.length<=55):(cellL kind body).length=64:=by simp[cellL,b4,xN a]
theorem GZ(k:Nat):∀s,uS (k+1) s=wE (uS k s):=by
 induction k with
 | zero=>intro s;rfl
 | succ k a=>intro s;show uS (k+1) (wE s)=wE (uS k (wE s));exact a (wE s)
theorem G0{xs:PI}{k:Nat}(a:k<xs.length)(s:Nat):ry (xs.take (k+1)) s=uS 8 (ry (xs.take k) s ^^^ xs.getD k 0):=by
 rw[aN a,JV,af,ah a];rfl
theorem Nj(xs:PI)(B:Nat)(a:PK)(n c:Nat)(w:World)(f:Rd w B a n (bF xs))(z:By xs)(O:n<=1000000):
 Calls prog 207 #[slice a n c] w λb d=>b=returned (.int .u32 (Ai xs:Nat))/\∃j,d=w.drewN j:=by
 have F:=ae f;have u:=ae z;have A:PH (xs.length=n):=ae (by have:=f.len;rwa [bG] at this);clear f z;go_enter func207,ntmps207;go_wp2_with fail;go_loopw [3,9] (λp e wr=>∃b:Nat,b<=n/\e=int i64 b/\p=.int .u32 (ry (xs.take b) 4294967295:Nat)/\PH (∃j,wr=w.drewN j)) (λ_ e _=>n-(intOf e).toNat)
 case atStart=>exact⟨0,by omega,rfl,rfl,ae ⟨0,rfl⟩⟩
 case round=>
  obtain⟨b,P,rfl,rfl,i⟩:=hrel;obtain⟨j,k⟩:=i.o;clear i;by_cases v:b<n
  ·have Q:(b:Int)<(n:Int):=by omega
   have d:b<xs.length:=(by rw[A.o];exact v);obtain⟨G,H,rfl,R,g⟩:=F.o.atB v;have o:wr.cell? ⟨G,H+b,none⟩=some (.int .u8 (xs.getD b 0:Nat)):=(by rw[k];exact g b v);have S:=getD_lt u.o b;have l:=yJ (xs.take b) 4294967295 (by omega) λm q=>u.o m (bD q);have I:=ae (G0 d 4294967295);have i:=ae k;clear g k d;generalize d:ry (xs.take (b+1)) 4294967295=T at*;have J:=ae d;clear d;generalize ry (xs.take b) 4294967295=x at*;generalize xs.getD b 0=m at*;have q:=u32_xor_nat x m l (by omega);have K:x ^^^ m<4294967296:=Nat.xor_lt_two_pow (n:=32) l (by omega);generalize d:x ^^^ m=r at*;have U:=ae d;clear d;go_wp2_with fail;clear o q;go_loopw [3,17] (λp e g=>∃d:Nat,d<=8/\e=int i64 d/\p=.int .u32 (uS d r:Nat)/\g=wr) (λ_ e _=>8-(intOf e).toNat)
   case atStart=>exact⟨0,by omega,rfl,rfl,rfl⟩
   case round=>
    obtain⟨d,V,rfl,rfl,e⟩:=hrel;have y:=ae e;clear e;by_cases W:d<8
    ·have X:(d:Int)<8:=by omega
     have L:=Ew d K;have C:=ae (GZ d r);generalize e:uS (d+1) r=s at*;have D:=ae e;clear e;generalize uS d r=e at*;have g:=u32_and_nat e 1 L (by omega);rw[Nat.and_one_is_mod] at g;by_cases o:e%2=1
     ·have t:s=e/2 ^^^ 3988292384:=by rw[C.o];unfold wE;rw[bg o]
      rw[o] at g;have M:bits .and .u32 (e:Int) 1=1:=g;have N:(e:Int)/2=((e/2:Nat):Int):=(by omega);have q:=u32_xor_nat (e/2) 3988292384 (by omega) (by omega);have E:bits .xor .u32 ((e/2:Nat):Int) 3988292384=(s:Int):=(by rw[t];exact q);generalize e/2=Y at*;clear g q t o;go_wp2_with fail;go_roundw
      case rel=>exact⟨d+1,by omega,by go_num,by rw[D.o],y.o⟩
      case measure=>simp[intOf];omega
     ·have t:s=e/2:=by rw[C.o];unfold wE;rw[bh o]
      have E:e%2=0:=(by omega);rw[E] at g;have M:bits .and .u32 (e:Int) 1=0:=g;have N:(e:Int)/2=(s:Int):=(by omega);clear g t o E;go_wp2_with fail;go_roundw
      case rel=>exact⟨d+1,by omega,by go_num,by rw[D.o],y.o⟩
      case measure=>simp[intOf];omega
    ·obtain rfl:d=8:=by omega
     have e:PH (∃j,wr=w.drewN j):=ae ⟨j,by rw[y.o,i.o]⟩;go_wp2_with fail;go_roundw
     case rel=>exact⟨b+1,by omega,by go_num,by rw[J.o,I.o],e⟩
     case measure=>simp[intOf];omega
  ·obtain rfl:b=n:=by omega
   rw[aJ (by rw[A.o];exact aj _)];have l:=yJ xs 4294967295 (by omega) u.o;have f:=u32_xor_nat 4294967295 (ry xs 4294967295) (by omega) l;rw[Nat.xor_comm] at f;have d:PH (bits .xor .u32 IntKind.u32.max (ry xs 4294967295:Nat)=(Ai xs:Nat)):=ae f;have i:=ae k;clear f k l;generalize ry xs 4294967295=p at*;go_wp2_with fail;go_ret;exact⟨congrArg (λm=>Ending.returned (.int .u32 m)) d.o,j,i.o⟩
def bU(n:Nat):Nat->PI | 0=>[] | k+1=>n/256 ^ k%256 :: bU n k
def dY(l:PI):Nat:=l.foldl (λa b=>a*256+b) 0
theorem cH(n k:Nat):(bU n k).length=k:=by
 induction k with
 | zero=>rfl
 | succ k a=>simp[bU,a]
theorem eY(n k:Nat):∀x∈bU n k,x<256:=by
 induction k with
 | zero=>intro x a;simp[bU] at a
 | succ k c=>
   intro x a;rcases mem_cons.1 a with b | b
   ·rw[b];exact Nat.mod_lt _ (by omega)
   ·exact c x b
theorem told1{n:Nat}(a:n<256):dY (bU n 1)=n:=by simp[dY,bU];omega
theorem told2{n:Nat}(a:n<65536):dY (bU n 2)=n:=by simp[dY,bU];omega
theorem told3{n:Nat}(a:n<16777216):dY (bU n 3)=n:=by simp[dY,bU];omega
theorem told4{n:Nat}(a:n<4294967296):dY (bU n 4)=n:=by simp[dY,bU];omega
def iR(a b id K H Z c:Nat)(d:PI):PI:=bU a 3++bU b 1++bU id 2++[K,H,Z]++bU c 4++d
theorem iT(a b id K H Z c:Nat)(d:PI):(iR a b id K H Z c d).length=13+d.length:=by simp[iR,cH];omega
theorem LQ{kind:Nat}{body:PI}(d:1<=kind)(e:body.length<=55):jf (cellL kind body)/\(cellL kind body).getD 3 0=kind/\((cellL kind body).drop 4).take 55=body++replicate (55-body.length) 0:=by
 have a:(cellL kind body).getD 3 0=kind:=rfl
 have c:((cellL kind body).drop 4).take 55=body++replicate (55-body.length) 0:=by
  have b:(cellL kind body).drop 4=(body++replicate (55-body.length) 0)++(b4 (Ai (fW kind body))++[165]):=rfl;rw[b];exact take_left' (by simp;omega)
 refine⟨⟨gA e,by rw[a];exact d,?_⟩,a,c⟩;rw[a,c]
 have b:fW kind (body++replicate (55-body.length) 0)=fW kind body:=by
  unfold fW;have:(body++replicate (55-body.length) 0).length=55:=(by simp;omega);rw[this];simp
 unfold cellL;rw[b]
theorem qR{P:Program}(w:World)(T i d:TypeId)(n:P.underlying T=some (.slice d))(p:(P.info? d).map (·.size)=some 1)(g o e k:Nat)(a:PK)(f l:Nat)
 (c:List Value)(t:TypeId)(m:w.heap[g]? =some (.cells c.toArray t (0,0)))(b:List Value)(q:b.length=Nat.min f e)
 (r:0<b.length->∃h,a=some h/\∀j v,b[j]? =some v->w.cell? (h.add j)=some v)(s:o+b.length<=c.length)(u:∀v∈b,v.oneCell'=true):
 ∃w',(Builtin.copy_ #[T,T] i #[slice (some ⟨g,o,none⟩) e k,slice a f l]).run P w=.ok (goInt b.length) w'/\Blk w' g t (splice c o b).toArray/\w.grownBy w' (some g):=by
 by_cases x:b.length=0
 ·obtain rfl:b=[]:=eq_nil_of_length_eq_zero x
  exact⟨w,run_copy_none (P:=P) w T T i d _ _ e k f l n p (by simpa using q.symm),by simpa[splice,Blk] using m,⟨rfl,rfl,rfl,aj _,λ_ _ _=>rfl⟩⟩
 ·obtain⟨h,rfl,y⟩:=r (by omega)
  exact⟨_,run_copy_row (P:=P) w T T i d g o e k h f l c.toArray t b n p m q y (by simpa using s) u,by simpa[splice,Blk] using setRow_heap w g c.toArray _ t _ m,
   ⟨rfl,rfl,rfl,by simp[World.setRow],λz _ A=>setRow_other w g z _ (λz=>A (by rw[z]))⟩⟩
theorem ku(L X:PI)(o:Nat):splice (bF L) o (bF X)=bF (splice L o X):=by
 unfold splice bF;rw[aU,aU,map_take,map_drop,aC]
theorem BI{w:World}{g k:Nat}{L:PI}(b:Blk w g 5 (bK L))(d:k<=L.length):Rd w w.heap.size (some ⟨g,0,none⟩) k (bF (L.take k)):=by
 refine⟨by rw[bG,aG];omega,λ_=>⟨g,0,rfl,b.lt,λc e a=> ?_⟩⟩;rw[Nat.zero_add,b.cell c];unfold bF at a;rw[List.getElem?_map,List.getElem?_take] at a;split at a
 ·simpa[bK,bF] using a
 ·simp at a
def rR(s k:Nat):PI:=(b4 s).take k++replicate (5-k) 0
theorem BJ(s:Nat){k:Nat}(a:k<4):(rR s k).set k ((b4 s).getD k 0)=rR s (k+1):=by
 match k,a with
 | 0,_=>rfl
 | 1,_=>rfl
 | 2,_=>rfl
 | 3,_=>rfl
theorem Ft(s:Nat):(rR s 4).set 4 165=b4 s++[165]:=rfl
theorem Fv{kind:Nat}{body:PI}(d:body.length<=55):splice (splice (replicate 64 0) 0 [87,115,1,kind]) 4 body=fW kind body++replicate 5 0:=by
 have a:splice (replicate 64 0) 0 [87,115,1,kind]=[87,115,1,kind]++replicate 60 0:=rfl;rw[a]
 have b:splice ([87,115,1,kind]++replicate 60 0) 4 body=[87,115,1,kind]++(body++(replicate 60 0).drop body.length):=by
  unfold splice;rw[take_left' (by rfl),drop_append];simp
 rw[b,drop_replicate];unfold fW;have c:replicate (60-body.length) 0=replicate (55-body.length) 0++replicate 5 (0:Nat):=by rw[replicate_append_replicate];congr 1;omega
 rw[c];simp
theorem uf{H R:PI}{k v:Nat}(a:H.length=59):(H++R).set (59+k) v=H++R.set k v:=by
 rw[set_append_right _ _ (by omega)];congr 2;omega
theorem ug(kind:Nat)(body:PI)(a:PK)(n c:Nat)(w:World)(aa:1<=kind)(ab:kind<=255)(e:Rd w w.heap.size a n (bF body))(F:By body)(hn:n<=55):
 Calls prog 142 #[int i64 kind,slice a n c] w λG b=>∃g,G=returned (slice (some ⟨g,0,none⟩) 64 64)/\w.heap.size<=g/\Blk b g 5 (bK (cellL kind body))/\Below w.heap.size w b:=by
 have i:body.length=n:=by have:=e.len;rwa [bG] at this
 have H:∀w:World,(Instr.makeSlice 30 (int i64 64) (int i64 64)).run prog w=.ok (slice (some ⟨w.heap.size,0,none⟩) 64 64) (w.alloc (cells (bK (replicate 64 0)) 5)):=λw=>dR (n:=64) (by omega) w;have j:(prog.info? 5).map (·.size)=some 1:=by kernel_rfl
 have h1:¬(kind:Int)<1:=by omega
 have h2:¬(255:Int)<(kind:Int):=by omega
 have h3:¬(55:Int)<(n:Int):=by omega
 have ac:(kind:Int)%256=(kind:Int):=by omega
 have l:=Blk.new w 5 (bK (replicate 64 0));obtain⟨m,s⟩:∃m,m=w.alloc (cells (bK (replicate 64 0)) 5):=⟨_,rfl⟩;rw[<-s] at l;have I:m.heap.size=w.heap.size+1:=by rw[s];simp
 have q:Below w.heap.size w m:=by rw[s];exact(az _ _).alloc (aj _) _
 have r:=(l.alloc (cells (bK [87,115,1,kind]) 5));have x:=Blk.new m 5 (bK [87,115,1,kind]);obtain⟨t,u⟩:∃t,t=m.alloc (cells (bK [87,115,1,kind]) 5):=⟨_,rfl⟩;rw[<-u] at r x;have y:Below w.heap.size w t:=by rw[u];exact q.alloc q.size _
 obtain⟨J,z,A,K⟩:=qR (P:=prog) t 30 3 5 underlying30 j w.heap.size 0 64 64 (some ⟨m.heap.size,0,none⟩) 4 4 (bF (replicate 64 0)) 5 r (bF [87,115,1,kind]) rfl
  (λ_=>⟨_,rfl,λB L d=>by rw[Addr.add_lit,Nat.zero_add,x.cell B];simpa[bK] using d⟩) (by rw[bG,bG,aI];show 0+4<=64;omega) (iI _)
 rw[ku] at A;have b:Below w.heap.size w J:=y.grown K y.size (λg f=>by simp at f;omega);have M:=e.below b (aj _)
 obtain⟨o,N,C,O⟩:=qR (P:=prog) J 30 3 5 underlying30 j w.heap.size 4 60 60 a n c (bF (splice (replicate 64 0) 0 [87,115,1,kind])) 5 A (bF body) (by rw[bG,i];exact(Nat.min_eq_left (by omega)).symm)
  (λh=>by
    obtain⟨W,X,rfl,ad,Y⟩:=M.2 (by rw[bG] at h;omega);refine⟨⟨W,X,none⟩,rfl,λB L d=> ?_⟩;rw[Addr.add_lit];exact Y B L d) (by rw[bG,bG,i];show 4+n<=64;omega) (iI _)
 rw[ku,Fv (by omega)] at C;have Q:Below w.heap.size w o:=b.grown O b.size (λg f=>by simp at f;omega);have f:(fW kind body).length=59:=xN (by omega)
 have D:By (fW kind body):=by
  intro R e;unfold fW at e;rcases bz.1 e with e | e
  ·simp at e;omega
  ·rcases bz.1 e with e | e
   ·exact F R e
   ·exact By.zeros _ R e
 have E:PH (Blk o w.heap.size 5 (bK (fW kind body++rR (Ai (fW kind body)) 0))):=ae C
 have S:Rd o o.heap.size (some ⟨w.heap.size,0,none⟩) 59 (bF (fW kind body)):=by
  have:=BI E.o (k:=59) (by rw[aH,f];omega)
  rwa [take_left' f] at this
 have T:=ae (Nj (fW kind body) _ (some ⟨w.heap.size,0,none⟩) 59 64 o S D (by omega));have U:=ae Q;have v:=ae f;have ag:Ai (fW kind body)<4294967296:=Nat.xor_lt_two_pow (n:=32) (yJ _ _ (by omega) D) (by omega);have Z:PH (cellL kind body=fW kind body++(b4 (Ai (fW kind body))++[165])):=ae rfl;rw[I] at z;have V:bK [87,115,1,kind]= #[.int .u8 87,.int .u8 115,.int .u8 1,.int .u8 (kind:Int)]:=rfl;rw[V] at u;subst u;subst s;clear I V l r x A K C O q y b Q e M S f D j i F;generalize bK (replicate 64 0)=O at*;generalize b:fW kind body=A at*;have Q:=ae b;clear b;generalize f:Ai A=b at*;have S:=ae f;clear f;go_enter func142,ntmps142
 go_wp2_with (first | simp only[H] | simp only[z] | simp only[N])
 refine T.o.mono ?_;rintro G I ⟨rfl,x,rfl⟩;have C:PH (Blk (o.drewN x) w.heap.size 5 (bK (A++rR b 0))):=ae (E.o.drewN x);have D:=ae (below_drewN U.o x);generalize o.drewN x=I at*;clear T E U H z N
 have y:PH (∀i,(b4 b).getD i 0<256):=ae λi=>by
  match i with
  | 0=>exact Nat.mod_lt _ (by omega)
  | 1=>exact Nat.mod_lt _ (by omega)
  | 2=>exact Nat.mod_lt _ (by omega)
  | 3=>exact Nat.mod_lt _ (by omega)
  | i+4=>simp[b4]
 generalize j:w.heap.size=f at*;have E:=ae j;clear j;go_wp2_with fail;go_loopw [32] (λi wr=>∃k:Nat,k<=4/\i=int i64 k/\PH (Blk wr f 5 (bK (A++rR b k)))/\PH (Below f w wr)) (λi _=>4-(intOf i).toNat)
 case atStart=>exact⟨0,by omega,rfl,C,D⟩
 case round=>
  clear C D;obtain⟨k,T,rfl,l,z⟩:=hrel;by_cases H:k<4
  ·have U:(k:Int)<4:=by omega
   have q:=l.o.set (59+k) (.int .u8 ((b4 b).getD k 0:Nat));rw[kV,uf v.o,BJ b H] at q;have K:=l.o.frozen (59+k)
   obtain⟨r,M⟩:∃r,wr.cell? ⟨f,59+k,none⟩=some r:=by
    refine⟨_,(l.o.cell (59+k)).trans (Array.getElem?_eq_getElem ?_)⟩;rw[jw,aH,v.o];have:(rR b k).length=5:=(by simp[rR,b4];omega);omega
   have i:=ae q;have j:PH (Below f w (wr.setCell ⟨f,59+k,none⟩ (.int .u8 ((b4 b).getD k 0:Nat)))):=ae (z.o.setCell (p:=⟨f,59+k,none⟩) (aj _) _);clear q l z;have N:k=0\/k=1\/k=2\/k=3:=(by omega);rcases N with rfl | rfl | rfl | rfl
   ·have d:(((b4 b).getD 0 0:Nat):Int)=(b:Int)%256:=by show((b%256:Nat):Int)=_;omega
    rw[d] at i j;clear d y;go_wp2_with fail;exact⟨⟨1,by omega,rfl,i,j⟩,by simp[intOf]⟩
   ·have d:(((b4 b).getD 1 0:Nat):Int)=(b:Int)/256%256:=by show((b/256%256:Nat):Int)=_;omega
    rw[d] at i j;clear d y;go_wp2_with fail;exact⟨⟨2,by omega,rfl,i,j⟩,by simp[intOf]⟩
   ·have d:(((b4 b).getD 2 0:Nat):Int)=(b:Int)/65536%256:=by show((b/65536%256:Nat):Int)=_;omega
    rw[d] at i j;clear d y;go_wp2_with fail;exact⟨⟨3,by omega,rfl,i,j⟩,by simp[intOf]⟩
   ·have d:(((b4 b).getD 3 0:Nat):Int)=(b:Int)/16777216:=by show((b/16777216%256:Nat):Int)=_;omega
    rw[d] at i j;clear d y;go_wp2_with fail;exact⟨⟨4,by omega,rfl,i,j⟩,by simp[intOf]⟩
  ·obtain rfl:k=4:=by omega
   have q:=l.o.set (59+4) (.int .u8 ((165:Nat):Int));rw[kV,uf v.o,Ft,<-Z.o] at q;have K:=l.o.frozen 63
   obtain⟨r,M⟩:∃r,wr.cell? ⟨f,63,none⟩=some r:=by
    refine⟨_,(l.o.cell 63).trans (Array.getElem?_eq_getElem ?_)⟩;rw[jw,aH,v.o];show 63<59+5;omega
   have i:PH (Blk (wr.setCell ⟨f,63,none⟩ (.int .u8 165)) f 5 (bK (cellL kind body))):=ae q;have j:PH (Below f w (wr.setCell ⟨f,63,none⟩ (.int .u8 165))):=ae (z.o.setCell (p:=⟨f,63,none⟩) (aj _) _);clear q l z;go_wp2_with fail;go_ret;exact⟨f,rfl,by rw[E.o];exact aj _,i.o,by rw[E.o];exact j.o⟩
theorem zG(kind:Int)(a:PK)(n c:Nat)(w:World)(e:kind<1):
 Calls prog 142 #[int i64 kind,slice a n c] w λb d=>b=returned (slice none 0 0)/\w=d:=by
 go_enter func142,ntmps142;go_wp2_with fail;go_ret;exact⟨rfl,rfl⟩
def mh(xs:PI):List Int:=xs.map λa:Nat=>(a:Int)
theorem Mo{xs ys:PI}(f:By xs)(g:By ys):((strOfNums (mh xs)).toList=(strOfNums (mh ys)).toList)↔xs=ys:=by
 constructor
 ·intro b
  have a:=b;rw[Lib.strOfNums_toList,Lib.strOfNums_toList] at a;unfold Lib.bytesOf mh at a;rw[map_map,map_map] at a;have h:xs.length=ys.length:=(by have:=congrArg List.length a;simpa using this);refine ext_getElem h λi c d=> ?_;have e:=congrArg (λj=>j[i]?) a;simp only[List.getElem?_map,ah c,ah d,Option.map_some,Function.comp,Int.toNat_natCast,Option.some.injEq] at e;have j:=congrArg UInt8.toNat e;have k:=f _ (aQ c);have l:=g _ (aQ d);simp only[UInt8.toNat_ofNat'] at j;omega
 ·intro b;rw[b]
theorem Cm{w:World}{B:Nat}{a:PK}{n:Nat}{xs:PI}(f:Rd w B a n (bF xs))(c:Nat):(convert 30 9 (slice a n c)).run prog w=.ok (.string (strOfNums (mh xs))) w:=by
 have d:xs.length=n:=by have:=f.len;rwa [bG] at this
 rcases Nat.eq_zero_or_pos n with e | e
 ·subst e
  obtain rfl:xs=[]:=eq_nil_of_length_eq_zero d;exact run_convert_bytes_zero (P:=prog) w 30 5 underlying30 underlying5 a c 9 underlying9
 ·obtain⟨j,k,rfl,m,l⟩:=f.2 e
  refine run_convert_bytes_arg (P:=prog) w 30 5 underlying30 underlying5 j k n c (mh xs) (by simpa[mh] using d) ?_ 9 underlying9;intro b g;have:=l b (.int .u8 (xs.getD b 0:Nat)) (dQ (by rw[d];exact g))
  have h:(mh xs).getD b 0=(xs.getD b 0:Int):=by
   unfold mh;have i:b<xs.length:=(by rw[d];exact g);rw[af,List.getElem?_map,ah i,af,ah i];rfl
  first
  | (rw[h];exact this)
  | (simpa[h] using this)
theorem j4(xs ys:PI)(B C:Nat)(a b:PK)(n m c d:Nat)(w:World)(f:Rd w B a n (bF xs))(g:Rd w C b m (bF ys))(i:By xs)(j:By ys):
 Calls prog 94 #[slice a n c,slice b m d] w λe k=>e=returned (bool (decide (xs=ys)))/\w=k:=by
 have k:=Cm f c;have l:=Cm g d;have o:=ae (Mo i j);clear f g i j;generalize strOfNums (mh xs)=p at*;generalize strOfNums (mh ys)=q at*;go_enter func94,ntmps94
 go_wp2_with (first | simp only[k] | simp only[l])
 go_ret;have e:(p.toList == q.toList)=decide (xs=ys):=by rw[Bool.eq_iff_iff,beq_iff_eq,decide_eq_true_iff];exact o.o
 exact⟨congrArg (λr=>Ending.returned (.bool r)) e,rfl⟩
def tmp(x:List PI)(v:Nat->Nat):Nat->Nat->Nat
 | 0=>vz
 | k+1=>jP (v k) (vO (x.getD k [])) (tmp x v k)
theorem Ep{n:Nat}{x:List PI}(a:Wf n x){v:Nat->Nat}(b:Vb v)(k:Nat)(d:k<=x.length):Spn (x.map vO) (tmp x v k):=by
 induction k with
 | zero=>exact .zero
 | succ k c=>exact Spn.ax a.vb (b k) (a.spn (by omega)) (c (by omega))
def oQ(w:Nat)(r:PI)(x:List PI):Nat->PI
 | 0=>replicate w 0
 | k+1=>lU (r.getD k 0) (x.getD k []) (oQ w r x k)
def je(a x:List PI):List PI:=a.map λb=>oQ (wid x) b x x.length
theorem yz{w:Nat}{r:PI}{x:List PI}(a:Wf w x)(k:Nat)(f:k<=x.length):(oQ w r x k).length=w/\(∀y∈oQ w r x k,y<256)/\vO (oQ w r x k)=tmp x (vO r) k:=by
 induction k with
 | zero=>
   refine⟨by simp[oQ],λy b=> ?_,?_⟩
   ·have:=eq_of_mem_replicate b
    omega
   ·exact Ef (n:=w) (by simp[oQ]) λd c=>by simp[oQ,c]
 | succ k b=>
   obtain⟨c,d,e⟩:=b (by omega);have g:=a.get (i:=k) (by omega);simp only[oQ,tmp];refine⟨by rw[gS (by omega)];exact c,pW d,?_⟩;rw[NT (by omega),e];rfl
theorem Er{w:Nat}{a x:List PI}(b:Wf w x)(c:x≠[]):Wf w (je a x):=by
 intro r d;obtain⟨e,_,rfl⟩:=aY.1 d;rw[lY b c];have:=yz (r:=e) b x.length (aj _);exact⟨this.1,this.2.1⟩
def dC(a b:List PI):List PI:=zipWith (·++ ·) a b
theorem eC{a b:List PI}(c:a.length=b.length):(dC a b).length=a.length:=by unfold dC;rw[length_zipWith];omega
theorem jq{a b:List PI}(d:a.length=b.length)(i:Nat):(dC a b).getD i []=a.getD i []++b.getD i []:=by
 unfold dC;simp only[af,List.getElem?_zipWith];rcases bq i a.length with c | c
 ·rw[ah c,ah (show i<b.length by omega)];rfl
 ·rw[List.getElem?_eq_none c,List.getElem?_eq_none (show b.length<=i by omega)];rfl
theorem tO{n k:Nat}{a b:List PI}(d:a.length=b.length)(g:Wf n a)(h:Wf k b):Wf (n+k) (dC a b):=by
 refine wQ λi e=> ?_;rw[eC d] at e;rw[jq d];have j:=g.get e;have l:=h.get (i:=i) (by omega);refine⟨by rw[aH];omega,λf c=> ?_⟩;rcases bz.1 c with c | c
 ·exact j.2 f c
 ·exact l.2 f c
theorem xU{n:Nat}{L:List PI}{i j:Nat}(a:j<n):gt (L.map (List.take n)) i j=gt L i j:=by
 unfold gt;simp only[af,List.getElem?_map];cases L[i]? with
 | none=>rfl
 | some b=>simp[a]
theorem getD_map{f:PI->PI}(a:f []=[])(L:List PI)(i:Nat):(L.map f).getD i []=f (L.getD i []):=by
 simp only[af,List.getElem?_map];cases L[i]? with
 | none=>exact a.symm
 | some b=>rfl
theorem LJ{a B:List PI}(c:a.length=B.length)(d:∀i,i<a.length->a.getD i []=B.getD i []):a=B:=by
 refine ext_getElem c λi b e=> ?_;have:=d i b;simpa[af,b,e] using this
theorem E5{n:Nat}{L:List PI}{col:Nat}(a:col<n):∀k i,lV (L.map (List.take n)) col i k=lV L col i k:=by
 intro k
 induction k with
 | zero=>intro i;rfl
 | succ k b=>intro i;simp only[lV];rw[xU a,b]
structure Ot (f:PI->PI):Prop where
 nil:f []=[]
 ax:∀c a b,f (lU c a b)=lU c (f a) (f b)
 sc:∀c a,f (kE c a)=kE c (f a)
theorem zA(n:Nat):Ot (List.take n):=⟨take_nil,λa b c=>by unfold lU;rw[take_zipWith],λa b=>by unfold kE;rw[map_take]⟩
theorem IK{f:PI->PI}(b:Ot f){L:List PI}{a col p:Nat}(c:a<L.length)(d:p<L.length)(i:Nat):
 f ((jc L a col p).getD i [])=if i=a then kE (fi (gt L p col)) ((L.map f).getD p []) else (L.map f).getD (sg a p i) []:=by
 rw[lW c d,getD_map b.nil,getD_map b.nil];split
 ·exact b.sc _ _
 ·rfl
theorem Bv{f:PI->PI}(b:Ot f){L:List PI}(a col k:Nat){i:Nat}(c:i<L.length):
 f ((dn L a col k).getD i [])=if i<k/\i≠a then lU (gt L i col) ((L.map f).getD a []) ((L.map f).getD i []) else (L.map f).getD i []:=by
 rw[iG a col k c,getD_map b.nil,getD_map b.nil];split
 ·exact b.ax _ _ _
 ·rfl
theorem E9{n:Nat}{L:List PI}{a col:Nat}(d:col<n):jD (L.map (List.take n)) a col=((jD L a col).1.map (List.take n),(jD L a col).2):=by
 unfold jD;rw[E5 d,aC];cases hf:lV L col a (L.length-a) with
 | none=>rfl
 | some c=>
   obtain⟨j,k,l,-⟩:=mO _ _ _ hf;have g:c<L.length:=(by omega);have h:a<L.length:=(by omega);simp only;congr 1;refine LJ (by simp[fN,fM]) λb f=> ?_;rw[fN,fM,aC] at f;have m:(L.map (List.take n)).length=L.length:=aC _
   have e:∀b,(jc (L.map (List.take n)) a col c).getD b []=((jc L a col c).getD b []).take n:=λb=>by
    rw[lW (by omega) (by omega),xU d,IK (zA n) h g]
   rw[getD_map take_nil,Bv (zA n) a col _ (by rw[fM];exact f),iG a col _ (by rw[fM];omega)]
   have i:gt (jc (L.map (List.take n)) a col c) b col=gt (jc L a col c) b col:=by
    conv=>lhs;unfold gt
    rw[e,<-getD_map take_nil];exact xU d
   rw[i,e,e,getD_map take_nil,getD_map take_nil]
theorem IL{n:Nat}{L:List PI}(col:Nat)(b:col<=n):dc (L.map (List.take n)) col=((dc L col).1.map (List.take n),(dc L col).2):=by
 induction col with
 | zero=>rfl
 | succ col a=>
   simp only[dc];rw[a (by omega)];exact E9 (by omega)
theorem Bw{n:Nat}{a b:List PI}(c:a.length=b.length)(e:Wf n a):(dC a b).map (List.take n)=a:=by
 refine LJ (by rw[aC,eC c]) λf d=> ?_;rw[aC,eC c] at d;rw[getD_map take_nil,jq c,take_append_of_le_length (by rw[(e.get d).1];exact aj _),aJ (by rw[(e.get d).1];exact aj _)]
theorem tP{n:Nat}{a b:List PI}(c:a.length=b.length)(d:Wf n a){col:Nat}(e:col<=n):(dc (dC a b) col).2=(dc a col).2/\(dc (dC a b) col).1.map (List.take n)=(dc a col).1:=by
 have:=IL (L:=dC a b) col e;rw[Bw c d] at this;rw[this];exact⟨rfl,rfl⟩
theorem tQ{n:Nat}{a:List PI}(b:Wf n a)(c:a≠[]):(dS a).length=(dc a n).2:=by
 obtain⟨e,d⟩:=iV b n;unfold dS;rw[lY b c,aG];have:=d.le;omega
theorem zB{n:Nat}{ls:PI}(c:ls.Pairwise (·< ·))(d:∀l∈ls,l<n)(i:ls.length=n):ls=range n:=by
 refine KD ls _ c (pairwise_lt_range) λb=>⟨λa=>bA.2 (d b a),λa=> ?_⟩;apply Classical.byContradiction;intro e;have f:(b :: ls).Nodup:=nodup_cons.2 ⟨e,qI c⟩
 have g:=f.length_le_of_subset (l₂:=range n) λh b=>by
  rcases mem_cons.1 b with b | b
  ·subst b;exact a
  ·exact bA.2 (d h b)
 simp at g;omega
theorem Fa(M:List (Nat->Nat)):∀(ls:PI) (u v:Nat->Nat),(∀l∈ls,u l=v l)->oD M ls u=oD M ls v:=by
 induction M with
 | nil=>intro ls u v _;rfl
 | cons e M b=>
   intro ls u v a;cases ls with
   | nil=>rfl
   | cons l ls=>simp only[oD];rw[b ls u v λc d=>a c (mem_cons_of_mem _ d),a l mem_cons_self]
theorem RedV.ext{M:List (Nat->Nat)}{ls:PI}(a:RedV M ls){u v:Nat->Nat}(b:Spn M u)(c:Spn M v)(d:∀l∈ls,u l=v l):u=v:=by
 rw[<-a.eq_lco b,<-a.eq_lco c];exact Fa M ls u v d
def rO(n i:Nat):PI:=(range n).map λa=>if a=i then 1 else 0
def ig(n:Nat)(x:List PI):List PI:=(range n).map λa=>rO n a++x.getD a []
theorem kD(n i:Nat):(rO n i).length=n:=by simp[rO]
theorem Fb{n i j:Nat}(a:j<n):(rO n i).getD j 0=if j=i then 1 else 0:=by simp[rO,a]
theorem Fc(n i:Nat):∀x∈rO n i,x<256:=by
 intro x a;simp only[rO,aY] at a;obtain⟨b,_,rfl⟩:=a;split <;> decide
theorem gh(n:Nat)(x:List PI):(ig n x).length=n:=by simp[ig]
theorem mJ{n:Nat}{x:List PI}{i:Nat}(a:i<n):(ig n x).getD i []=rO n i++x.getD i []:=by simp[ig,a]
theorem pO{n k:Nat}{x:List PI}(d:Wf k x)(f:x.length=n):Wf (n+k) (ig n x):=by
 refine wQ λi b=> ?_;rw[gh] at b;rw[mJ b];have e:=d.get (i:=i) (by omega);refine⟨by rw[aH,kD];omega,λc a=> ?_⟩;rcases bz.1 a with a | a
 ·exact Fc n i c a
 ·exact e.2 c a
theorem gU{n:Nat}{x:List PI}{i j:Nat}(b:i<n)(a:j<n):vO ((ig n x).getD i []) j=if j=i then 1 else 0:=by
 rw[mJ b];unfold vO;rw[af,List.getElem?_append_left (by rw[kD];exact a),<-af];exact Fb a
theorem rQ{n:Nat}{x:List PI}{i j:Nat}(a:i<n)(b:n<=j):vO ((ig n x).getD i []) j=vO (x.getD i []) (j-n):=by
 rw[mJ a];unfold vO;rw[af,List.getElem?_append_right (by rw[kD];exact b),kD,<-af]
theorem tT{M:List PI}{i:Nat}{r:Nat->Nat}(a:(M.map vO)[i]? =some r):i<M.length/\r=vO (M.getD i []):=by
 rw[List.getElem?_map] at a;rcases bq i M.length with b | b
 ·rw[ah b] at a
  refine⟨b,?_⟩;rw[af,ah b];simpa using a.symm
 ·rw[List.getElem?_eq_none b] at a;simp at a
theorem wO{n k:Nat}{x:List PI}(i:Wf k x)(j:x.length=n):RedV ((ig n x).map vO) (range n):=by
 have f:∀ {b c:Nat},(range n)[b]? =some c->c=b/\b<n:=λ{b c} d=>by
  have a:=(List.getElem?_eq_some_iff.1 d).1;rw[aZ] at a;rw[List.getElem?_range a] at d;exact⟨by simpa using d.symm,a⟩
 refine⟨by simp[gh],pairwise_lt_range,?_,?_,?_,(pO i j).vb⟩
 ·intro b h c d e
  obtain⟨rfl,a⟩:=f e;obtain⟨-,rfl⟩:=tT d;rw[gU a a,bg rfl]
 ·intro b l h c d e m
  obtain⟨rfl,a⟩:=f e;obtain⟨g,rfl⟩:=tT d;rw[gh] at g;rw[gU g a,bh λo=>m o.symm]
 ·intro b h c d e l g
  obtain⟨rfl,a⟩:=f e;obtain⟨-,rfl⟩:=tT d;rw[gU a (by omega),bh (by omega)]
theorem wP{n:Nat}{x:List PI}{v:Nat->Nat}(d:Vb v):∀(k j:Nat),k<=n->j<n->tmp (ig n x) v k j=if j<k then v j else 0:=by
 intro k
 induction k with
 | zero=>intro j _ _;rfl
 | succ k e=>
   intro j f a;simp only[tmp,jP];rw[e j (by omega) a,gU (by omega) a];by_cases b:j=k
   ·subst b;rw[bh (Nat.lt_irrefl _),bg rfl,bg (by omega),Nat.zero_xor,o6 _ (d j)]
   ·rw[bh b,bM,Nat.xor_zero]
    by_cases c:j<k
    ·rw[bg c,bg (by omega)]
    ·rw[bh c,bh (by omega)]
theorem Bx{n:Nat}{x:List PI}{v:Nat->Nat}:∀(k j:Nat),k<=n->n<=j->tmp (ig n x) v k j=tmp x v k (j-n):=by
 intro k
 induction k with
 | zero=>intro j _ _;rfl
 | succ k b=>
   intro j c a;simp only[tmp,jP];rw[b j (by omega) a,rQ (by omega) a]
theorem Fe{n k:Nat}{x:List PI}(b:Wf k x)(c:x.length=n){v:Nat->Nat}(a:Spn ((ig n x).map vO) v):v=tmp (ig n x) v n:=by
 have d:=pO b c;refine(wO b c).ext a (Ep d a.vb n (by rw[gh];exact aj _)) λe f=> ?_;have:=bA.1 f;rw[wP a.vb n e (aj _) this,bg this]
theorem mK{a b:PI}{n:Nat}(c:a.length=n)(j:Nat):vO (a++b) j=if j<n then vO a j else vO b (j-n):=by
 unfold vO;simp only[af];split
 ·rw[List.getElem?_append_left (by omega)]
 ·rw[List.getElem?_append_right (by omega),c]
theorem Ff{x:List PI}{u v:Nat->Nat}:∀k,(∀j,j<k->u j=v j)->tmp x u k=tmp x v k:=by
 intro k
 induction k with
 | zero=>intro _;rfl
 | succ k b=>intro a;simp only[tmp];rw[b λj c=>a j (by omega),a k (by omega)]
theorem D5{n k:Nat}{a x:List PI}(g:Wf n a)(c:Wf k x)(h:x.length=n)(j:x≠[]){i:Nat}(d:i<a.length):
 vO ((dC a (je a x)).getD i [])=tmp (ig n x) (vO (a.getD i [])) n:=by
 have e:=g.get d;have l:=gV e.2;have m:(je a x).length=a.length:=by simp[je]
 rw[jq m.symm]
 have o:(je a x).getD i []=oQ k (a.getD i []) x x.length:=by
  simp only[je,af,List.getElem?_map,ah d,Option.map_some,Option.getD_some];rw[lY c j]
 rw[o];funext f;rw[mK e.1];split
 ·rename_i b
  rw[wP l n f (aj _) b,bg b]
 ·rename_i b
  rw[Bx n f (aj _) (by omega),(yz (r:=a.getD i []) c x.length (aj _)).2.2,h]
theorem zC{n k:Nat}{a x:List PI}(g:Wf n a)(h:Wf k x)(m:x.length=n)(r:x≠[])(u:(dc a n).2=n):
 (∀i,n<=i->∀j,gt (dc (dC a (je a x)) n).1 i j=0)/\((dc (dC a (je a x)) n).1.take n).map (List.drop n)=x:=by
 have o:a.length=(je a x).length:=by simp[je]
 have v:=Er (a:=a) h r;have p:=tO o g v;have l:=pO h m;obtain⟨w,c⟩:=iV p n;have y:=qV p n;rw[(tP o g (aj n)).1,u] at c;generalize (dc (dC a (je a x)) n).1=d at*;have z:w=range n:=zB c.up c.lt c.cnt;subst z
 have A:∀ {e},Spn (d.map vO) e->Spn ((ig n x).map vO) e:=λ{e} f=>by
  refine lX p l (λi b=> ?_) ((y e).2 f);rw[eC o] at b;rw[D5 g h m r b];exact Ep l (gV (g.get b).2) n (by rw[gh];exact aj _)
 have s:∀i,i<d.length->vO (d.getD i [])=if i<n then vO ((ig n x).getD i []) else vz:=λi b=>by
  refine(wO h m).ext (A (c.wf.spn b)) ?_ λt B=> ?_
  ·split
   ·rename_i e;exact l.spn (by rw[gh];exact e)
   ·exact .zero
  ·have f:=bA.1 B
   have:=c.piv t t (by rw[List.getElem?_range f]) i b;refine Eq.trans this ?_;split
   ·rename_i q;subst q;rw[bg f,gU f f,bg rfl]
   ·rename_i q
    split
    ·rename_i e;rw[gU e f,bh λx=>q x.symm]
    ·rfl
 constructor
 ·intro i b j
  rcases bq i d.length with e | e
  ·have:=congrFun (s i e) j
   rw[bh (by omega)] at this;exact this
  ·exact uh e j
 ·have D:=c.le
  refine LJ (by rw[aC,aG];omega) λi b=> ?_;rw[aC,aG] at b;rw[getD_map drop_nil];have e:i<d.length:=(by omega);have q:(d.take n).getD i []=d.getD i []:=(by simp[show i<n by omega]);have f:=s i e;rw[bg (by omega)] at f;have C:=xV (c.wf.get e).1 (l.get (i:=i) (by rw[gh];omega)).1 f;rw[q,C,mJ (by omega),drop_left' (kD n i)]
theorem Bz{n k:Nat}{a c:List PI}(m:Wf n a)(v:Wf k c)(o:a.length=c.length)(J:0<n)(A:(dc a n).2=n)
 (B:∀i,n<=i->∀j,gt (dc (dC a c) n).1 i j=0):je a (((dc (dC a c) n).1.take n).map (List.drop n))=c/\Wf k (((dc (dC a c) n).1.take n).map (List.drop n))/\(((dc (dC a c) n).1.take n).map (List.drop n)).length=n:=by
 have q:=tO o m v;obtain⟨C,e⟩:=iV q n;have D:=qV q n;rw[(tP o m (aj n)).1,A] at e;generalize (dc (dC a c) n).1=p at*;have E:C=range n:=zB e.up e.lt e.cnt;subst E;have K:=e.le;obtain⟨d,r⟩:∃d,d=(p.take n).map (List.drop n):=⟨_,rfl⟩;rw[<-r];have f:d.length=n:=by rw[r,aC,aG];omega
 have w:∀i,i<n->d.getD i []=(p.getD i []).drop n:=λi b=>by
  rw[r,getD_map drop_nil];congr 1;simp[b]
 have l:Wf k d:=wQ λi b=>by
  rw[f] at b;have:=e.wf.get (i:=i) (by omega);rw[w i b];exact⟨by rw[length_drop];omega,λs g=>this.2 s (mem_of_mem_drop g)⟩
 have x:d≠[]:=λg=>by rw[g] at f;simp at f;omega
 refine⟨?_,l,f⟩;have t:=pO l f
 have F:∀i,i<n->p.getD i []=(ig n d).getD i []:=λi b=>by
  refine xV (e.wf.get (by omega)).1 (t.get (i:=i) (by rw[gh];exact b)).1 (funext λj=> ?_);rcases bq j n with h | h
  ·rw[gU b h]
   have:=e.piv j j (by rw[List.getElem?_range h]) i (by omega);refine Eq.trans this ?_;by_cases g:i=j
   ·rw[bg g,bg g.symm]
   ·rw[bh g,bh λs=>g s.symm]
  ·rw[rQ b h,w i b]
   unfold vO;simp only[af,List.getElem?_drop,show n+(j-n)=j by omega]
 have G:∀ {g},Spn ((dC a c).map vO) g->Spn ((ig n d).map vO) g:=λ{g} s=>by
  refine lX e.wf t (λi b=> ?_) ((D g).1 s);rcases bq i n with g | g
  ·rw[F i g];exact t.spn (by rw[gh];exact g)
  ·rw[show vO (p.getD i [])=vz from funext λj=>B i g j];exact .zero
 have y:(je a d).length=a.length:=by simp[je]
 have H:=Er (a:=a) l x;refine LJ (by omega) λi b=> ?_;rw[y] at b;refine xV (H.get (by omega)).1 (v.get (by omega)).1 (funext λj=> ?_);have s:=m.get b;have u:=Fe l f (G (q.spn (i:=i) (by rw[eC o];exact b)));rw[jq o] at u;have z:=D5 m l f x b;rw[jq y.symm] at z;have I:tmp (ig n d) (vO (a.getD i []++c.getD i [])) n=tmp (ig n d) (vO (a.getD i [])) n:=Ff n λj h=>by rw[mK s.1,bg h]
 rw[I,<-z] at u;have:=congrFun u (n+j);rw[mK s.1,mK s.1,bh (by omega),bh (by omega),show n+j-n=j by omega] at this;exact this.symm
theorem uD:5≠30:=by decide
structure MOwnV (w:World) (C:Nat) (v:Value) (M:List PI) (vs:List Value):Prop where
 hd:w.ownsRow C 30 1 v M.length vs
 row:∀(i:Nat) l,M[i]? =some l->∃u,vs[i]? =some u/\OwnB w C u l
 apart:∀(i j:Nat) u u',i≠j->vs[i]? =some u->vs[j]? =some u'->u.ownBlock=none\/u.ownBlock≠u'.ownBlock
def MOwn(w:World)(C:Nat)(v:Value)(M:List PI):Prop:=∃a,MOwnV w C v M a
theorem MOwnV.vlen{w:World}{C:Nat}{v:Value}{M:List PI}{vs:List Value}(a:MOwnV w C v M vs):vs.length=M.length:=by have:=a.hd.1;omega
theorem MOwnV.len{w:World}{C:Nat}{a:PK}{n c:Nat}{M:List PI}{vs:List Value}(e:MOwnV w C (slice a n c) M vs):M.length=n:=by
 rcases e.hd.2 with⟨b,f⟩ | ⟨g,h,i,b,_⟩
 ·injection b with _ d;omega
 ·injection b with _ d;exact d.symm
theorem MOwn.len{w:World}{C:Nat}{a:PK}{n c:Nat}{M:List PI}(b:MOwn w C (slice a n c) M):M.length=n:=by
 obtain⟨d,b⟩:=b;exact b.len
theorem MOwnV.of{w:World}{C:Nat}{v:Value}{M:List PI}{vs:List Value}(a:MOwnV w C v M vs){i:Nat}{u:Value}(b:vs[i]? =some u):OwnB w C u (M.getD i [])/\M[i]? =some (M.getD i []):=by
 have e:i<M.length:=by have:=(List.getElem?_eq_some_iff.1 b).1;rw[a.vlen] at this;exact this
 have c:M[i]? =some (M.getD i []):=by rw[af,ah e];rfl
 obtain⟨g,d,f⟩:=a.row i _ c;rw[b] at d;rw[Option.some.inj d];exact⟨f,c⟩
theorem MOwnV.hdrow{w:World}{C:Nat}{v:Value}{M:List PI}{vs:List Value}(a:MOwnV w C v M vs){i:Nat}{u:Value}(b:vs[i]? =some u):u.ownBlock=none\/u.ownBlock≠v.ownBlock:=
 own_ne (a.of b).1 a.hd uD
theorem MOwnV.form{w:World}{C:Nat}{v:Value}{M:List PI}{vs:List Value}(a:MOwnV w C v M vs)(b:0<M.length):∃g c,v=slice (some ⟨g,0,none⟩) M.length c/\C<=g/\g<w.heap.size:=a.hd.form b
theorem MOwn.form{w:World}{C:Nat}{a:PK}{n c:Nat}{M:List PI}(b:MOwn w C (slice a n c) M)(i:0<n):∃g,a=some ⟨g,0,none⟩/\C<=g/\g<w.heap.size:=by
 have j:=b.len;obtain⟨k,b⟩:=b;obtain⟨g,l,d,e,f⟩:=b.form (by omega);injection d with h;exact⟨g,h,e,f⟩
theorem OwnB.lt{w:World}{C:Nat}{u:Value}{l:PI}(a:OwnB w C u l):∀g,u.ownBlock=some g->C<=g/\g<w.heap.size:=World.ownsRow.lt a
theorem OwnB.kept{w w':World}{C:Nat}{u:Value}{l:PI}{r:Option Nat}(a:OwnB w C u l)(b:w.grownBy w' r)(c:u.ownBlock=none\/u.ownBlock≠r):OwnB w' C u l:=World.ownsRow.kept a b c
theorem MOwn.at{w:World}{C g n c:Nat}{M:List PI}(a:MOwn w C (slice (some ⟨g,0,none⟩) n c) M){i:Nat}(j:i<n):
 ∃a' c',w.cell? ⟨g,i,none⟩=some (slice a' (M.getD i []).length c')/\w.frozen? ⟨g,i,none⟩=false/\OwnB w C (slice a' (M.getD i []).length c') (M.getD i []):=by
 have d:=a.len;obtain⟨b,a⟩:=a;have k:i<b.length:=by rw[a.vlen,d];exact j
 have f:b[i]? =some b[i]:=ah k;obtain⟨e,_⟩:=a.of f;have h:w.cell? ⟨g,i,none⟩=some b[i]:=by rw[<-f];have:=a.hd;rw[d] at this;exact this.cellAt i (by omega)
 have l:=by have:=a.hd;rw[d] at this;exact this.frozenAt i
 obtain⟨a',c',m,_⟩:=e.rd;rw[m] at h e;exact⟨a',c',h,l,e⟩
theorem MOwnV.new{w w':World}{C:Nat}{v:Value}{M:List PI}{vs:List Value}(a:MOwnV w C v M vs)(b:Below w.heap.size w w'):MOwnV w' C v M vs:=
 ⟨fI a.hd b,λc d e=>by obtain⟨f,g,h⟩:=a.row c d e;exact⟨f,g,h.below b⟩,a.apart⟩
theorem MOwn.new{w w':World}{C:Nat}{v:Value}{M:List PI}(a:MOwn w C v M)(b:Below w.heap.size w w'):MOwn w' C v M:=by
 obtain⟨c,a⟩:=a;exact⟨c,a.new b⟩
theorem MOwn.drewN{w:World}{C:Nat}{v:Value}{M:List PI}(a:MOwn w C v M)(j:Nat):MOwn (w.drewN j) C v M:=a.new (below_drewN (az _ _) j)
theorem MOwn.base{w:World}{C b:Nat}{v:Value}{M:List PI}(a:MOwn w C v M)(c:b<=C):MOwn w b v M:=by
 obtain⟨d,a⟩:=a;exact⟨d,kI a.hd c,λe f g=>by obtain⟨h,i,j⟩:=a.row e f g;exact⟨h,i,j.base c⟩,a.apart⟩
theorem MOwn.nil(w:World)(C:Nat):MOwn w C (slice none 0 0) []:=⟨[],World.ownsRow_nil _ _ _ _,by simp,by simp⟩
theorem iw{α:Type}{l:List α}{i k:Nat}{x y:α}(a:(l.set i x)[k]? =some y):(k=i/\y=x/\i<l.length)\/(k≠i/\l[k]? =some y):=by
 rw[List.getElem?_set] at a;by_cases b:i=k
 ·subst b
  rw[bg rfl] at a;split at a
  ·rename_i c;exact .inl ⟨rfl,(Option.some.inj a).symm,c⟩
  ·cases a
 ·rw[bh b] at a
  exact .inr ⟨λc=>b c.symm,a⟩
theorem zS{α:Type}{l:List α}{i:Nat}{x:α}(a:i<l.length):(l.set i x)[i]? =some x:=by rw[List.getElem?_set,bg rfl,bg a]
theorem Ej{α:Type}{l:List α}{i k:Nat}{x:α}(a:k≠i):(l.set i x)[k]? =l[k]? :=by rw[List.getElem?_set,bh (λb=>a b.symm)]
theorem MOwn.swap{w:World}{C g n c:Nat}{M:List PI}(e:MOwn w C (slice (some ⟨g,0,none⟩) n c) M){i j:Nat}(v:i<n)(x:j<n){f h:Value}(y:w.cell? ⟨g,i,none⟩=some f)(z:w.cell? ⟨g,j,none⟩=some h):
 MOwn ((w.setCell ⟨g,i,none⟩ h).setCell ⟨g,j,none⟩ f) C (slice (some ⟨g,0,none⟩) n c) (swp M i j):=by
 have q:=e.len;obtain⟨k,e⟩:=e;have O:=e.vlen;have m:=e.hd;rw[q] at m;have o:k[i]? =some f:=by rw[<-m.cellAt i (by omega)];exact y
 have r:k[j]? =some h:=by rw[<-m.cellAt j (by omega)];exact z
 obtain⟨A,B⟩:=m.stored i h;obtain⟨D,E⟩:=A.stored j f;have s:∀(b:Nat) a,k[b]? =some a->a.ownBlock=none\/a.ownBlock≠some g:=λb a d=>by have:=e.hdrow d;simpa[Value.ownBlock] using this
 have F:∀(b:Nat) a,k[b]? =some a->OwnB ((w.setCell ⟨g,i,none⟩ h).setCell ⟨g,j,none⟩ f) C a (M.getD b []):=λb a d=>((e.of d).1.kept B (s b a d)).kept E (s b a d)
 have p:∀(b:Nat) a,((k.set i h).set j f)[b]? =some a->k[sg i j b]? =some a:=by
  intro b a d;unfold sg;rcases iw d with⟨rfl,rfl,_⟩ | ⟨G,H⟩
  ·by_cases l:b=i
   ·rw[bg l];subst l;rw[o] at r;rw[<-o]
   ·rw[bh l,bg rfl];exact o
  ·rcases iw H with⟨rfl,rfl,_⟩ | ⟨t,u⟩
   ·rw[bg rfl];exact r
   ·rw[bh t,bh G];exact u
 have I:(swp M i j).length=n:=by rw[pX];exact q
 refine⟨(k.set i h).set j f,by rw[I];exact D,λb P t=> ?_,λb J a u K d L=> ?_⟩
 ·have N:b<n:=by have:=(List.getElem?_eq_some_iff.1 t).1;omega
  have Q:sg i j b<n:=wR v x N;obtain⟨a,d⟩:∃a,((k.set i h).set j f)[b]? =some a:=⟨_,ah (by simp;omega)⟩;refine⟨a,d,?_⟩;have:=F _ a (p b a d);rw[<-sP (by omega) (by omega) b] at this;rw[af,t] at this;exact this
 ·refine e.apart _ _ a u (λl=>K ?_) (p b a d) (p J u L)
  have:=congrArg (sg i j) l
  rwa [IZ,IZ] at this
theorem MOwn.put{w0 w:World}{C g n c:Nat}{M:List PI}(a:MOwn w0 C (slice (some ⟨g,0,none⟩) n c) M)(m:Below w0.heap.size w0 w){i:Nat}(K:i<n){u:Value}{l:PI}(k:OwnB w w0.heap.size u l)(A:C<=w0.heap.size):
 MOwn (w.setCell ⟨g,i,none⟩ u) C (slice (some ⟨g,0,none⟩) n c) (M.set i l):=by
 have t:=a.len;obtain⟨o,a⟩:=a;have L:=a.vlen;have v:∀(b:Nat) f,o[b]? =some f->∀d,f.ownBlock=some d->d<w0.heap.size:=λb f h d m=>((a.of h).1.lt d m).2;replace a:=a.new m;have p:=a.hd;rw[t] at p;obtain⟨B,x⟩:=p.stored i u;have D:u.ownBlock=none\/u.ownBlock≠some g:=by have:=own_ne k p uD;simpa[Value.ownBlock] using this
 have E:∀(b:Nat) u,o[b]? =some u->u.ownBlock=none\/u.ownBlock≠some g:=λb u h=>by have:=a.hdrow h;simpa[Value.ownBlock] using this
 refine⟨o.set i u,by rw[length_set,t];exact B,λb F G=> ?_,λb H f I y J z=> ?_⟩
 ·rcases iw G with⟨rfl,rfl,j⟩ | ⟨q,h⟩
  ·exact⟨u,zS (by omega),(k.base A).kept x D⟩
  ·obtain⟨f,j,r⟩:=a.row b F h
   exact⟨f,by rw[Ej q];exact j,r.kept x (E b f j)⟩
 ·rcases iw J with⟨rfl,rfl,j⟩ | ⟨q,h⟩
  ·rcases iw z with⟨rfl,_,_⟩ | ⟨q,h⟩
   ·exact absurd rfl y
   ·cases e:f.ownBlock with
    | none=>exact .inl rfl
    | some d=>
      right;intro s;have:=v _ _ h d s.symm;have:=(k.lt d e).1;omega
  ·rcases iw z with⟨rfl,rfl,_⟩ | ⟨j,r⟩
   ·cases e:f.ownBlock with
    | none=>exact .inl rfl
    | some d=>
      right;intro s;have:=v _ _ h d e;have:=(k.lt d s.symm).1;omega
   ·exact a.apart b H f I y h r
theorem MOwn.wrote{w w':World}{C g n c:Nat}{M:List PI}(a:MOwn w C (slice (some ⟨g,0,none⟩) n c) M){i:Nat}(y:i<n){u:Value}{l:PI}(p:w.cell? ⟨g,i,none⟩=some u)(h:w.grownBy w' u.ownBlock)(q:OwnB w' C u l):
 MOwn w' C (slice (some ⟨g,0,none⟩) n c) (M.set i l):=by
 have j:=a.len;obtain⟨k,a⟩:=a;have z:=a.vlen;have d:=a.hd;rw[j] at d;have e:k[i]? =some u:=by rw[<-d.cellAt i (by omega)];exact p
 have r:(Value.slice (some ⟨g,0,none⟩) n c).ownBlock=none\/(Value.slice (some ⟨g,0,none⟩) n c).ownBlock≠u.ownBlock:=by
  right;rcases a.hdrow e with b | b
  ·rw[b];simp[Value.ownBlock]
  ·exact λf=>b f.symm
 refine⟨k,by rw[length_set,j];exact d.kept h r,λm s t=> ?_,a.apart⟩;rcases iw t with⟨rfl,rfl,f⟩ | ⟨b,v⟩
 ·exact⟨u,e,q⟩
 ·obtain⟨o,f,x⟩:=a.row m s v
  exact⟨o,f,x.kept h (a.apart m i o u b f e)⟩
theorem MOwnV.snoc{w w':World}{C D:Nat}{v r:Value}{M:List PI}{vs:List Value}{u:Value}{l:PI}(j:MOwnV w C v M vs)(s:∀(i:Nat) a,vs[i]? =some a->∀b,a.ownBlock=some b->b<D)(z:C<=D)(m:OwnB w D u l)
 (A:w'.ownsRow C 30 1 r (M.length+1) (vs++[u]))(t:w.grownBy w' v.ownBlock):MOwnV w' C r (M++[l]) (vs++[u]):=by
 have B:=j.vlen;have E:u.ownBlock=none\/u.ownBlock≠v.ownBlock:=own_ne m j.hd uD
 have n:∀(c:Nat) d,(vs++[u])[c]? =some d->(c<vs.length/\vs[c]? =some d)\/(c=vs.length/\d=u):=by
  intro c d a;rw[List.getElem?_append] at a;split at a
  ·rename_i g;exact .inl ⟨g,a⟩
  ·rename_i g
   have:c-vs.length=0:=by
    rcases Nat.eq_zero_or_pos (c-vs.length) with f | f
    ·exact f
    ·rw[List.getElem?_eq_none (by simp;omega)] at a;cases a
   rw[this] at a;exact .inr ⟨by omega,(Option.some.inj a).symm⟩
 refine⟨by rw[aH,length_singleton];exact A,λc x a=> ?_,λc o d p F G y=> ?_⟩
 ·rw[List.getElem?_append] at a
  split at a
  ·rename_i g
   obtain⟨d,h,k⟩:=j.row c x a;exact⟨d,by rw[List.getElem?_append_left (by omega)];exact h,k.kept t (j.hdrow h)⟩
  ·rename_i g
   have:c-M.length=0:=by
    rcases Nat.eq_zero_or_pos (c-M.length) with f | f
    ·exact f
    ·rw[List.getElem?_eq_none (by simp;omega)] at a;cases a
   rw[this] at a;obtain rfl:l=x:=(by simpa using a);exact⟨u,by rw[List.getElem?_append_right (by omega),B,this];rfl,(m.base z).kept t E⟩
 ·rcases n c d G with⟨g,f⟩ | ⟨g,rfl⟩
  ·rcases n o p y with⟨h,k⟩ | ⟨h,rfl⟩
   ·exact j.apart c o d p F f k
   ·cases e:d.ownBlock with
    | none=>exact .inl rfl
    | some b=>
      right;intro q;have:=s _ _ f b e;have:=(m.lt b q.symm).1;omega
  ·rcases n o p y with⟨h,k⟩ | ⟨h,rfl⟩
   ·cases e:d.ownBlock with
    | none=>exact .inl rfl
    | some b=>
      right;intro q;have:=s _ _ k b q.symm;have:=(m.lt b e).1;omega
   ·omega
theorem MOwn.take{w:World}{C g n c:Nat}{M:List PI}(a:MOwn w C (slice (some ⟨g,0,none⟩) n c) M){k:Nat}(o:k<=n):MOwn w C (slice (some ⟨g,0,none⟩) k c) (M.take k):=by
 have p:=a.len;obtain⟨q,a⟩:=a;have F:=a.vlen;have r:(M.take k).length=k:=by rw[aG];omega
 refine⟨q.take k,?_,λh s d=> ?_,λh t i u v e f=> ?_⟩
 ·rw[r]
  have m:=a.hd;rw[p] at m;refine⟨by rw[aG];omega,?_⟩;rcases m.2 with⟨b,_⟩ | ⟨x,G,y,b,j,l,H,z,A,B⟩
  ·simp at b
  ·injection b with D I E
   subst E;refine .inr ⟨x,c,y,by rw[D],j,l,by omega,z,A,?_⟩;rw[<-B,take_take,Nat.mul_one,Nat.mul_one,Nat.min_eq_left o]
 ·rw[List.getElem?_take] at d
  split at d
  ·rename_i b
   obtain⟨i,j,l⟩:=a.row h s d;exact⟨i,by rw[List.getElem?_take,bg b];exact j,l⟩
  ·cases d
 ·rw[List.getElem?_take] at e f
  split at e
  ·split at f
   ·exact a.apart h t i u v e f
   ·cases f
  ·cases e
def RdM(w:World)(B:Nat)(a:PK)(n:Nat)(M:List PI):Prop:=
 M.length=n/\∃e,Rd w B a n e/\∀(f:Nat) b,M[f]? =some b->∃d c,e[f]? =some (slice d b.length c)/\Rd w B d b.length (bF b)/\(d=none->c=0)/\b.length<=c/\c<=maxLen
theorem RdM.len{w:World}{B:Nat}{a:PK}{n:Nat}{M:List PI}(b:RdM w B a n M):M.length=n:=b.1
theorem RdM.keep{w w':World}{B:Nat}{a:PK}{n:Nat}{M:List PI}(c:RdM w B a n M)(b:∀p:Addr,p.block<B->w'.cell? p=w.cell? p):RdM w' B a n M:=by
 obtain⟨d,e,f,g⟩:=c;refine⟨d,e,f.keep b,λh i j=> ?_⟩;obtain⟨k,l,m,o,q⟩:=g h i j;exact⟨k,l,m,o.keep b,q⟩
theorem RdM.more{w:World}{B b:Nat}{a:PK}{n:Nat}{M:List PI}(d:RdM w B a n M)(c:B<=b):RdM w b a n M:=by
 obtain⟨e,f,g,h⟩:=d;refine⟨e,f,g.more c,λi j k=> ?_⟩;obtain⟨l,m,o,p,q⟩:=h i j k;exact⟨l,m,o,p.more c,q⟩
theorem RdM.below{w w':World}{B C:Nat}{a:PK}{n:Nat}{M:List PI}(b:RdM w B a n M)(c:Below C w w')(d:B<=C):RdM w' B a n M:=b.keep λ_ e=>c.cell (by omega)
theorem mW{M:List PI}{i:Nat}(a:i<M.length):M[i]? =some (M.getD i []):=by rw[af,ah a];rfl
theorem RdM.at{w:World}{B:Nat}{a:PK}{n:Nat}{M:List PI}(c:RdM w B a n M){i:Nat}(l:i<n):
 ∃b o a' c',a=some ⟨b,o,none⟩/\b<B/\w.cell? ⟨b,o+i,none⟩=some (slice a' (M.getD i []).length c')/\Rd w B a' (M.getD i []).length (bF (M.getD i []))/\(a'=none->c'=0)/\(M.getD i []).length<=c'/\c'<=maxLen:=by
 obtain⟨m,p,d,e⟩:=c;obtain⟨a',c',f,g,h⟩:=e i _ (mW (by omega));obtain⟨b,o,rfl,j,k⟩:=d.2 (by omega);exact⟨b,o,a',c',rfl,j,k i _ f,g,h⟩
theorem OwnB.caps{w:World}{C:Nat}{a:PK}{n c:Nat}{l:PI}(g:OwnB w C (slice a n c) l):(a=none->c=0)/\n<=c/\c<=maxLen:=by
 rcases g.2 with⟨b,_⟩ | ⟨k,m,o,b,_,_,h,i,_⟩
 ·injection b with d e f
  subst e f;exact⟨λ_=>rfl,aj _,bu _⟩
 ·injection b with d e f
  subst e f;exact⟨λj=>(by rw[j] at d;cases d),h,i⟩
theorem MOwn.rdM{w:World}{C:Nat}{a:PK}{n c:Nat}{M:List PI}(b:MOwn w C (slice a n c) M):RdM w w.heap.size a n M:=by
 have d:=b.len;obtain⟨g,b⟩:=b;have e:=b.hd;rw[d] at e;obtain⟨s,t,h,i,_⟩:=jM e;injection h with j u v;subst j;refine⟨d,g,i,λk l m=> ?_⟩;obtain⟨x,o,f⟩:=b.row k l m;obtain⟨p,q,rfl,r⟩:=f.rd;exact⟨p,q,o,r,f.caps⟩
theorem MOwn.caps{w:World}{C:Nat}{a:PK}{n c:Nat}{M:List PI}(b:MOwn w C (slice a n c) M):(a=none->c=0)/\n<=c/\c<=maxLen:=by
 have k:=b.len;obtain⟨l,b⟩:=b;rcases b.hd.2 with⟨d,_⟩ | ⟨m,o,p,d,_,_,h,i,_⟩
 ·injection d with e f g
  subst f g;exact⟨λ_=>rfl,aj _,bu _⟩
 ·injection d with e f g
  subst f g;exact⟨λj=>(by rw[j] at e;cases e),h,i⟩
theorem MOwn.val{w:World}{C:Nat}{v:Value}{M:List PI}(b:MOwn w C v M):∃a c,v=slice a M.length c:=by
 obtain⟨d,b⟩:=b;obtain⟨a,c,rfl,_⟩:=jM b.hd;exact⟨a,c,rfl⟩
def ww(a:PK)(n:Nat)(M:List PI):wH:=⟨λb=>RdM b b.heap.size a n M,λ_ _ c b=>(c.below b (aj _)).more b.size⟩
theorem MOwn.rdM2{w:World}{C:Nat}{v:Value}{M:List PI}{n:Nat}(b:MOwn w C v M)(d:M.length=n):∃a c,v=slice a n c/\(ww a n M).ok w/\(a=none->c=0)/\n<=c/\c<=maxLen:=by
 obtain⟨a,c,rfl⟩:=b.val;rw[d] at b ⊢;exact⟨a,c,rfl,b.rdM,b.caps⟩
