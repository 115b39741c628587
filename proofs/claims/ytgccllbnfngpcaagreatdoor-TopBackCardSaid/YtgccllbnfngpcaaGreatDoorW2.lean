import Derived.Test.YtgccllbnfngpcaaGreatDoorW1
import Derived.StillTailTactics
import Derived.Laws.CopyOwn
import Derived.Maps.AppendAt
import Derived.Laws.AppendOwnNone
set_option linter.unusedVariables false
set_option maxRecDepth 100000
set_option maxHeartbeats 400000000
namespace Go.Proofs.YtgccllbnfngpcaaGreatDoor
open Go.RowKit _root_.Go.Proofs.Tryz List
open Value (int slice pointer bool)
open IntKind (i64)
open Ending (returned)
open Obj (cells)
def bK(l:SC):List Value:=l.map λa:Nat=>Value.int .u8 a
def bO(l:SC):Array Value:=(bK l).toArray
theorem bL(l:SC):(bK l).length=l.length:=aG _
theorem jG(l:SC):∀u∈bK l,u.oneCell'=true:=by
 intro u a;obtain⟨b,_,rfl⟩:=aZ.1 a;rfl
theorem eP{l:SC}{i:Nat}(a:i<l.length):(bK l)[i]? =some (.int .u8 (l.getD i 0:Nat)):=by
 simp[bK,List.getElem?_map,ah a]
theorem kE(l:SC):(bO l).size=l.length:=by simp[bO,bK]
theorem Ct{l:SC}{i:Nat}(a:i<l.length):(bO l)[i]? =some (.int .u8 (l.getD i 0:Nat)):=by
 simp only[bO,List.getElem?_toArray];exact eP a
theorem mf(l:SC)(i x:Nat):(bO l).setIfInBounds i (.int .u8 (x:Nat))=bO (l.set i x):=by
 apply Array.ext';rw[Array.toList_setIfInBounds];simp[bO,bK]
def By(l:SC):Prop:=∀a∈l,a<256
theorem Cu(l:SC):bK l=(l.map λa:Nat=>(a:Int)).map (Value.int .u8):=by simp[bK]
def kU(R:SC)(k:Nat):SC:=R.take k++replicate (R.length-k) 0
theorem Jv{R:SC}{k:Nat}(a:k<=R.length):(kU R k).length=R.length:=by simp[kU];omega
theorem EW(R:SC):kU R 0=replicate R.length 0:=by simp[kU]
theorem EX(R:SC):kU R R.length=R:=by simp[kU]
theorem Jw{R:SC}{k:Nat}(a:k<R.length):(kU R k).set k (R.getD k 0)=kU R (k+1):=by
 unfold kU;rw[aO a,show R.length-k=(R.length-(k+1))+1 by omega,replicate_succ,set_append_right _ _ (by rw[aH];omega)];rw[aH,Nat.min_eq_left (by omega),Nat.sub_self,set_cons_zero,append_assoc,singleton_append,af,ah a];rfl
theorem Jy{R:SC}{k:Nat}(a:k<R.length):(kU R k).getD k 0=0:=by
 unfold kU;rw[af,List.getElem?_append_right (by rw[aH];omega),aH,Nat.min_eq_left (by omega),Nat.sub_self,List.getElem?_replicate,bu (by omega)];rfl
theorem Jz(n:Nat):madeCells #[Value.int .u8 0] n=bO (replicate n 0):=by
 apply Array.ext (by rw[size_madeCells,kE,aJ]);intro a b c;simp[madeCells,bO,bK,Nat.mod_one]
def OwnB(w:World)(C:Nat)(v:Value)(l:SC):Prop:=w.ownsRow C 5 1 v l.length (bK l)
theorem OwnB.nil(w:World)(C:Nat):OwnB w C (slice none 0 0) []:=World.ownsRow_nil _ _ _ _
theorem OwnB.base{w:World}{C a:Nat}{v:Value}{l:SC}(b:OwnB w C v l)(c:a<=C):OwnB w a v l:=lT b c
theorem OwnB.below{w w':World}{C:Nat}{v:Value}{l:SC}(a:OwnB w C v l)(b:Below w.heap.size w w'):OwnB w' C v l:=gQ a b
theorem OwnB.drewN{w:World}{C:Nat}{v:Value}{l:SC}(a:OwnB w C v l)(j:Nat):OwnB (w.drewN j) C v l:=a
theorem OwnB.rd{w:World}{C:Nat}{v:Value}{l:SC}(b:OwnB w C v l):∃a c,v=slice a l.length c/\Rd w w.heap.size a l.length (bK l):=oW b
theorem xD{w:World}{g C:Nat}{l:SC}(a:Blk w g 5 (bO l))(b:C<=g)(c:l.length<=1000000):OwnB w C (slice (some ⟨g,0,none⟩) l.length l.length) l:=
 ⟨by rw[bL];omega,.inr ⟨g,l.length,bO l,rfl,b,a,aj _,by unfold maxLen;omega,by rw[kE];omega,by rw[Nat.mul_one];exact aN (by rw[Array.length_toList,kE];exact aj _)⟩⟩
theorem Rd.atB{w:World}{B:Nat}{a:SE}{n:Nat}{l:SC}(c:Rd w B a n (bK l)){k:Nat}(g:k<n):∃b o,a=some ⟨b,o,none⟩/\b<B/\∀j,j<n->w.cell? ⟨b,o+j,none⟩=some (.int .u8 (l.getD j 0:Nat)):=by
 obtain⟨b,o,rfl,d,e⟩:=c.2 (by omega);have f:=c.len;rw[bL] at f;exact⟨b,o,rfl,d,λj h=>e j _ (eP (by omega))⟩
theorem jP:(prog.info? 5).map (λa=>(a.zero,a.size,a.bytes))=some (some (.int .u8 0),1,1):=by kernel_rfl
theorem eQ{n:Nat}(g:n<=1000000)(w:World):(Instr.makeSlice 30 (int i64 (n:Int)) (int i64 (n:Int))).run prog w=.ok (slice (some ⟨w.heap.size,0,none⟩) n n) (w.alloc (cells (bO (replicate n 0)) 5)):=by
 obtain⟨b,c,d,e,f⟩:=info_parts jP;have a:=run_make (P:=prog) w 30 5 b (.int .u8 0) underlying30 c d .i64 .i64 (n:Int) (n:Int) (by omega) (by omega) (by rw[f];omega) (by omega);rw[e,Nat.mul_one,Int.toNat_natCast] at a;rw[<-Jz];exact a
theorem Na(p:SE)(w:World)(a:Fp w p):
 Calls prog 376 #[.pointer p] w λb c=>∃g,b=returned (pointer (some ⟨g,0,none⟩))/\Fld c g/\Below w.heap.size w c:=by
 rcases a with rfl | ⟨g,rfl,a⟩
 ·go_enter func376,ntmps376
  go_wp2_with fail;refine(qU _).mono ?_;rintro b d ⟨g,rfl,e,a,c⟩;go_wp2_with fail;go_ret;exact⟨g,rfl,a,c⟩
 ·go_enter func376,ntmps376
  go_wp2_with fail;go_ret;exact⟨g,rfl,a,aC _ _⟩
theorem JA(p:SE)(c:Nat)(xs:SC)(a:SE)(n I:Nat)(w:World)(J:Fp w p)(K:c<256)(m:Rd w w.heap.size a n (bK xs))(o:By xs)(B:n<=1000000):
 Calls prog 334 #[.pointer p,.int .u8 c,slice a n I] w λq b=>∃v,q=returned v/\OwnB b w.heap.size v (lM c xs)/\Below w.heap.size w b:=by
 have d:=m.len;rw[bL] at d;have e:(lM c xs).length=n:=by rw[lM,aG];exact d
 have L:Sz (∀b,(lM c xs).getD b 0=fm c (xs.getD b 0)):=ae λb=>jZ c xs b;have t:=eQ B;have M:=ae m;have N:=ae o;have l:=ae e;clear m o d e;generalize lM c xs=e at*;go_enter func334,ntmps334;go_wp2_with fail;refine(Na p _ J).mono ?_;rintro q f ⟨r,rfl,g,j⟩;have u:=ae g;have O:=Blk.lt g
 go_wp2_with (simp only[])
 have s:w.heap.size<=f.heap.size:=j.size;have x:=Blk.new f 5 (bO (replicate n 0));have d:Sz (Blk (f.alloc (cells (bO (replicate n 0)) 5)) f.heap.size 5 (bO (kU e 0))):=ae (by rw[EW,l.o];exact x);have i:=ae (j.alloc s (cells (bO (replicate n 0)) 5));have k:=ae (u.o.below ((aC f.heap.size f).alloc (aj _) (cells (bO (replicate n 0)) 5)) O);clear x t g u j;generalize f.alloc (cells (bO (replicate n 0)) 5)=W at*;generalize g:w.heap.size=t at*;have u:=ae g;clear g;generalize f.heap.size=j at*;go_loopw [8,9,17] (λ_ _ g wr=>∃b:Nat,b<=n/\g=int i64 b/\Sz (Blk wr j 5 (bO (kU e b)))/\Sz (Fld wr r)/\Sz (Below t w wr)) (λ_ _ g _=>n-(intOf g).toNat)
 case atStart=>exact⟨0,by omega,rfl,d,k,i⟩
 case round=>
  clear d i k;obtain⟨b,X,rfl,d,k,i⟩:=hrel;by_cases x:b<n
  ·obtain⟨P,Q,rfl,o,D⟩:=M.o.atB x
   have R:=(i.o.cell (p:=⟨P,Q+b,none⟩) (by have:=u.o;omega)).trans (D b x);have S:=getD_lt N.o b;have A:=L.o b;have y:b<e.length:=(by rw[l.o];exact x);have g:=d.o.set b (.int .u8 (e.getD b 0:Nat));rw[mf,Jw y] at g;have z:=(d.o.cell b).trans (Ct (by rw[Jv (by omega)];exact y));rw[Jy y] at z;have E:=d.o.frozen b;rw[A] at g;generalize xs.getD b 0=F at*;have G:=ae (wJ r c F K S wr k.o);have H:=ae g;clear g A D;generalize fm c F=A at*;have Y:(b:Int)<(n:Int):=(by omega);go_wp2_with fail;refine G.o.mono ?_;rintro q Z ⟨rfl,g,rfl⟩;have aa:(wr.drewN g).cell? ⟨j,b,none⟩=some (.int .u8 0):=z;have ab:(wr.drewN g).frozen? ⟨j,b,none⟩=false:=E;have T:Sz (Blk ((wr.drewN g).setCell ⟨j,b,none⟩ (.int .u8 (A:Nat))) j 5 (bO (kU e (b+1)))):=ae H.o;have U:Sz (Below t w ((wr.drewN g).setCell ⟨j,b,none⟩ (.int .u8 (A:Nat)))):=ae ((below_drewN i.o g).setCell s _);have V:Sz (Fld ((wr.drewN g).setCell ⟨j,b,none⟩ (.int .u8 (A:Nat))) r):=ae (Blk.far (w:=wr.drewN g) k.o (by simp;omega) _);clear H i d R z E G k;generalize wr.drewN g=z at*;go_wp2_with fail;go_roundw
   case rel=>exact⟨b+1,by omega,by go_num,T,V,U⟩
   case measure=>simp[intOf];omega
  ·obtain rfl:b=n:=by omega
   have y:kU e b=e:=(by rw[<-l.o];exact EX e);rw[y] at d;have g:=xD d.o (C:=t) s (by rw[l.o];exact B);rw[l.o] at g;have z:=ae g;clear g y d;go_wp2_with fail;go_ret;exact⟨_,rfl,by rw[u.o];exact z.o,by rw[u.o];exact i.o⟩
theorem By.sc(c:Nat)(xs:SC):By (lM c xs):=by
 intro b a;obtain⟨d,_,rfl⟩:=aZ.1 a;exact jq _ _
theorem sK(c:Nat)(xs:SC):(lM c xs).length=xs.length:=aG _
def kT(r:SC):Nat:=r.findIdx (·!= 0)
def jo(r:SC):Int:=if kT r<r.length then (kT r:Int) else-1
theorem xy{r:SC}{j:Nat}(a:r.getD j 0≠0)(d:∀i,i<j->r.getD i 0=0):kT r=j/\j<r.length:=by
 have b:j<r.length:=by
  rcases bD j r.length with c | c
  ·exact c
  ·exact absurd (by rw[af,List.getElem?_eq_none c];rfl) a
 refine⟨?_,b⟩;unfold kT;rw[findIdx_eq b];refine⟨?_,λi e=> ?_⟩
 ·rw[af,ah b] at a
  simpa using a
 ·have:=d i e
  rw[af,ah (by omega)] at this;simpa using this
theorem Cn{r:SC}(b:kT r<r.length):r.getD (kT r) 0≠0/\∀i,i<kT r->r.getD i 0=0:=by
 constructor
 ·rw[af,ah b]
  have:=findIdx_getElem (p:=λa:Nat=>a != 0) (xs:=r) (w:=b);exact bne_iff_ne.1 this
 ·intro i c
  have d:i<r.length:=(by omega);have:=not_of_lt_findIdx (p:=λa:Nat=>a != 0) (xs:=r) c;rw[af,ah d];simpa using this
theorem EM{r:SC}(b:¬kT r<r.length)(i:Nat):r.getD i 0=0:=by
 rcases bD i r.length with a | a
 ·have:=not_of_lt_findIdx (p:=λc:Nat=>c != 0) (xs:=r) (i:=i) (by unfold kT at b;omega)
  rw[af,ah a];simpa using this
 ·rw[af,List.getElem?_eq_none a];rfl
theorem zb{r:SC}:jo r<0↔vO r=vz:=by
 unfold jo;constructor
 ·intro a
  split at a
  ·omega
  ·rename_i b;exact funext λc=>EM b c
 ·intro a
  split
  ·rename_i b;exact absurd (congrFun a _) (Cn b).1
  ·omega
def l7:List SC->SC->SC
 | [],v=>v
 | x :: R,v=>l7 R (nJ (v.getD (kT x) 0) x v)
theorem restR_wf{n:Nat}:∀ {R:List SC} {v:SC},Wf n R->v.length=n->(∀x∈v,x<256)->(l7 R v).length=n/\∀x∈l7 R v,x<256:=by
 intro R
 induction R with
 | nil=>intro v _ a b;exact⟨a,b⟩
 | cons x R d=>
   intro v c a b;have g:=c x mem_cons_self;exact d (λe f=>c e (mem_cons_of_mem _ f)) (by rw[iQ (by omega)];exact a) (rR b)
theorem Jr{n:Nat}:∀ {R:List SC} {v:SC},Wf n R->v.length=n->(∀x∈v,x<256)->∃u,Spn (R.map vO) u/\vO (l7 R v)=kW 1 u (vO v):=by
 intro R
 induction R with
 | nil=>
   intro v _ e a;exact⟨vz,.zero,funext λb=>by unfold kW vz;rw[bU,Nat.xor_zero];rfl⟩
 | cons x R h=>
   intro v f e a;have j:=f x mem_cons_self;obtain⟨u,c,i⟩:=h (v:=nJ (v.getD (kT x) 0) x v) (λg d=>f g (mem_cons_of_mem _ d)) (by rw[iQ (by omega)];exact e) (rR a);refine⟨kW (v.getD (kT x) 0) (vO x) u,?_,?_⟩
   ·exact .add _ _ _ (getD_lt a _) mem_cons_self (c.sub λg d=>mem_cons_of_mem _ d)
   ·simp only[l7]
    rw[i,QH (by omega)];funext b;unfold kW;rw[jL _ (c.vb b),jL _ (uy (c.vb b) (jq _ _)),Nat.xor_assoc,Nat.xor_comm (fm _ _)]
theorem EN{n:Nat}{z:Nat}:∀ {R:List SC} {v:SC},Wf n R->v.length=n->(∀r∈R,r.getD z 0=0)->(l7 R v).getD z 0=v.getD z 0:=by
 intro R
 induction R with
 | nil=>intro v _ _ _;rfl
 | cons b R e=>
   intro v c f d;have g:=c b mem_cons_self;simp only[l7];rw[e (λr a=>c r (mem_cons_of_mem _ a)) (by rw[iQ (by omega)];exact f) λr a=>d r (mem_cons_of_mem _ a),oM (by omega),d b mem_cons_self,bU,Nat.xor_zero]
theorem EO{n:Nat}:∀ {R:List SC} {ls:SC} {v:SC},Wf n R->v.length=n->(∀x∈v,x<256)->R.length=ls.length->(∀(i k:Nat) r l,R[k]? =some r->ls[i]? =some l->r.getD l 0=if k=i then 1 else 0)->
 (∀(i:Nat) r l,R[i]? =some r->ls[i]? =some l->kT r=l)->∀l∈ls,(l7 R v).getD l 0=0:=by
 intro R
 induction R with
 | nil=>intro ls v _ _ _ b _ _ l c;cases ls with
   | nil=>simp at c
   | cons a d=>simp at b
 | cons x R q=>
   intro ls v h s j b d m l c;have u:=h x mem_cons_self;cases ls with
   | nil=>simp at b
   | cons w ls=>
     have o:Wf n R:=λr a=>h r (mem_cons_of_mem _ a);have p:(nJ (v.getD (kT x) 0) x v).length=n:=(by rw[iQ (by omega)];exact s);simp only[l7];rcases mem_cons.1 c with e | e
     ·subst e
      rw[EN o p λr a=>by
       obtain⟨k,f⟩:=List.getElem?_of_mem a;have:=d 0 (k+1) r l (by simpa using f) rfl;simpa using this]
      have g:=m 0 x l rfl rfl;have t:=d 0 0 x l rfl rfl;rw[oM (by omega),g,t,bu rfl,qY _ (getD_lt j _),Nat.xor_self]
     ·refine q o p (rR j) (by simpa using b) (λi k r f a g=> ?_) (λi r f a g=>m (i+1) r f (by simpa using a) (by simpa using g)) l e
      have:=d (i+1) (k+1) r f (by simpa using a) (by simpa using g);simpa using this
theorem Red.lead{n:Nat}{R:List SC}{ls:SC}(a:Red n R ls){i l:Nat}{r:SC}(f:R[i]? =some r)(b:ls[i]? =some l):kT r=l/\l<r.length/\r.getD l 0=1:=by
 have c:(R.map vO)[i]? =some (vO r):=by rw[List.getElem?_map,f];rfl
 have d:r.getD l 0=1:=a.red.one i (vO r) l c b;have e:=xy (r:=r) (j:=l) (by rw[d];decide) λj g=>a.red.low i (vO r) l c b j g;exact⟨e.1,e.2,d⟩
theorem Red.rest_zero{n:Nat}{R:List SC}{ls:SC}(a:Red n R ls){v:SC}(i:v.length=n)(j:∀x∈v,x<256):∀l∈ls,(l7 R v).getD l 0=0:=by
 refine EO a.wf i j (by have:=a.red.len;rwa [aG] at this) (λg d b l e c=> ?_) λg b l e c=>(a.lead e c).1;have h:(R.map vO)[d]? =some (vO b):=by rw[List.getElem?_map,e];rfl
 split
 ·rename_i f;subst f;exact a.red.one d (vO b) l h c
 ·rename_i f;exact a.red.zero g d (vO b) l h c f
theorem Red.rest_spn{n:Nat}{R:List SC}{ls:SC}(a:Red n R ls){v:SC}(c:v.length=n)(d:∀x∈v,x<256):vO (l7 R v)=vz↔Spn (R.map vO) (vO v):=by
 obtain⟨h,b,e⟩:=Jr a.wf c d;constructor
 ·intro f
  have:vO v=h:=by
   rw[e] at f;funext g;have:=congrFun f g;unfold kW vz at this;rw[jL _ (b.vb g)] at this;exact sM this
  rw[this];exact b
 ·intro f
  have g:Spn (R.map vO) (vO (l7 R v)):=(by rw[e];exact Spn.ax a.wf.vb (by decide) b f);exact a.red.eq_zero g (a.rest_zero c d)
theorem Az{n:Nat}{b:List SC}{v:SC}(d:Wf n b)(e:v.length=n)(f:∀x∈v,x<256):Wf n (b++[v]):=by
 intro c a;rcases bF.1 a with a | a
 ·exact d c a
 ·obtain rfl:c=v:=by simpa using a
  exact⟨e,f⟩
theorem PH{n:Nat}{b:List SC}{v:SC}(d:Wf n b)(g:v.length=n)(h:∀x∈v,x<256)(f:Spn (b.map vO) (vO v)):SpEq (b++[v]) b:=by
 intro i;constructor
 ·intro c
  refine c.trans d.vb λe a=> ?_;rw[aU] at a;rcases bF.1 a with a | a
  ·exact Spn.mem d.vb a
  ·obtain rfl:e=vO v:=by simpa using a
   exact f
 ·exact λc=>c.sub λe a=>by rw[aU];exact mem_append_left _ a
theorem MN{n:Nat}{a:List SC}{v:SC}(b:Wf n a)(c:v.length=n)(d:∀x∈v,x<256):
 (eT a).length<=(eT (a++[v])).length/\((eT (a++[v])).length=(eT a).length↔vO (l7 (eT a) v)=vz):=by
 have e:=Az b c d;have g:∀f,Spn (a.map vO) f->Spn ((a++[v]).map vO) f:=λf h=>h.sub λh f=>by rw[aU];exact mem_append_left _ f
 obtain⟨j,h,i⟩:=gI b;refine⟨zN b e g,?_,?_⟩
 ·intro f
  have:=wH b e g (by omega);rw[h.rest_spn c d];exact(i _).1 ((this _).2 (Spn.mem e.vb (by rw[aU];exact mem_append_right _ (by simp))))
 ·intro f
  rw[h.rest_spn c d] at f;rw[OL e b (PH b c d ((i _).2 f))]
theorem By.zeros(n:Nat):By (replicate n 0):=λb a=>by rw[eq_of_mem_replicate a];decide
theorem sw{w:World}{g:Nat}{l:SC}(a:Blk w g 5 (bO l)):Rd w w.heap.size (some ⟨g,0,none⟩) l.length (bK l):=by
 refine⟨bL l,λ_=>⟨g,0,rfl,a.lt,λb d c=> ?_⟩⟩;rw[Nat.zero_add,a.cell b];simpa[bO] using c
theorem Mq{l:SC}{k:Nat}(a:∀i,i<k->l.getD i 0=0)(b:l.getD k 0≠0):jo l=(k:Int):=by
 obtain⟨c,d⟩:=xy b a;unfold jo;rw[c,bu d]
theorem EA{l:SC}(b:∀i,i<l.length->l.getD i 0=0):jo l= -1:=by
 unfold jo;split
 ·rename_i a
  exact absurd (b _ a) (Cn a).1
 ·rfl
theorem Pj(x:Nat)(w:World)(c:x<256):
 Calls prog 338 #[.int .u8 x] w λa b=>a=returned (bool (decide (x≠0)))/\w=b:=by
 go_enter func338,ntmps338;go_wp2_with fail;go_ret;exact⟨by congr 2;by_cases h:x=0 <;> simp[h],rfl⟩
theorem EB(xs:SC)(B:Nat)(a:SE)(n y:Nat)(w:World)(f:Rd w B a n (bK xs))(r:By xs)(z:n<=maxLen):
 Calls prog 337 #[slice a n y,.func (.func 338) #[] #[]] w λg b=>g=returned (int i64 (jo xs))/\∃j,b=w.drewN j:=by
 unfold maxLen at z;have A:Sz (xs.length=n):=ae (by have:=f.len;rwa [bL] at this);have C:=ae f;have D:=ae r;clear f r;go_enter func337,ntmps337;go_wp2_with fail;go_loopw [5,8] (λ_ c wr=>∃b:Nat,b<=n/\c=int i64 b/\Sz (∀c,c<b->xs.getD c 0=0)/\Sz (∃j,wr=w.drewN j)) (λ_ c _=>n-(intOf c).toNat)
 case atStart=>exact⟨0,by omega,rfl,ae λc h=>absurd h (by omega),ae ⟨0,rfl⟩⟩
 case round=>
  obtain⟨b,I,rfl,i,d⟩:=hrel;obtain⟨j,k⟩:=d.o;clear d;by_cases s:b<n
  ·obtain⟨E,F,rfl,_,t⟩:=C.o.atB s
   have G:wr.cell? ⟨E,F+b,none⟩=some (.int .u8 (xs.getD b 0:Nat)):=(by rw[k];exact t b s);have u:=getD_lt D.o b;clear t;generalize e:xs.getD b 0=m at G u;have v:=ae e;have o:=ae λw=>Pj m w u;have J:(b:Int)<(n:Int):=(by omega);have d:=ae k;clear k e;by_cases p:m=0
   ·subst p
    go_wp2_with fail;refine(o.o _).mono ?_;rintro g H ⟨rfl,rfl⟩;go_wp2_with fail;go_roundw
    case rel=>exact⟨b+1,by omega,by go_num,ae λc h=>by rcases bD c b with e | e;exact i.o c e;rw[show c=b by omega];exact v.o,ae ⟨j,d.o⟩⟩
    case measure=>simp[intOf];omega
   ·have x:decide (m≠0)=true:=bq p
    have e:=Mq i.o (by rw[v.o];exact p);have q:=ae e;rw[x] at o;clear e x;go_wp2_with fail;refine(o.o _).mono ?_;rintro g H ⟨rfl,rfl⟩;go_wp2_with fail;go_ret;exact⟨by rw[q.o];rfl,j,d.o⟩
  ·obtain rfl:b=n:=by omega
   have e:=EA (l:=xs) λc h=>i.o c (by rw[<-A.o];exact h);have q:=ae e;clear e;go_wp2_with fail;go_ret;exact⟨by rw[q.o];rfl,j,rfl⟩
theorem Mr(xs:SC)(B:Nat)(a:SE)(n b:Nat)(w:World)(c:Rd w B a n (bK xs))(d:By xs)(e:n<=maxLen):
 Calls prog 274 #[slice a n b] w λf g=>f=returned (int i64 (jo xs))/\∃j,g=w.drewN j:=by
 have g:=ae (EB xs B a n b w c d e);clear c d e;go_enter func274,ntmps274;go_wp2_with fail;refine g.o.mono ?_;rintro f i ⟨rfl,j,rfl⟩;go_wp2_with fail;go_ret;exact⟨rfl,j,rfl⟩
def eH(n k:Nat):SC:=(replicate n 0).set k 1
theorem iN(n k:Nat):(eH n k).length=n:=by simp[eH]
theorem pu(n k:Nat):By (eH n k):=by
 intro b c;rcases mem_or_eq_of_mem_set c with a | a
 ·exact By.zeros n b a
 ·subst a;decide
theorem oo(n k i:Nat):(eH n k).getD i 0=if i=k/\k<n then 1 else 0:=by
 unfold eH;rw[af,List.getElem?_set,aJ];by_cases b:k=i
 ·subst b
  rw[bu rfl];by_cases a:k<n
  ·rw[bu a,bu ⟨rfl,a⟩];rfl
  ·rw[bA a,bA (λb=>a b.2)];rfl
 ·rw[bA b,bA (λa=>b a.1.symm),List.getElem?_replicate]
  split <;> rfl
theorem QO(n a:Int)(w:World)(d:¬(1<=n/\n<=64/\0<=a/\a<n)):
 Calls prog 315 #[int i64 n,int i64 a] w λb c=>b=returned (slice none 0 0)/\w=c:=by
 go_enter func315,ntmps315;go_wp2_with fail
 all_goals first | omega | (go_ret;exact⟨rfl,rfl⟩) | skip
theorem Ms(n k:Nat)(w:World)(e:n<=64)(a:k<n):
 Calls prog 315 #[int i64 n,int i64 k] w λc b=>∃v,c=returned v/\OwnB b w.heap.size v (eH n k)/\Below w.heap.size w b:=by
 have c:=eQ (n:=n) (by omega);have f:¬(n:Int)<1:=by omega
 have g:¬(n:Int)>64:=by omega
 have i:¬(k:Int)<0:=by omega
 have j:(k:Int)<(n:Int):=by omega
 have m:(bO (replicate n 0))[k]? =some (.int .u8 0):=by
  rw[Ct (by rw[aJ];exact a),af,List.getElem?_replicate,bu a];rfl
 go_enter func315,ntmps315
 go_wp2_with (simp only[c])
 go_ret;have d:(bO (replicate n 0)).setIfInBounds k (.int .u8 1)=bO (eH n k):=mf _ _ 1;have b:=xD (l:=eH n k) (Blk.new w 5 (bO (eH n k))) (aj _) (by rw[iN];omega);rw[iN] at b;rw[d];exact⟨_,rfl,b,(aC _ _).alloc (aj _) _⟩
theorem MU{P:Program}(w:World){ops:Array Oper}{rest:List Oper}{o:Oper}{a:Act}{Q:Exit->Act->World->Prop}(p:o.guard=none)(s x:Operand)(t:TypeId)
 (q:o.op=.call { callee:=.builtin .append,args:=#[s,x],argTypes:=#[t,t] })
 (g:Nat)(e:TypeId)(z:Value)(j:Nat)(r:P.underlying t=some (.slice e))(D:(P.info? e).map (λb=>(b.zero,b.size,b.bytes))=some (some z,1,j))(E:z.cells.size=1)
 (v:Value)(n:Nat)(xs:List Value)(hs:a.eval s=v)(k:w.ownsRow g e 1 v n xs)
 (B:Nat)(ad:SE)(m c:Nat)(h:List Value)(y:a.eval x=slice ad m c)(F:ad=none->c=0)(i:Rd w B ad m h)(l:∀u∈h,u.oneCell'=true)
 (G:(n+m)*j<=140737488355328)(H:n+m<=maxLen)(I:g<=w.heap.size)
 (d:∀f w',w'.ownsRow g e 1 f (n+m) (xs++h)->w.grownBy w' v.ownBlock->(f.ownBlock=v.ownBlock\/f.ownBlock=some w.heap.size)->wpList P ops Q rest (a.put o.dst f) w'):wpList P ops Q (o :: rest) a w:=by
 obtain⟨b,A,J,K,L⟩:=info_parts D;cases ad with
 | none=>
   obtain rfl:=F rfl
   have C:m=0:=by
    rcases Nat.eq_zero_or_pos m with d | d
    ·exact d
    ·obtain⟨_,_,e,_⟩:=i.2 d;simp at e
   subst C;have M:h=[]:=eq_nil_of_length_eq_zero i.1;subst M;refine wpList_append_own_none p s x t q g e b 1 r A v n xs hs k y (d v w (by simpa using k) ⟨rfl,rfl,rfl,aj _,λ_ _ _=>rfl⟩ (.inl rfl))
 | some ad=>
   refine wpList_append_own_at w p s x t q g e b z 1 j r A J K L E (by decide) v n xs hs k ad m c h y (by rw[i.1];omega) ?_ l H G I λf w' l C _ M=>d f w' l C M;intro f u C
   have N:f<m:=by
    have:=(List.getElem?_eq_some_iff.1 C).1;rw[i.1] at this;exact this
   obtain⟨O,R,e,_,M⟩:=i.2 (by omega);obtain rfl:=Option.some.inj e;rw[Addr.add_lit];exact M f u C
theorem kD{P:Program}(w:World){ops:Array Oper}{rest:List Oper}{o:Oper}{a:Act}{Q:Exit->Act->World->Prop}(i:o.guard=none)(s x:Operand)(t:TypeId)
 (j:o.op=.call { callee:=.builtin .append,args:=#[s,x],argTypes:=#[t,t] })
 (d:Nat)(e:TypeId)(z:Value)(f:Nat)(k:P.underlying t=some (.slice e))(l:(P.info? e).map (λc=>(c.zero,c.size,c.bytes))=some (some z,1,f))(m:z.cells.size=1)
 (v:Value)(n:Nat)(xs:List Value)(hs:a.eval s=v)(p:w.ownsRow d e 1 v n xs)
 (g:Nat)(u:Value)(q:a.eval x=slice (some ⟨g,0,none⟩) 1 1)(r:w.cell? ⟨g,0,none⟩=some u)(h:u.oneCell'=true)
 (y:(n+1)*f<=140737488355328)(A:n+1<=maxLen)(B:d<=w.heap.size)
 (C:∀b w',w'.ownsRow d e 1 b (n+1) (xs++[u])->w.grownBy w' v.ownBlock->(b.ownBlock=v.ownBlock\/b.ownBlock=some w.heap.size)->wpList P ops Q rest (a.put o.dst b) w'):wpList P ops Q (o :: rest) a w:=by
 obtain⟨c,D,E,F,G⟩:=info_parts l;refine wpList_append_own_at w i s x t j d e c z 1 f k D E F G m (by decide) v n xs hs p ⟨g,0,none⟩ 1 1 [u] q rfl ?_ (by simpa using h) A y B λb w' h H _ I=>C b w' h H I;intro H I b
 match H,b with
 | 0,b=>simp at b;subst b;simpa[Addr.add] using r
theorem jF{w:World}{g e n:Nat}{v:Value}{xs:List Value}(f:w.ownsRow g e 1 v n xs):∃a c,v=slice a n c/\Rd w w.heap.size a n xs/\(a=none->c=0):=by
 obtain⟨a,c,b,h⟩:=oW f;refine⟨a,c,b,h,λi=> ?_⟩;subst i;rcases f.2 with⟨d,_⟩ | ⟨j,k,l,d,_⟩
 ·rw[d] at b;simp at b;exact b.2.symm
 ·rw[d] at b;simp at b
structure yA where
 ok:World->Prop
 stb:∀w w',ok w->Below w.heap.size w w'->ok w'
def mR(a:SE)(n:Nat)(l:List Value):yA:=⟨λb=>Rd b b.heap.size a n l,λ_ _ c b=>(c.below b (aj _)).more b.size⟩
def bY(g:Nat)(t:TypeId)(b:Array Value):yA:=⟨λa=>Blk a g t b,λ_ _ a c=>a.below c a.lt⟩
def eFp(p:SE):yA:=⟨λa=>Fp a p,λ_ _ a c=>by
 rcases a with a | ⟨d,e,b⟩
 ·exact .inl a
 ·exact .inr ⟨d,e,b.below c (Blk.lt b)⟩⟩
def Sx(w0 w:World)(L:List yA):Prop:=Below w0.heap.size w0 w/\∀a∈L,a.ok w
theorem Sx.nil(w:World):Sx w w []:=⟨aC _ _,by simp⟩
theorem Sx.step{w0 w w':World}{L:List yA}(a:Sx w0 w L)(b:Below w.heap.size w w'):Sx w0 w' L:=⟨a.1.trans (b.mono a.1.size),λc d=>c.stb _ _ (a.2 c d) b⟩
theorem Sx.alloc{w0 w:World}{L:List yA}(a:Sx w0 w L)(o:Obj):Sx w0 (w.alloc o) L:=a.step ((aC _ _).alloc (aj _) o)
theorem Sx.add{w0 w:World}{L:List yA}(b:Sx w0 w L)(e:yA)(c:e.ok w):Sx w0 w (e :: L):=⟨b.1,λd a=>by
 rcases mem_cons.1 a with rfl | a
 ·exact c
 ·exact b.2 d a⟩
theorem Sx.get{w0 w:World}{L:List yA}(a:Sx w0 w L)(i:Nat){e:yA}(b:L[i]? =some e):e.ok w:=a.2 e (mem_of_getElem? b)
theorem Sx.rd{w0 w:World}{L:List yA}(b:Sx w0 w L)(i:Nat){a:SE}{n:Nat}{l:List Value}(c:L[i]? =some (mR a n l)):Rd w w.heap.size a n l:=b.get i c
theorem Sx.fp{w0 w:World}{L:List yA}(a:Sx w0 w L)(i:Nat){p:SE}(b:L[i]? =some (eFp p)):Fp w p:=a.get i b
theorem Sx.blk{w0 w:World}{L:List yA}(b:Sx w0 w L)(i:Nat){g:Nat}{t:TypeId}{a:Array Value}(c:L[i]? =some (bY g t a)):Blk w g t a:=b.get i c
theorem OwnB.rd2{w:World}{C:Nat}{v:Value}{l:SC}{n:Nat}(b:OwnB w C v l)(d:l.length=n):∃a c,v=slice a n c/\(mR a n (bK l)).ok w/\(a=none->c=0):=by
 subst d;exact jF b
def tmp(x:List SC)(v:Nat->Nat):Nat->Nat->Nat
 | 0=>vz
 | k+1=>kW (v k) (vO (x.getD k [])) (tmp x v k)
theorem Gd{n:Nat}{x:List SC}(a:Wf n x){v:Nat->Nat}(b:Vb v)(k:Nat)(d:k<=x.length):Spn (x.map vO) (tmp x v k):=by
 induction k with
 | zero=>exact .zero
 | succ k c=>exact Spn.ax a.vb (b k) (a.spn (by omega)) (c (by omega))
def qO(w:Nat)(r:SC)(x:List SC):Nat->SC
 | 0=>replicate w 0
 | k+1=>nJ (r.getD k 0) (x.getD k []) (qO w r x k)
def jW(a x:List SC):List SC:=a.map λb=>qO (wid x) b x x.length
theorem Ab{w:Nat}{r:SC}{x:List SC}(a:Wf w x)(k:Nat)(f:k<=x.length):(qO w r x k).length=w/\(∀y∈qO w r x k,y<256)/\vO (qO w r x k)=tmp x (vO r) k:=by
 induction k with
 | zero=>
   refine⟨by simp[qO],λy b=> ?_,?_⟩
   ·have:=eq_of_mem_replicate b
    omega
   ·exact FZ (n:=w) (by simp[qO]) λd c=>by simp[qO,c]
 | succ k b=>
   obtain⟨c,d,e⟩:=b (by omega);have g:=a.get (i:=k) (by omega);simp only[qO,tmp];refine⟨by rw[iQ (by omega)];exact c,rR d,?_⟩;rw[QH (by omega),e];rfl
theorem Gf{w:Nat}{a x:List SC}(b:Wf w x)(c:x≠[]):Wf w (jW a x):=by
 intro r d;obtain⟨e,_,rfl⟩:=aZ.1 d;rw[nO b c];have:=Ab (r:=e) b x.length (aj _);exact⟨this.1,this.2.1⟩
def dQ(a b:List SC):List SC:=zipWith (·++ ·) a b
theorem fF{a b:List SC}(c:a.length=b.length):(dQ a b).length=a.length:=by unfold dQ;rw[length_zipWith];omega
theorem kw{a b:List SC}(d:a.length=b.length)(i:Nat):(dQ a b).getD i []=a.getD i []++b.getD i []:=by
 unfold dQ;simp only[af,List.getElem?_zipWith];rcases bD i a.length with c | c
 ·rw[ah c,ah (show i<b.length by omega)];rfl
 ·rw[List.getElem?_eq_none c,List.getElem?_eq_none (show b.length<=i by omega)];rfl
theorem vW{n k:Nat}{a b:List SC}(d:a.length=b.length)(g:Wf n a)(h:Wf k b):Wf (n+k) (dQ a b):=by
 refine yN λi e=> ?_;rw[fF d] at e;rw[kw d];have j:=g.get e;have l:=h.get (i:=i) (by omega);refine⟨by rw[aI];omega,λf c=> ?_⟩;rcases bF.1 c with c | c
 ·exact j.2 f c
 ·exact l.2 f c
theorem zI{n:Nat}{L:List SC}{i j:Nat}(a:j<n):gt (L.map (List.take n)) i j=gt L i j:=by
 unfold gt;simp only[af,List.getElem?_map];cases L[i]? with
 | none=>rfl
 | some b=>simp[a]
theorem getD_map{f:SC->SC}(a:f []=[])(L:List SC)(i:Nat):(L.map f).getD i []=f (L.getD i []):=by
 simp only[af,List.getElem?_map];cases L[i]? with
 | none=>exact a.symm
 | some b=>rfl
theorem OH{a B:List SC}(c:a.length=B.length)(d:∀i,i<a.length->a.getD i []=B.getD i []):a=B:=by
 refine ext_getElem c λi b e=> ?_;have:=d i b;simpa[af,b,e] using this
theorem Hm{n:Nat}{L:List SC}{col:Nat}(a:col<n):∀k i,nK (L.map (List.take n)) col i k=nK L col i k:=by
 intro k
 induction k with
 | zero=>intro i;rfl
 | succ k b=>intro i;simp only[nK];rw[zI a,b]
structure Q8 (f:SC->SC):Prop where
 nil:f []=[]
 ax:∀c a b,f (nJ c a b)=nJ c (f a) (f b)
 sc:∀c a,f (lM c a)=lM c (f a)
theorem Bh(n:Nat):Q8 (List.take n):=⟨take_nil,λa b c=>by unfold nJ;rw[take_zipWith],λa b=>by unfold lM;rw[map_take]⟩
theorem KW{f:SC->SC}(b:Q8 f){L:List SC}{a col p:Nat}(c:a<L.length)(d:p<L.length)(i:Nat):
 f ((jU L a col p).getD i [])=if i=a then lM (fi (gt L p col)) ((L.map f).getD p []) else (L.map f).getD (sg a p i) []:=by
 rw[nM c d,getD_map b.nil,getD_map b.nil];split
 ·exact b.sc _ _
 ·rfl
theorem DU{f:SC->SC}(b:Q8 f){L:List SC}(a col k:Nat){i:Nat}(c:i<L.length):
 f ((dN L a col k).getD i [])=if i<k/\i≠a then nJ (gt L i col) ((L.map f).getD a []) ((L.map f).getD i []) else (L.map f).getD i []:=by
 rw[jA a col k c,getD_map b.nil,getD_map b.nil];split
 ·exact b.ax _ _ _
 ·rfl
theorem Ho{n:Nat}{L:List SC}{a col:Nat}(d:col<n):kL (L.map (List.take n)) a col=((kL L a col).1.map (List.take n),(kL L a col).2):=by
 unfold kL;rw[Hm d,aG];cases hf:nK L col a (L.length-a) with
 | none=>rfl
 | some c=>
   obtain⟨j,k,l,-⟩:=oN _ _ _ hf;have g:c<L.length:=(by omega);have h:a<L.length:=(by omega);simp only;congr 1;refine OH (by simp[gX,gW]) λb f=> ?_;rw[gX,gW,aG] at f;have m:(L.map (List.take n)).length=L.length:=aG _
   have e:∀b,(jU (L.map (List.take n)) a col c).getD b []=((jU L a col c).getD b []).take n:=λb=>by
    rw[nM (by omega) (by omega),zI d,KW (Bh n) h g]
   rw[getD_map take_nil,DU (Bh n) a col _ (by rw[gW];exact f),jA a col _ (by rw[gW];omega)]
   have i:gt (jU (L.map (List.take n)) a col c) b col=gt (jU L a col c) b col:=by
    conv=>lhs;unfold gt
    rw[e,<-getD_map take_nil];exact zI d
   rw[i,e,e,getD_map take_nil,getD_map take_nil]
theorem KX{n:Nat}{L:List SC}(col:Nat)(b:col<=n):dI (L.map (List.take n)) col=((dI L col).1.map (List.take n),(dI L col).2):=by
 induction col with
 | zero=>rfl
 | succ col a=>
   simp only[dI];rw[a (by omega)];exact Ho (by omega)
theorem DV{n:Nat}{a b:List SC}(c:a.length=b.length)(e:Wf n a):(dQ a b).map (List.take n)=a:=by
 refine OH (by rw[aG,fF c]) λf d=> ?_;rw[aG,fF c] at d;rw[getD_map take_nil,kw c,take_append_of_le_length (by rw[(e.get d).1];exact aj _),aN (by rw[(e.get d).1];exact aj _)]
theorem vX{n:Nat}{a b:List SC}(c:a.length=b.length)(d:Wf n a){col:Nat}(e:col<=n):(dI (dQ a b) col).2=(dI a col).2/\(dI (dQ a b) col).1.map (List.take n)=(dI a col).1:=by
 have:=KX (L:=dQ a b) col e;rw[DV c d] at this;rw[this];exact⟨rfl,rfl⟩
theorem vY{n:Nat}{a:List SC}(b:Wf n a)(c:a≠[]):(eT a).length=(dI a n).2:=by
 obtain⟨e,d⟩:=jN b n;unfold eT;rw[nO b c,aH];have:=d.le;omega
theorem Bi{n:Nat}{ls:SC}(c:ls.Pairwise (·< ·))(d:∀l∈ls,l<n)(i:ls.length=n):ls=range n:=by
 refine Nw ls _ c (pairwise_lt_range) λb=>⟨λa=>bG.2 (d b a),λa=> ?_⟩;apply Classical.byContradiction;intro e;have f:(b :: ls).Nodup:=nodup_cons.2 ⟨e,sO c⟩
 have g:=f.length_le_of_subset (l₂:=range n) λh b=>by
  rcases mem_cons.1 b with b | b
  ·subst b;exact a
  ·exact bG.2 (d h b)
 simp at g;omega
theorem Hq(M:List (Nat->Nat)):∀(ls:SC) (u v:Nat->Nat),(∀l∈ls,u l=v l)->qA M ls u=qA M ls v:=by
 induction M with
 | nil=>intro ls u v _;rfl
 | cons e M b=>
   intro ls u v a;cases ls with
   | nil=>rfl
   | cons l ls=>simp only[qA];rw[b ls u v λc d=>a c (mem_cons_of_mem _ d),a l mem_cons_self]
theorem RedV.ext{M:List (Nat->Nat)}{ls:SC}(a:RedV M ls){u v:Nat->Nat}(b:Spn M u)(c:Spn M v)(d:∀l∈ls,u l=v l):u=v:=by
 rw[<-a.eq_lco b,<-a.eq_lco c];exact Hq M ls u v d
def uE(n i:Nat):SC:=(range n).map λa=>if a=i then 1 else 0
def jd(n:Nat)(x:List SC):List SC:=(range n).map λa=>uE n a++x.getD a []
theorem lL(n i:Nat):(uE n i).length=n:=by simp[uE]
theorem Hr{n i j:Nat}(a:j<n):(uE n i).getD j 0=if j=i then 1 else 0:=by simp[uE,a]
theorem Ht(n i:Nat):∀x∈uE n i,x<256:=by
 intro x a;simp only[uE,aZ] at a;obtain⟨b,_,rfl⟩:=a;split <;> decide
theorem iy(n:Nat)(x:List SC):(jd n x).length=n:=by simp[jd]
theorem oH{n:Nat}{x:List SC}{i:Nat}(a:i<n):(jd n x).getD i []=uE n i++x.getD i []:=by simp[jd,a]
theorem rG{n k:Nat}{x:List SC}(d:Wf k x)(f:x.length=n):Wf (n+k) (jd n x):=by
 refine yN λi b=> ?_;rw[iy] at b;rw[oH b];have e:=d.get (i:=i) (by omega);refine⟨by rw[aI,lL];omega,λc a=> ?_⟩;rcases bF.1 a with a | a
 ·exact Ht n i c a
 ·exact e.2 c a
theorem iR{n:Nat}{x:List SC}{i j:Nat}(b:i<n)(a:j<n):vO ((jd n x).getD i []) j=if j=i then 1 else 0:=by
 rw[oH b];unfold vO;rw[af,List.getElem?_append_left (by rw[lL];exact a),<-af];exact Hr a
theorem uF{n:Nat}{x:List SC}{i j:Nat}(a:i<n)(b:n<=j):vO ((jd n x).getD i []) j=vO (x.getD i []) (j-n):=by
 rw[oH a];unfold vO;rw[af,List.getElem?_append_right (by rw[lL];exact b),lL,<-af]
theorem vZ{M:List SC}{i:Nat}{r:Nat->Nat}(a:(M.map vO)[i]? =some r):i<M.length/\r=vO (M.getD i []):=by
 rw[List.getElem?_map] at a;rcases bD i M.length with b | b
 ·rw[ah b] at a
  refine⟨b,?_⟩;rw[af,ah b];simpa using a.symm
 ·rw[List.getElem?_eq_none b] at a;simp at a
theorem yJ{n k:Nat}{x:List SC}(i:Wf k x)(j:x.length=n):RedV ((jd n x).map vO) (range n):=by
 have f:∀ {b c:Nat},(range n)[b]? =some c->c=b/\b<n:=λ{b c} d=>by
  have a:=(List.getElem?_eq_some_iff.1 d).1;rw[bg] at a;rw[List.getElem?_range a] at d;exact⟨by simpa using d.symm,a⟩
 refine⟨by simp[iy],pairwise_lt_range,?_,?_,?_,(rG i j).vb⟩
 ·intro b h c d e
  obtain⟨rfl,a⟩:=f e;obtain⟨-,rfl⟩:=vZ d;rw[iR a a,bu rfl]
 ·intro b l h c d e m
  obtain⟨rfl,a⟩:=f e;obtain⟨g,rfl⟩:=vZ d;rw[iy] at g;rw[iR g a,bA λo=>m o.symm]
 ·intro b h c d e l g
  obtain⟨rfl,a⟩:=f e;obtain⟨-,rfl⟩:=vZ d;rw[iR a (by omega),bA (by omega)]
theorem yK{n:Nat}{x:List SC}{v:Nat->Nat}(d:Vb v):∀(k j:Nat),k<=n->j<n->tmp (jd n x) v k j=if j<k then v j else 0:=by
 intro k
 induction k with
 | zero=>intro j _ _;rfl
 | succ k e=>
   intro j f a;simp only[tmp,kW];rw[e j (by omega) a,iR (by omega) a];by_cases b:j=k
   ·subst b;rw[bA (Nat.lt_irrefl _),bu rfl,bu (by omega),Nat.zero_xor,qY _ (d j)]
   ·rw[bA b,bU,Nat.xor_zero]
    by_cases c:j<k
    ·rw[bu c,bu (by omega)]
    ·rw[bA c,bA (by omega)]
theorem DW{n:Nat}{x:List SC}{v:Nat->Nat}:∀(k j:Nat),k<=n->n<=j->tmp (jd n x) v k j=tmp x v k (j-n):=by
 intro k
 induction k with
 | zero=>intro j _ _;rfl
 | succ k b=>
   intro j c a;simp only[tmp,kW];rw[b j (by omega) a,uF (by omega) a]
theorem Hu{n k:Nat}{x:List SC}(b:Wf k x)(c:x.length=n){v:Nat->Nat}(a:Spn ((jd n x).map vO) v):v=tmp (jd n x) v n:=by
 have d:=rG b c;refine(yJ b c).ext a (Gd d a.vb n (by rw[iy];exact aj _)) λe f=> ?_;have:=bG.1 f;rw[yK a.vb n e (aj _) this,bu this]
theorem oI{a b:SC}{n:Nat}(c:a.length=n)(j:Nat):vO (a++b) j=if j<n then vO a j else vO b (j-n):=by
 unfold vO;simp only[af];split
 ·rw[List.getElem?_append_left (by omega)]
 ·rw[List.getElem?_append_right (by omega),c]
theorem Hw{x:List SC}{u v:Nat->Nat}:∀k,(∀j,j<k->u j=v j)->tmp x u k=tmp x v k:=by
 intro k
 induction k with
 | zero=>intro _;rfl
 | succ k b=>intro a;simp only[tmp];rw[b λj c=>a j (by omega),a k (by omega)]
theorem FV{n k:Nat}{a x:List SC}(g:Wf n a)(c:Wf k x)(h:x.length=n)(j:x≠[]){i:Nat}(d:i<a.length):
 vO ((dQ a (jW a x)).getD i [])=tmp (jd n x) (vO (a.getD i [])) n:=by
 have e:=g.get d;have l:=iT e.2;have m:(jW a x).length=a.length:=by simp[jW]
 rw[kw m.symm]
 have o:(jW a x).getD i []=qO k (a.getD i []) x x.length:=by
  simp only[jW,af,List.getElem?_map,ah d,Option.map_some,Option.getD_some];rw[nO c j]
 rw[o];funext f;rw[oI e.1];split
 ·rename_i b
  rw[yK l n f (aj _) b,bu b]
 ·rename_i b
  rw[DW n f (aj _) (by omega),(Ab (r:=a.getD i []) c x.length (aj _)).2.2,h]
theorem Bj{n k:Nat}{a x:List SC}(g:Wf n a)(h:Wf k x)(m:x.length=n)(r:x≠[])(u:(dI a n).2=n):
 (∀i,n<=i->∀j,gt (dI (dQ a (jW a x)) n).1 i j=0)/\((dI (dQ a (jW a x)) n).1.take n).map (List.drop n)=x:=by
 have o:a.length=(jW a x).length:=by simp[jW]
 have v:=Gf (a:=a) h r;have p:=vW o g v;have l:=rG h m;obtain⟨w,c⟩:=jN p n;have y:=tJ p n;rw[(vX o g (aj n)).1,u] at c;generalize (dI (dQ a (jW a x)) n).1=d at*;have z:w=range n:=Bi c.up c.lt c.cnt;subst z
 have A:∀ {e},Spn (d.map vO) e->Spn ((jd n x).map vO) e:=λ{e} f=>by
  refine nN p l (λi b=> ?_) ((y e).2 f);rw[fF o] at b;rw[FV g h m r b];exact Gd l (iT (g.get b).2) n (by rw[iy];exact aj _)
 have s:∀i,i<d.length->vO (d.getD i [])=if i<n then vO ((jd n x).getD i []) else vz:=λi b=>by
  refine(yJ h m).ext (A (c.wf.spn b)) ?_ λt B=> ?_
  ·split
   ·rename_i e;exact l.spn (by rw[iy];exact e)
   ·exact .zero
  ·have f:=bG.1 B
   have:=c.piv t t (by rw[List.getElem?_range f]) i b;refine Eq.trans this ?_;split
   ·rename_i q;subst q;rw[bu f,iR f f,bu rfl]
   ·rename_i q
    split
    ·rename_i e;rw[iR e f,bA λx=>q x.symm]
    ·rfl
 constructor
 ·intro i b j
  rcases bD i d.length with e | e
  ·have:=congrFun (s i e) j
   rw[bA (by omega)] at this;exact this
  ·exact wG e j
 ·have D:=c.le
  refine OH (by rw[aG,aH];omega) λi b=> ?_;rw[aG,aH] at b;rw[getD_map drop_nil];have e:i<d.length:=(by omega);have q:(d.take n).getD i []=d.getD i []:=(by simp[show i<n by omega]);have f:=s i e;rw[bu (by omega)] at f;have C:=zL (c.wf.get e).1 (l.get (i:=i) (by rw[iy];omega)).1 f;rw[q,C,oH (by omega),drop_left' (lL n i)]
theorem DX{n k:Nat}{a c:List SC}(m:Wf n a)(v:Wf k c)(o:a.length=c.length)(J:0<n)(A:(dI a n).2=n)
 (B:∀i,n<=i->∀j,gt (dI (dQ a c) n).1 i j=0):jW a (((dI (dQ a c) n).1.take n).map (List.drop n))=c/\Wf k (((dI (dQ a c) n).1.take n).map (List.drop n))/\(((dI (dQ a c) n).1.take n).map (List.drop n)).length=n:=by
 have q:=vW o m v;obtain⟨C,e⟩:=jN q n;have D:=tJ q n;rw[(vX o m (aj n)).1,A] at e;generalize (dI (dQ a c) n).1=p at*;have E:C=range n:=Bi e.up e.lt e.cnt;subst E;have K:=e.le;obtain⟨d,r⟩:∃d,d=(p.take n).map (List.drop n):=⟨_,rfl⟩;rw[<-r];have f:d.length=n:=by rw[r,aG,aH];omega
 have w:∀i,i<n->d.getD i []=(p.getD i []).drop n:=λi b=>by
  rw[r,getD_map drop_nil];congr 1;simp[b]
 have l:Wf k d:=yN λi b=>by
  rw[f] at b;have:=e.wf.get (i:=i) (by omega);rw[w i b];exact⟨by rw[length_drop];omega,λs g=>this.2 s (mem_of_mem_drop g)⟩
 have x:d≠[]:=λg=>by rw[g] at f;simp at f;omega
 refine⟨?_,l,f⟩;have t:=rG l f
 have F:∀i,i<n->p.getD i []=(jd n d).getD i []:=λi b=>by
  refine zL (e.wf.get (by omega)).1 (t.get (i:=i) (by rw[iy];exact b)).1 (funext λj=> ?_);rcases bD j n with h | h
  ·rw[iR b h]
   have:=e.piv j j (by rw[List.getElem?_range h]) i (by omega);refine Eq.trans this ?_;by_cases g:i=j
   ·rw[bu g,bu g.symm]
   ·rw[bA g,bA λs=>g s.symm]
  ·rw[uF b h,w i b]
   unfold vO;simp only[af,List.getElem?_drop,show n+(j-n)=j by omega]
 have G:∀ {g},Spn ((dQ a c).map vO) g->Spn ((jd n d).map vO) g:=λ{g} s=>by
  refine nN e.wf t (λi b=> ?_) ((D g).1 s);rcases bD i n with g | g
  ·rw[F i g];exact t.spn (by rw[iy];exact g)
  ·rw[show vO (p.getD i [])=vz from funext λj=>B i g j];exact .zero
 have y:(jW a d).length=a.length:=by simp[jW]
 have H:=Gf (a:=a) l x;refine OH (by omega) λi b=> ?_;rw[y] at b;refine zL (H.get (by omega)).1 (v.get (by omega)).1 (funext λj=> ?_);have s:=m.get b;have u:=Hu l f (G (q.spn (i:=i) (by rw[fF o];exact b)));rw[kw o] at u;have z:=FV m l f x b;rw[kw y.symm] at z;have I:tmp (jd n d) (vO (a.getD i []++c.getD i [])) n=tmp (jd n d) (vO (a.getD i [])) n:=Hw n λj h=>by rw[oI s.1,bu h]
 rw[I,<-z] at u;have:=congrFun u (n+j);rw[oI s.1,oI s.1,bA (by omega),bA (by omega),show n+j-n=j by omega] at this;exact this.symm
theorem wO:5≠30:=by decide
structure MOwnV (w:World) (C:Nat) (v:Value) (M:List SC) (vs:List Value):Prop where
 hd:w.ownsRow C 30 1 v M.length vs
 row:∀(i:Nat) l,M[i]? =some l->∃u,vs[i]? =some u/\OwnB w C u l
 apart:∀(i j:Nat) u u',i≠j->vs[i]? =some u->vs[j]? =some u'->u.ownBlock=none\/u.ownBlock≠u'.ownBlock
def MOwn(w:World)(C:Nat)(v:Value)(M:List SC):Prop:=∃a,MOwnV w C v M a
theorem MOwnV.vlen{w:World}{C:Nat}{v:Value}{M:List SC}{vs:List Value}(a:MOwnV w C v M vs):vs.length=M.length:=by have:=a.hd.1;omega
theorem MOwnV.len{w:World}{C:Nat}{a:SE}{n c:Nat}{M:List SC}{vs:List Value}(e:MOwnV w C (slice a n c) M vs):M.length=n:=by
 rcases e.hd.2 with⟨b,f⟩ | ⟨g,h,i,b,_⟩
 ·injection b with _ d;omega
 ·injection b with _ d;exact d.symm
theorem MOwn.len{w:World}{C:Nat}{a:SE}{n c:Nat}{M:List SC}(b:MOwn w C (slice a n c) M):M.length=n:=by
 obtain⟨d,b⟩:=b;exact b.len
theorem MOwnV.of{w:World}{C:Nat}{v:Value}{M:List SC}{vs:List Value}(a:MOwnV w C v M vs){i:Nat}{u:Value}(b:vs[i]? =some u):OwnB w C u (M.getD i [])/\M[i]? =some (M.getD i []):=by
 have e:i<M.length:=by have:=(List.getElem?_eq_some_iff.1 b).1;rw[a.vlen] at this;exact this
 have c:M[i]? =some (M.getD i []):=by rw[af,ah e];rfl
 obtain⟨g,d,f⟩:=a.row i _ c;rw[b] at d;rw[Option.some.inj d];exact⟨f,c⟩
theorem MOwnV.hdrow{w:World}{C:Nat}{v:Value}{M:List SC}{vs:List Value}(a:MOwnV w C v M vs){i:Nat}{u:Value}(b:vs[i]? =some u):u.ownBlock=none\/u.ownBlock≠v.ownBlock:=
 own_ne (a.of b).1 a.hd wO
theorem MOwnV.form{w:World}{C:Nat}{v:Value}{M:List SC}{vs:List Value}(a:MOwnV w C v M vs)(b:0<M.length):∃g c,v=slice (some ⟨g,0,none⟩) M.length c/\C<=g/\g<w.heap.size:=a.hd.form b
theorem MOwn.form{w:World}{C:Nat}{a:SE}{n c:Nat}{M:List SC}(b:MOwn w C (slice a n c) M)(i:0<n):∃g,a=some ⟨g,0,none⟩/\C<=g/\g<w.heap.size:=by
 have j:=b.len;obtain⟨k,b⟩:=b;obtain⟨g,l,d,e,f⟩:=b.form (by omega);injection d with h;exact⟨g,h,e,f⟩
theorem OwnB.lt{w:World}{C:Nat}{u:Value}{l:SC}(a:OwnB w C u l):∀g,u.ownBlock=some g->C<=g/\g<w.heap.size:=World.ownsRow.lt a
theorem OwnB.kept{w w':World}{C:Nat}{u:Value}{l:SC}{r:Option Nat}(a:OwnB w C u l)(b:w.grownBy w' r)(c:u.ownBlock=none\/u.ownBlock≠r):OwnB w' C u l:=World.ownsRow.kept a b c
theorem MOwn.at{w:World}{C g n c:Nat}{M:List SC}(a:MOwn w C (slice (some ⟨g,0,none⟩) n c) M){i:Nat}(l:i<n):
 ∃b d,w.cell? ⟨g,i,none⟩=some (slice b (M.getD i []).length d)/\w.frozen? ⟨g,i,none⟩=false/\OwnB w C (slice b (M.getD i []).length d) (M.getD i []):=by
 have f:=a.len;obtain⟨e,a⟩:=a;have m:i<e.length:=by rw[a.vlen,f];exact l
 have j:e[i]? =some e[i]:=ah m;obtain⟨h,_⟩:=a.of j;have k:w.cell? ⟨g,i,none⟩=some e[i]:=by rw[<-j];have:=a.hd;rw[f] at this;exact this.cellAt i (by omega)
 have o:=by have:=a.hd;rw[f] at this;exact this.frozenAt i
 obtain⟨b,d,p,_⟩:=h.rd;rw[p] at k h;exact⟨b,d,k,o,h⟩
theorem MOwnV.new{w w':World}{C:Nat}{v:Value}{M:List SC}{vs:List Value}(a:MOwnV w C v M vs)(b:Below w.heap.size w w'):MOwnV w' C v M vs:=
 ⟨gQ a.hd b,λc d e=>by obtain⟨f,g,h⟩:=a.row c d e;exact⟨f,g,h.below b⟩,a.apart⟩
theorem MOwn.new{w w':World}{C:Nat}{v:Value}{M:List SC}(a:MOwn w C v M)(b:Below w.heap.size w w'):MOwn w' C v M:=by
 obtain⟨c,a⟩:=a;exact⟨c,a.new b⟩
theorem MOwn.drewN{w:World}{C:Nat}{v:Value}{M:List SC}(a:MOwn w C v M)(j:Nat):MOwn (w.drewN j) C v M:=a.new (below_drewN (aC _ _) j)
theorem MOwn.base{w:World}{C b:Nat}{v:Value}{M:List SC}(a:MOwn w C v M)(c:b<=C):MOwn w b v M:=by
 obtain⟨d,a⟩:=a;exact⟨d,lT a.hd c,λe f g=>by obtain⟨h,i,j⟩:=a.row e f g;exact⟨h,i,j.base c⟩,a.apart⟩
theorem MOwn.nil(w:World)(C:Nat):MOwn w C (slice none 0 0) []:=⟨[],World.ownsRow_nil _ _ _ _,by simp,by simp⟩
theorem jg{d:Type}{l:List d}{i k:Nat}{x y:d}(a:(l.set i x)[k]? =some y):(k=i/\y=x/\i<l.length)\/(k≠i/\l[k]? =some y):=by
 rw[List.getElem?_set] at a;by_cases b:i=k
 ·subst b
  rw[bu rfl] at a;split at a
  ·rename_i c;exact .inl ⟨rfl,(Option.some.inj a).symm,c⟩
  ·cases a
 ·rw[bA b] at a
  exact .inr ⟨λc=>b c.symm,a⟩
theorem BC{a:Type}{l:List a}{i:Nat}{x:a}(b:i<l.length):(l.set i x)[i]? =some x:=by rw[List.getElem?_set,bu rfl,bu b]
theorem F5{a:Type}{l:List a}{i k:Nat}{x:a}(b:k≠i):(l.set i x)[k]? =l[k]? :=by rw[List.getElem?_set,bA (λc=>b c.symm)]
theorem MOwn.swap{w:World}{C g n c:Nat}{M:List SC}(e:MOwn w C (slice (some ⟨g,0,none⟩) n c) M){i j:Nat}(v:i<n)(x:j<n){f h:Value}(y:w.cell? ⟨g,i,none⟩=some f)(z:w.cell? ⟨g,j,none⟩=some h):
 MOwn ((w.setCell ⟨g,i,none⟩ h).setCell ⟨g,j,none⟩ f) C (slice (some ⟨g,0,none⟩) n c) (swp M i j):=by
 have q:=e.len;obtain⟨k,e⟩:=e;have O:=e.vlen;have m:=e.hd;rw[q] at m;have o:k[i]? =some f:=by rw[<-m.cellAt i (by omega)];exact y
 have r:k[j]? =some h:=by rw[<-m.cellAt j (by omega)];exact z
 obtain⟨A,B⟩:=m.stored i h;obtain⟨D,E⟩:=A.stored j f;have s:∀(b:Nat) a,k[b]? =some a->a.ownBlock=none\/a.ownBlock≠some g:=λb a d=>by have:=e.hdrow d;simpa[Value.ownBlock] using this
 have F:∀(b:Nat) a,k[b]? =some a->OwnB ((w.setCell ⟨g,i,none⟩ h).setCell ⟨g,j,none⟩ f) C a (M.getD b []):=λb a d=>((e.of d).1.kept B (s b a d)).kept E (s b a d)
 have p:∀(b:Nat) a,((k.set i h).set j f)[b]? =some a->k[sg i j b]? =some a:=by
  intro b a d;unfold sg;rcases jg d with⟨rfl,rfl,_⟩ | ⟨G,H⟩
  ·by_cases l:b=i
   ·rw[bu l];subst l;rw[o] at r;rw[<-o]
   ·rw[bA l,bu rfl];exact o
  ·rcases jg H with⟨rfl,rfl,_⟩ | ⟨t,u⟩
   ·rw[bu rfl];exact r
   ·rw[bA t,bA G];exact u
 have I:(swp M i j).length=n:=by rw[rT];exact q
 refine⟨(k.set i h).set j f,by rw[I];exact D,λb P t=> ?_,λb J a u K d L=> ?_⟩
 ·have N:b<n:=by have:=(List.getElem?_eq_some_iff.1 t).1;omega
  have Q:sg i j b<n:=yO v x N;obtain⟨a,d⟩:∃a,((k.set i h).set j f)[b]? =some a:=⟨_,ah (by simp;omega)⟩;refine⟨a,d,?_⟩;have:=F _ a (p b a d);rw[<-ve (by omega) (by omega) b] at this;rw[af,t] at this;exact this
 ·refine e.apart _ _ a u (λl=>K ?_) (p b a d) (p J u L)
  have:=congrArg (sg i j) l
  rwa [K8,K8] at this
theorem MOwn.put{w0 w:World}{C g n c:Nat}{M:List SC}(a:MOwn w0 C (slice (some ⟨g,0,none⟩) n c) M)(m:Below w0.heap.size w0 w){i:Nat}(K:i<n){u:Value}{l:SC}(k:OwnB w w0.heap.size u l)(A:C<=w0.heap.size):
 MOwn (w.setCell ⟨g,i,none⟩ u) C (slice (some ⟨g,0,none⟩) n c) (M.set i l):=by
 have t:=a.len;obtain⟨o,a⟩:=a;have L:=a.vlen;have v:∀(b:Nat) f,o[b]? =some f->∀d,f.ownBlock=some d->d<w0.heap.size:=λb f h d m=>((a.of h).1.lt d m).2;replace a:=a.new m;have p:=a.hd;rw[t] at p;obtain⟨B,x⟩:=p.stored i u;have D:u.ownBlock=none\/u.ownBlock≠some g:=by have:=own_ne k p wO;simpa[Value.ownBlock] using this
 have E:∀(b:Nat) u,o[b]? =some u->u.ownBlock=none\/u.ownBlock≠some g:=λb u h=>by have:=a.hdrow h;simpa[Value.ownBlock] using this
 refine⟨o.set i u,by rw[length_set,t];exact B,λb F G=> ?_,λb H f I y J z=> ?_⟩
 ·rcases jg G with⟨rfl,rfl,j⟩ | ⟨q,h⟩
  ·exact⟨u,BC (by omega),(k.base A).kept x D⟩
  ·obtain⟨f,j,r⟩:=a.row b F h
   exact⟨f,by rw[F5 q];exact j,r.kept x (E b f j)⟩
 ·rcases jg J with⟨rfl,rfl,j⟩ | ⟨q,h⟩
  ·rcases jg z with⟨rfl,_,_⟩ | ⟨q,h⟩
   ·exact absurd rfl y
   ·cases e:f.ownBlock with
    | none=>exact .inl rfl
    | some d=>
      right;intro s;have:=v _ _ h d s.symm;have:=(k.lt d e).1;omega
  ·rcases jg z with⟨rfl,rfl,_⟩ | ⟨j,r⟩
   ·cases e:f.ownBlock with
    | none=>exact .inl rfl
    | some d=>
      right;intro s;have:=v _ _ h d e;have:=(k.lt d s.symm).1;omega
   ·exact a.apart b H f I y h r
theorem MOwn.wrote{w w':World}{C g n c:Nat}{M:List SC}(a:MOwn w C (slice (some ⟨g,0,none⟩) n c) M){i:Nat}(y:i<n){u:Value}{l:SC}(p:w.cell? ⟨g,i,none⟩=some u)(h:w.grownBy w' u.ownBlock)(q:OwnB w' C u l):
 MOwn w' C (slice (some ⟨g,0,none⟩) n c) (M.set i l):=by
 have j:=a.len;obtain⟨k,a⟩:=a;have z:=a.vlen;have d:=a.hd;rw[j] at d;have e:k[i]? =some u:=by rw[<-d.cellAt i (by omega)];exact p
 have r:(Value.slice (some ⟨g,0,none⟩) n c).ownBlock=none\/(Value.slice (some ⟨g,0,none⟩) n c).ownBlock≠u.ownBlock:=by
  right;rcases a.hdrow e with b | b
  ·rw[b];simp[Value.ownBlock]
  ·exact λf=>b f.symm
 refine⟨k,by rw[length_set,j];exact d.kept h r,λm s t=> ?_,a.apart⟩;rcases jg t with⟨rfl,rfl,f⟩ | ⟨b,v⟩
 ·exact⟨u,e,q⟩
 ·obtain⟨o,f,x⟩:=a.row m s v
  exact⟨o,f,x.kept h (a.apart m i o u b f e)⟩
theorem MOwnV.snoc{w w':World}{C D:Nat}{v r:Value}{M:List SC}{vs:List Value}{u:Value}{l:SC}(j:MOwnV w C v M vs)(s:∀(i:Nat) a,vs[i]? =some a->∀b,a.ownBlock=some b->b<D)(z:C<=D)(m:OwnB w D u l)
 (A:w'.ownsRow C 30 1 r (M.length+1) (vs++[u]))(t:w.grownBy w' v.ownBlock):MOwnV w' C r (M++[l]) (vs++[u]):=by
 have B:=j.vlen;have E:u.ownBlock=none\/u.ownBlock≠v.ownBlock:=own_ne m j.hd wO
 have n:∀(c:Nat) d,(vs++[u])[c]? =some d->(c<vs.length/\vs[c]? =some d)\/(c=vs.length/\d=u):=by
  intro c d a;rw[List.getElem?_append] at a;split at a
  ·rename_i g;exact .inl ⟨g,a⟩
  ·rename_i g
   have:c-vs.length=0:=by
    rcases Nat.eq_zero_or_pos (c-vs.length) with f | f
    ·exact f
    ·rw[List.getElem?_eq_none (by simp;omega)] at a;cases a
   rw[this] at a;exact .inr ⟨by omega,(Option.some.inj a).symm⟩
 refine⟨by rw[aI,length_singleton];exact A,λc x a=> ?_,λc o d p F G y=> ?_⟩
 ·rw[List.getElem?_append] at a
  split at a
  ·rename_i g
   obtain⟨d,h,k⟩:=j.row c x a;exact⟨d,by rw[List.getElem?_append_left (by omega)];exact h,k.kept t (j.hdrow h)⟩
  ·rename_i g
   have:c-M.length=0:=by
    rcases Nat.eq_zero_or_pos (c-M.length) with f | f
    ·exact f
    ·rw[List.getElem?_eq_none (by simp;omega)] at a;cases a
   rw[this] at a;obtain rfl:l=x:=(by simpa using a);exact⟨u,by rw[List.getElem?_append_right (by omega),B,this];rfl,(m.base z).kept t E⟩
 ·rcases n c d G with⟨g,f⟩ | ⟨g,rfl⟩
  ·rcases n o p y with⟨h,k⟩ | ⟨h,rfl⟩
   ·exact j.apart c o d p F f k
   ·cases e:d.ownBlock with
    | none=>exact .inl rfl
    | some b=>
      right;intro q;have:=s _ _ f b e;have:=(m.lt b q.symm).1;omega
  ·rcases n o p y with⟨h,k⟩ | ⟨h,rfl⟩
   ·cases e:d.ownBlock with
    | none=>exact .inl rfl
    | some b=>
      right;intro q;have:=s _ _ k b q.symm;have:=(m.lt b e).1;omega
   ·omega
theorem MOwn.take{w:World}{C g n c:Nat}{M:List SC}(a:MOwn w C (slice (some ⟨g,0,none⟩) n c) M){k:Nat}(o:k<=n):MOwn w C (slice (some ⟨g,0,none⟩) k c) (M.take k):=by
 have p:=a.len;obtain⟨q,a⟩:=a;have F:=a.vlen;have r:(M.take k).length=k:=by rw[aH];omega
 refine⟨q.take k,?_,λh s d=> ?_,λh t i u v e f=> ?_⟩
 ·rw[r]
  have m:=a.hd;rw[p] at m;refine⟨by rw[aH];omega,?_⟩;rcases m.2 with⟨b,_⟩ | ⟨x,G,y,b,j,l,H,z,A,B⟩
  ·simp at b
  ·injection b with D I E
   subst E;refine .inr ⟨x,c,y,by rw[D],j,l,by omega,z,A,?_⟩;rw[<-B,take_take,Nat.mul_one,Nat.mul_one,Nat.min_eq_left o]
 ·rw[List.getElem?_take] at d
  split at d
  ·rename_i b
   obtain⟨i,j,l⟩:=a.row h s d;exact⟨i,by rw[List.getElem?_take,bu b];exact j,l⟩
  ·cases d
 ·rw[List.getElem?_take] at e f
  split at e
  ·split at f
   ·exact a.apart h t i u v e f
   ·cases f
  ·cases e
def RdM(w:World)(B:Nat)(a:SE)(n:Nat)(M:List SC):Prop:=
 M.length=n/\∃e,Rd w B a n e/\∀(f:Nat) b,M[f]? =some b->∃d c,e[f]? =some (slice d b.length c)/\Rd w B d b.length (bK b)/\(d=none->c=0)/\b.length<=c/\c<=maxLen
theorem RdM.len{w:World}{B:Nat}{a:SE}{n:Nat}{M:List SC}(b:RdM w B a n M):M.length=n:=b.1
theorem RdM.keep{w w':World}{B:Nat}{a:SE}{n:Nat}{M:List SC}(c:RdM w B a n M)(b:∀p:Addr,p.block<B->w'.cell? p=w.cell? p):RdM w' B a n M:=by
 obtain⟨d,e,f,g⟩:=c;refine⟨d,e,f.keep b,λh i j=> ?_⟩;obtain⟨k,l,m,o,q⟩:=g h i j;exact⟨k,l,m,o.keep b,q⟩
theorem RdM.more{w:World}{B b:Nat}{a:SE}{n:Nat}{M:List SC}(d:RdM w B a n M)(c:B<=b):RdM w b a n M:=by
 obtain⟨e,f,g,h⟩:=d;refine⟨e,f,g.more c,λi j k=> ?_⟩;obtain⟨l,m,o,p,q⟩:=h i j k;exact⟨l,m,o,p.more c,q⟩
theorem RdM.below{w w':World}{B C:Nat}{a:SE}{n:Nat}{M:List SC}(b:RdM w B a n M)(c:Below C w w')(d:B<=C):RdM w' B a n M:=b.keep λ_ e=>c.cell (by omega)
theorem getD_some{M:List SC}{i:Nat}(a:i<M.length):M[i]? =some (M.getD i []):=by rw[af,ah a];rfl
theorem RdM.at{w:World}{B:Nat}{a:SE}{n:Nat}{M:List SC}(e:RdM w B a n M){i:Nat}(p:i<n):
 ∃b o d c,a=some ⟨b,o,none⟩/\b<B/\w.cell? ⟨b,o+i,none⟩=some (slice d (M.getD i []).length c)/\Rd w B d (M.getD i []).length (bK (M.getD i []))/\(d=none->c=0)/\(M.getD i []).length<=c/\c<=maxLen:=by
 obtain⟨q,r,f,g⟩:=e;obtain⟨d,c,h,j,k⟩:=g i _ (getD_some (by omega));obtain⟨b,o,rfl,l,m⟩:=f.2 (by omega);exact⟨b,o,d,c,rfl,l,m i _ h,j,k⟩
theorem OwnB.caps{w:World}{C:Nat}{a:SE}{n c:Nat}{l:SC}(g:OwnB w C (slice a n c) l):(a=none->c=0)/\n<=c/\c<=maxLen:=by
 rcases g.2 with⟨b,_⟩ | ⟨k,m,o,b,_,_,h,i,_⟩
 ·injection b with d e f
  subst e f;exact⟨λ_=>rfl,aj _,bE _⟩
 ·injection b with d e f
  subst e f;exact⟨λj=>(by rw[j] at d;cases d),h,i⟩
theorem MOwn.rdM{w:World}{C:Nat}{a:SE}{n c:Nat}{M:List SC}(b:MOwn w C (slice a n c) M):RdM w w.heap.size a n M:=by
 have d:=b.len;obtain⟨g,b⟩:=b;have e:=b.hd;rw[d] at e;obtain⟨s,t,h,i,_⟩:=jF e;injection h with j u v;subst j;refine⟨d,g,i,λk l m=> ?_⟩;obtain⟨x,o,f⟩:=b.row k l m;obtain⟨p,q,rfl,r⟩:=f.rd;exact⟨p,q,o,r,f.caps⟩
theorem MOwn.caps{w:World}{C:Nat}{a:SE}{n c:Nat}{M:List SC}(b:MOwn w C (slice a n c) M):(a=none->c=0)/\n<=c/\c<=maxLen:=by
 have k:=b.len;obtain⟨l,b⟩:=b;rcases b.hd.2 with⟨d,_⟩ | ⟨m,o,p,d,_,_,h,i,_⟩
 ·injection d with e f g
  subst f g;exact⟨λ_=>rfl,aj _,bE _⟩
 ·injection d with e f g
  subst f g;exact⟨λj=>(by rw[j] at e;cases e),h,i⟩
theorem MOwn.val{w:World}{C:Nat}{v:Value}{M:List SC}(b:MOwn w C v M):∃a c,v=slice a M.length c:=by
 obtain⟨d,b⟩:=b;obtain⟨a,c,rfl,_⟩:=jF b.hd;exact⟨a,c,rfl⟩
def yf(a:SE)(n:Nat)(M:List SC):yA:=⟨λb=>RdM b b.heap.size a n M,λ_ _ c b=>(c.below b (aj _)).more b.size⟩
theorem MOwn.rdM2{w:World}{C:Nat}{v:Value}{M:List SC}{n:Nat}(b:MOwn w C v M)(d:M.length=n):∃a c,v=slice a n c/\(yf a n M).ok w/\(a=none->c=0)/\n<=c/\c<=maxLen:=by
 obtain⟨a,c,rfl⟩:=b.val;rw[d] at b ⊢;exact⟨a,c,rfl,b.rdM,b.caps⟩
theorem dP:(prog.info? 30).map (λa=>(a.zero,a.size,a.bytes))=some (some (slice none 0 0),1,24):=by kernel_rfl
theorem ed(xs:SC)(B:Nat)(a:SE)(n c:Nat)(w:World)(b:Rd w B a n (bK xs))(t:B<=w.heap.size)(f:a=none->c=0)(u:n<=1000000):
 Calls prog 86 #[slice a n c] w λd e=>∃v,d=returned v/\OwnB e w.heap.size v xs/\Below w.heap.size w e:=by
 have e:xs.length=n:=by have:=b.len;rwa [bL] at this
 cases a with
 | none=>
   obtain rfl:=f rfl
   have g:n=0:=by
    rcases Nat.eq_zero_or_pos n with h | h
    ·exact h
    ·obtain⟨i,j,d,_⟩:=b.2 h
     cases d
   subst g;obtain rfl:xs=[]:=eq_nil_of_length_eq_zero e;have o:=λd=>Lib.run_eql_slice_nil (P:=prog) d 30 5 none 0 0 0 0 underlying30;clear b f e;go_enter func86,ntmps86;go_wp2_with fail;go_ret;exact⟨_,rfl,OwnB.nil _ _,aC _ _⟩
 | some g=>
   have o:=λd=>Lib.run_eql_slice_nil (P:=prog) d 30 5 (some g) n c 0 0 underlying30;have p:=ae b;have i:=ae e;clear b f e;go_enter func86,ntmps86
   go_wp2_with (at_builtin;refine Bz _ rfl _ _ 30 rfl w.heap.size 5 (.int .u8 0) 1 underlying30 jP rfl (slice (some ⟨w.heap.size,0,none⟩) 0 0) 0 [] rfl ?o1 B g n c (bK xs) rfl ?o2 (jG xs) ?o3 ?o4 ?o5 ?_)
   case o1=>exact World.ownsRow_made w #[] 0 (aj _) (by unfold maxLen;omega) (by simp)
   case o2=>exact p.o.keep (λd j=>World.cell?_alloc_lt _ _ _ (by omega))
   case o3=>omega
   case o4=>unfold maxLen;omega
   case o5=>simp
   intro v j d k q;have l:Below w.heap.size w j:=((aC _ _).alloc (aj _) _).grown k (by simp) (λr m=>by simp[Value.ownBlock] at m;omega);have m:OwnB j w.heap.size v xs:=(by first | (rw[<-i.o] at d;exact d) | (rw[Nat.zero_add,nil_append,<-i.o] at d;exact d));have r:=ae m;have s:=ae l;clear d k l q m;go_wp2_with fail;go_ret;exact⟨_,rfl,r.o,s.o⟩
theorem tV{w0 w1:World}{ops:Array Oper}{rest:List Oper}{o:Oper}{a:Act}{Q:Exit->Act->World->Prop}(q:o.guard=none)(s x:Operand){C:Nat}{v u:Value}{M:List SC}{l:SC}
 (r:o.op=.call { callee:=.builtin .append,args:=#[s,x],argTypes:=#[45,45] })
 (b:MOwn w0 C v M)(f:Below w0.heap.size w0 w1)(i:OwnB w1 w0.heap.size u l)(j:C<=w0.heap.size)(G:M.length<=1000000)
 (hs:a.eval s=v)(t:a.eval x=slice (some ⟨w1.heap.size,0,none⟩) 1 1)
 (K:∀c d,MOwn d C c (M++[l])->Below C w0 d->(w1.alloc (cells #[u] 30)).grownBy d v.ownBlock->(c.ownBlock=v.ownBlock\/c.ownBlock=some (w1.heap.size+1))->wpList prog ops Q rest (a.put o.dst c) d):
 wpList prog ops Q (o :: rest) a (w1.alloc (cells #[u] 30)):=by
 obtain⟨k,b⟩:=b;have H:=f.size;have w:=b.new f;have m:=(aC w1.heap.size w1).alloc (aj _) (cells #[u] 30);have n:=w.new m;have y:u.oneCell'=true:=by obtain⟨I,J,z,_⟩:=i.rd;rw[z];rfl
 refine kD (P:=prog) _ q s x 45 r C 30 (slice none 0 0) 24 underlying45 dP rfl v M.length k hs n.hd w1.heap.size u t (fe w1 #[u] _ 0) y (by omega) (by unfold maxLen;omega) (by simp;omega) λc d A g B=> ?_;have D:∀(p:Nat) h,k[p]? =some h->∀e,h.ownBlock=some e->e<w0.heap.size:=λp h E e F=>((b.of E).1.lt e F).2;refine K c d ⟨_,n.snoc D j (i.below m) A g⟩ ?_ g (by rcases B with b | b;exact .inl b;right;rw[b];simp);refine(((f.mono j).alloc (by omega) _).grown g (by simp;omega) λe h=> ?_);exact(b.hd.lt e h).1
theorem Aa(n m:Nat)(M:List SC)(B:Nat)(a:SE)(c:Nat)(w:World)(h:RdM w B a m M)(f:Wf n M)(s:n<=64)(t:m<=1000000):
 Calls prog 269 #[slice a m c] w λd b=>d=returned (bool true)/\w=b:=by
 have e:=ae h;have g:=ae f;clear h f;go_enter func269,ntmps269;go_wp2_with fail;go_loopw [4,7] (λ_ i wr=>∃b:Nat,b<=m/\i=int i64 b/\wr=w) (λ_ i _=>m-(intOf i).toNat)
 case atStart=>exact⟨0,by omega,rfl,rfl⟩
 case round=>
  obtain⟨b,u,rfl,rfl⟩:=hrel;by_cases l:b<m
  ·obtain⟨v,x,y,z,rfl,A,o,_⟩:=e.o.at (show 0<m by omega)
   obtain⟨C,D,E,F,d,_,p,_⟩:=e.o.at l;injection d with d;injection d with q r G;subst q r;have j:=(g.o.get (i:=0) (by rw[e.o.len];omega)).1;have k:=(g.o.get (i:=b) (by rw[e.o.len];omega)).1;rw[j,Nat.add_zero] at o;rw[k] at p;have H:((n:Int) != (n:Int))=false:=(by simp);have I:(b:Int)<(m:Int):=(by omega);have J:¬((n:Int)>64):=(by omega);clear j k;go_wp2_with fail;go_roundw
   case rel=>exact⟨b+1,by omega,by go_num,by first | trivial | rfl⟩
   case measure=>simp[intOf];omega
  ·obtain rfl:b=m:=by omega
   go_wp2_with fail;go_ret;exact⟨rfl,rfl⟩
theorem Gc(M:List SC)(B:Nat)(a:SE)(m c:Nat)(w:World)(h:RdM w B a m M)(H:B<=w.heap.size)(u:∀l∈M,l.length<=1000000)(Y:m<=1000000):
 Calls prog 271 #[slice a m c] w λe b=>∃g n,e=returned (slice (some ⟨g,0,none⟩) m n)/\MOwn b w.heap.size (slice (some ⟨g,0,none⟩) m n) M/\Below w.heap.size w b:=by
 have I:=ae (h.more H);have J:=ae u;have r:=ae h.len;clear h u;obtain⟨K,b,d,f,i⟩:=info_parts dP
 have j:∀w:World,(Instr.makeSlice 45 (int i64 0) (int i64 (m:Int))).run prog w=.ok (slice (some ⟨w.heap.size,0,none⟩) 0 m) (w.alloc (cells (madeCells #[Value.slice none 0 0] m) 30)):=by
  intro w;have h:=run_make (P:=prog) w 45 30 K (slice none 0 0) underlying45 b d .i64 .i64 0 (m:Int) (by omega) (by omega) (by rw[i];omega) (by omega);rw[f,Nat.mul_one,Int.toNat_zero,Int.toNat_natCast] at h;exact h
 have q:(madeCells #[Value.slice none 0 0] m).size=m*1:=by rw[size_madeCells,Nat.mul_one]
 clear b d f i;generalize madeCells #[Value.slice none 0 0] m=o at*;go_enter func271,ntmps271
 go_wp2_with (simp only[j])
 have k:Sz (∃g d,Value.slice (some ⟨w.heap.size,0,none⟩) 0 m=slice (some ⟨g,0,none⟩) 0 d/\MOwn (w.alloc (.cells o 30)) w.heap.size (Value.slice (some ⟨w.heap.size,0,none⟩) 0 m) (M.take 0)):=ae ⟨_,_,rfl,[],World.ownsRow_made w o m (aj _) (by unfold maxLen;omega) q,by simp,by simp⟩;have f:=ae ((aC w.heap.size w).alloc (aj _) (.cells o 30));clear j q;generalize w.alloc (.cells o 30)=w1 at*;generalize b:w.heap.size=j at*;have s:=ae b;clear b;go_loopw [3,5,11] (λq _ i wr=>∃b:Nat,b<=m/\i=int i64 b/\Sz (∃g d,q=slice (some ⟨g,0,none⟩) b d/\MOwn wr j q (M.take b))/\Sz (Below j w wr)) (λ_ _ i _=>m-(intOf i).toNat)
 case atStart=>exact⟨0,by omega,rfl,k,f⟩
 case round=>
  clear k f;obtain⟨b,Z,rfl,k,f⟩:=hrel;by_cases v:b<m
  ·obtain⟨g,d,rfl,i⟩:=k.o
   have q:b<M.length:=(by rw[r.o];exact v);have L:=i.caps;obtain⟨N,O,Q,n,rfl,R,t,x,y,S,_⟩:=I.o.at v;have aa:=(f.o.cell (p:=⟨N,O+b,none⟩) R).trans t;have z:j<=wr.heap.size:=(by have:=f.o.size;have:=s.o;omega);have A:=x.below f.o (aj _)
   have C:M.take (b+1)=M.take b++[M.getD b []]:=by
    rw[aO q,af,ah q];rfl
   have D:=J.o _ (oO q);have E:=ae (ed (M.getD b []) j Q (M.getD b []).length n wr A z y D);have F:=ae C;have G:=ae i;have ab:(b:Int)<(m:Int):=(by omega);have T:(M.take b).length<=1000000:=(by rw[aH];omega);clear C D t x A i L S y q;generalize M.getD b []=l at*;go_wp2_with fail;refine E.o.mono ?_;rintro e D ⟨ac,rfl,q,t⟩;obtain⟨ua,uc,rfl,_⟩:=q.rd;have x:=ae q;have y:=ae t;clear q t E
   go_wp2_with (at_builtin;refine tV (w0:=wr) (w1:=D) rfl _ _ rfl G.o y.o x.o z T rfl rfl ?_)
   intro q E t A L S
   have C:∃g d,q=slice (some ⟨g,0,none⟩) (b+1) d:=by
    obtain⟨vs,U⟩:=t;obtain⟨g,V,e,_⟩:=U.form (by simp);refine⟨g,V,?_⟩;rw[e];congr 1;rw[aI,aH,length_singleton];have:=r.o;omega
   have W:Sz (∃g d,q=slice (some ⟨g,0,none⟩) (b+1) d/\MOwn E j q (M.take (b+1))):=ae (by
    obtain⟨g,d,e⟩:=C;exact⟨g,d,e,by rw[F.o];exact t⟩)
   have X:=ae (f.o.trans A);clear t A L S C G y x F;go_wp2_with fail;go_roundw
   case rel=>exact⟨b+1,by omega,by go_num,W,X⟩
   case measure=>simp[intOf];omega
  ·obtain rfl:b=m:=by omega
   have n:Sz (∃g d,u3=slice (some ⟨g,0,none⟩) b d/\MOwn wr j u3 M):=ae (by
    obtain⟨g,d,e,i⟩:=k.o;exact⟨g,d,e,by rw[aN (by rw[r.o];exact aj _)] at i;exact i⟩)
   go_wp2_with fail;go_ret;obtain⟨g,d,e,i⟩:=n.o;subst e;exact⟨g,d,rfl,by rw[s.o];exact i,by rw[s.o];exact f.o⟩
theorem BJ(p:SE)(w:World)(a:Fp w p):
 Calls prog 273 #[.pointer p] w λb c=>∃g,b=returned (pointer (some ⟨g,0,none⟩))/\Fld c g/\Below w.heap.size w c:=by
 rcases a with rfl | ⟨g,rfl,a⟩
 ·go_enter func273,ntmps273
  go_wp2_with fail;refine(qU _).mono ?_;rintro b d ⟨g,rfl,e,a,c⟩;go_wp2_with fail;go_ret;exact⟨g,rfl,a,c⟩
 ·go_enter func273,ntmps273
  go_wp2_with fail;go_ret;exact⟨g,rfl,a,aC _ _⟩
theorem yX(M:List SC)(B:Nat)(a:SE)(m c:Nat)(w:World)(h:RdM w B a m M)(f:m<=1000000):
 Calls prog 270 #[slice a m c] w λb d=>b=returned (int i64 (wid M:Nat))/\w=d:=by
 rcases Nat.eq_zero_or_pos m with d | d
 ·subst d
  obtain rfl:M=[]:=eq_nil_of_length_eq_zero h.len;clear h;go_enter func270,ntmps270;go_wp2_with fail;go_ret;exact⟨rfl,rfl⟩
 ·obtain⟨g,i,j,k,rfl,l,e,_⟩:=h.at d
  have b:(M.getD 0 []).length=wid M:=rfl;rw[b,Nat.add_zero] at e;have n:((m:Int) == 0)=false:=(by rw[beq_eq_false_iff_ne];omega);have o:(0:Int)<(m:Int):=(by omega);clear h b;generalize wid M=b at*;go_enter func270,ntmps270;go_wp2_with fail;go_ret;exact⟨rfl,rfl⟩
structure Rp where
 sz:Nat
 ok:World->(Nat->Prop)->List Value->Prop
 len:∀ {w:World} {F:Nat->Prop} {vs:List Value},ok w F vs->vs.length=sz
 one:∀ {w:World} {F:Nat->Prop} {vs:List Value},ok w F vs->∀u∈vs,u.oneCell'=true
 keep:∀ {w w':World} {F G:Nat->Prop} {vs:List Value},ok w F vs->(∀k,F k->k<w.heap.size->w'.heap[k]? =w.heap[k]? /\G k)->ok w' G vs
def Fr(C:Nat):Nat->Prop:=λa=>C<=a
def Bl(B:Nat):Nat->Prop:=λa=>a<B
def Any:Nat->Prop:=λ_=>True
theorem Rp.more(R:Rp){w:World}{F G:Nat->Prop}{vs:List Value}(a:R.ok w F vs)(b:∀k,F k->k<w.heap.size->G k):R.ok w G vs:=R.keep a λk c d=>⟨rfl,b k c d⟩
theorem Rp.any(R:Rp){w:World}{F:Nat->Prop}{vs:List Value}(a:R.ok w F vs):R.ok w Any vs:=R.more a λ_ _ _=>trivial
theorem Rp.bl(R:Rp){w:World}{F:Nat->Prop}{vs:List Value}(a:R.ok w F vs):R.ok w (Bl w.heap.size) vs:=R.more a λ_ _ b=>b
theorem Rp.new(R:Rp){w w':World}{F:Nat->Prop}{vs:List Value}(a:R.ok w F vs)(b:Below w.heap.size w w'):R.ok w' F vs:=R.keep a λc d e=>⟨b.block c e,d⟩
def eR(F:Nat->Prop)(v:Value)(R:Rp):yA:=⟨λa=>R.ok a F [v],λ_ _ a b=>R.new a b⟩
theorem Sx.rep{w0 w:World}{L:List yA}(a:Sx w0 w L)(i:Nat){F:Nat->Prop}{v:Value}{R:Rp}(b:L[i]? =some (eR F v R)):R.ok w F [v]:=a.get i b
def Gg(b:List Value):Rp where
 sz:=b.length
 ok:=λ_ _ a=>a=b/\∀a∈b,a.oneCell'=true
 len:=λa=>by rw[a.1]
 one:=λa=>by rw[a.1];exact a.2
 keep:=λa _=>a
def rV(u:Value):Rp:=Gg [u]
theorem yZ{w w':World}{b o:Nat}{u:Value}(c:w.cell? ⟨b,o,none⟩=some u)(d:b<w.heap.size->w'.heap[b]? =w.heap[b]?):w'.cell? ⟨b,o,none⟩=some u:=
 (World.cell?_of_block (w:=w) (a:=⟨b,o,none⟩) (d (World.block_lt_of_cell? w _ c))).trans c
def rC(k:List Value):Rp where
 sz:=1
 ok:=λi l m=>∃c a b,m=[slice c a b]/\a<=b/\b<=maxLen/\(c=none->b=0)/\k.length=a/\(0<a->∃d g,c=some ⟨d,g,none⟩/\l d/\∀h e,k[h]? =some e->i.cell? ⟨d,g+h,none⟩=some e)
 len:=λf=>by obtain⟨c,a,b,rfl,_⟩:=f;rfl
 one:=λf=>by obtain⟨c,a,b,rfl,_⟩:=f;intro e j;rw[mem_singleton.1 j];rfl
 keep:=λ{i o l p m} f n=>by
  obtain⟨c,a,b,rfl,o,p,q,r,s⟩:=f;refine⟨c,a,b,rfl,o,p,q,r,λt=> ?_⟩;obtain⟨d,g,rfl,f,l⟩:=s t;have u:=l 0 _ (ah (by omega));have m:=World.block_lt_of_cell? i _ u;exact⟨d,g,rfl,(n d f m).2,λh e j=>yZ (l h e j) λ_=>(n d f m).1⟩
def rB(l:SC):Rp:=rC (bK l)
def rS(k:Nat)(L:List Rp):Rp where
 sz:=1
 ok:=λj m p=>∃d a c,p=[slice d a c]/\a<=c/\c<=maxLen/\(d=none->c=0)/\L.length=a/\∃f:List Value,f.length=a*k/\
  (0<a*k->∃e l,d=some ⟨e,l,none⟩/\m e/\∀b g,f[b]? =some g->j.cell? ⟨e,l+b,none⟩=some g)/\∀(b:Nat) h,L[b]? =some h->h.ok j m ((f.drop (b*k)).take k)
 len:=λi=>by obtain⟨d,a,c,rfl,_⟩:=i;rfl
 one:=λi=>by obtain⟨d,a,c,rfl,_⟩:=i;intro g n;rw[mem_singleton.1 n];rfl
 keep:=λ{j q m r p} i o=>by
  obtain⟨d,a,c,rfl,p,q,r,s,f,t,u,v⟩:=i;refine⟨d,a,c,rfl,p,q,r,s,f,t,λw=> ?_,λb h i=>h.keep (v b h i) o⟩;obtain⟨e,l,rfl,h,i⟩:=u w;have x:=i 0 _ (ah (by omega));have m:=World.block_lt_of_cell? j _ x;exact⟨e,l,rfl,(o e h m).2,λb g n=>yZ (i b g n) λ_=>(o e h m).1⟩
def rM(M:List SC):Rp:=rS 1 (M.map rB)
def rP(d B:Rp):Rp where
 sz:=d.sz+B.sz
 ok:=λa e f=>∃b c,f=b++c/\d.ok a e b/\B.ok a e c
 len:=λa=>by obtain⟨b,c,rfl,e,f⟩:=a;rw[aI,d.len e,B.len f]
 one:=λa=>by
  obtain⟨b,c,rfl,e,f⟩:=a;intro g i;rcases bF.1 i with a | a
  ·exact d.one e g a
  ·exact B.one f g a
 keep:=λa h=>by obtain⟨b,c,rfl,e,f⟩:=a;exact⟨b,c,rfl,d.keep e h,B.keep f h⟩
theorem uf{w:World}{F:Nat->Prop}{a:List Value}(b:∀u∈a,u.oneCell'=true):(Gg a).ok w F a:=⟨rfl,b⟩
theorem qj{a B:Rp}{w:World}{F:Nat->Prop}{x y:List Value}(b:a.ok w F x)(c:B.ok w F y):(rP a B).ok w F (x++y):=⟨x,y,rfl,b,c⟩
theorem wZ{u:Value}{w:World}{F:Nat->Prop}(a:u.oneCell'=true):(rV u).ok w F [u]:=⟨rfl,λc b=>by rw[mem_singleton.1 b];exact a⟩
theorem BN{b:List Value}{w:World}{F:Nat->Prop}{v:Value}(e:(rC b).ok w F [v]):∃a c,v=slice a b.length c/\Rd w w.heap.size a b.length b/\(a=none->c=0)/\b.length<=c/\c<=maxLen:=by
 obtain⟨a,j,c,d,f,g,h,rfl,i⟩:=(rC b).bl e;injection d with d _;exact⟨a,c,d,⟨rfl,i⟩,h,f,g⟩
theorem eU{l:SC}{w:World}{F:Nat->Prop}{v:Value}{n:Nat}(b:(rB l).ok w F [v])(d:l.length=n):∃a c,v=slice a n c/\Rd w w.heap.size a n (bK l)/\(a=none->c=0)/\n<=c/\c<=maxLen:=by
 subst d;have:=BN b
 rwa [bL] at this
theorem dH{w:World}{C e k m:Nat}{v:Value}{xs:List Value}(d:w.ownsRow C e k v m xs):∃a c,v=slice a m c/\(a=none->c=0)/\m<=c/\c<=maxLen/\xs.length=m*k/\(0<m*k->∃b o,a=some ⟨b,o,none⟩/\(C<=b/\b<w.heap.size)/\v.ownBlock=some b/\∀i u,xs[i]? =some u->w.cell? ⟨b,o+i,none⟩=some u):=by
 have f:=d.1;have h:=d.lt;have j:=λg l=>d.cells (g:=g) l;rcases d.2 with⟨rfl,rfl⟩ | ⟨g,l,r,rfl,s,t,n,p,_⟩
 ·exact⟨none,0,rfl,λ_=>rfl,aj _,bE _,f,λd=>absurd d (by omega)⟩
 ·refine⟨_,l,rfl,λe=>(by cases e),n,p,f,λ_=>⟨g,0,rfl,h g rfl,rfl,λi u q=> ?_⟩⟩
  have:=j g rfl i u q;rw[Addr.add_lit] at this;exact this
theorem Ml{a:List Value}{w:World}{C e n:Nat}{v:Value}(d:w.ownsRow C e 1 v n a):(rC a).ok w (Fr C) [v]:=by
 obtain⟨f,g,rfl,h,i,j,b,c⟩:=dH d;rw[Nat.mul_one] at b c;refine⟨f,n,g,rfl,i,j,h,b,λk=> ?_⟩;obtain⟨l,m,o,⟨p,_⟩,_,q⟩:=c k;exact⟨l,m,o,p,q⟩
theorem gK{l:SC}{w:World}{C:Nat}{v:Value}(a:OwnB w C v l):(rB l).ok w (Fr C) [v]:=Ml a
def OwnS(w:World)(C:Nat)(e:TypeId)(k:Nat)(F:Nat->Prop)(v:Value)(L:List Rp):Prop:=
 ∃a,w.ownsRow C e k v L.length a/\∀(b:Nat) c,L[b]? =some c->c.ok w (λc=>F c/\some c≠v.ownBlock) ((a.drop (b*k)).take k)
theorem OwnS.nil(w:World)(C:Nat)(e:TypeId)(k:Nat)(F:Nat->Prop):OwnS w C e k F (slice none 0 0) []:=⟨[],World.ownsRow_nil _ _ _ _,by simp⟩
theorem lX{w w':World}{C e k n:Nat}{v:Value}{xs:List Value}(a:w.ownsRow C e k v n xs)(d:Below w.heap.size w w'):w'.ownsRow C e k v n xs:=by
 refine⟨a.1,?_⟩;rcases a.2 with f | ⟨b,g,h,rfl,i,c,j⟩
 ·exact .inl f
 ·exact .inr ⟨b,g,h,rfl,i,(d.block b (Array.getElem?_eq_some_iff.1 c).1).trans c,j⟩
theorem OwnS.new{w w':World}{C:Nat}{e:TypeId}{k:Nat}{F:Nat->Prop}{v:Value}{L:List Rp}(c:OwnS w C e k F v L)(a:Below w.heap.size w w'):OwnS w' C e k F v L:=by
 obtain⟨d,f,g⟩:=c;exact⟨d,lX f a,λh b i=>b.new (g h b i) a⟩
theorem OwnS.drewN{w:World}{C:Nat}{e:TypeId}{k:Nat}{F:Nat->Prop}{v:Value}{L:List Rp}(a:OwnS w C e k F v L)(j:Nat):OwnS (w.drewN j) C e k F v L:=a.new (below_drewN (aC _ _) j)
theorem OwnS.base{w:World}{C D:Nat}{e:TypeId}{k:Nat}{F G:Nat->Prop}{v:Value}{L:List Rp}(d:OwnS w C e k F v L)(f:D<=C)(g:∀b,F b->G b):OwnS w D e k G v L:=by
 obtain⟨h,⟨i,a⟩,j⟩:=d;refine⟨h,⟨i,?_⟩,λl c m=>c.more (j l c m) λb c _=>⟨g b c.1,c.2⟩⟩;rcases a with a | ⟨c,l,m,n,o,p⟩
 ·exact .inl a
 ·exact .inr ⟨c,l,m,n,aP f o,p⟩
theorem OwnS.val{w:World}{C:Nat}{e:TypeId}{k:Nat}{F:Nat->Prop}{v:Value}{L:List Rp}(b:OwnS w C e k F v L):∃a c,v=slice a L.length c/\(a=none->c=0)/\L.length<=c/\c<=maxLen:=by
 obtain⟨i,d,_⟩:=b;obtain⟨a,c,e,f,g,h,_⟩:=dH d;exact⟨a,c,e,f,g,h⟩
theorem OwnS.sl{w:World}{C:Nat}{e:TypeId}{k:Nat}{F:Nat->Prop}{v:Value}{L:List Rp}(b:OwnS w C e k F v L):∃a n c,v=slice a n c:=by
 obtain⟨a,c,e,_⟩:=b.val;exact⟨a,_,c,e⟩
theorem OwnS.len{w:World}{C:Nat}{e:TypeId}{k:Nat}{F:Nat->Prop}{a:SE}{n c:Nat}{L:List Rp}(b:OwnS w C e k F (slice a n c) L):L.length=n/\(a=none->c=0)/\n<=c/\c<=maxLen:=by
 obtain⟨l,m,e,d,f,g⟩:=b.val;injection e with h i j;subst h i j;exact⟨rfl,d,f,g⟩
theorem OwnS.lt{w:World}{C:Nat}{e:TypeId}{k:Nat}{F:Nat->Prop}{v:Value}{L:List Rp}(a:OwnS w C e k F v L):∀b,v.ownBlock=some b->C<=b/\b<w.heap.size:=by
 obtain⟨d,c,_⟩:=a;exact c.lt
theorem OwnS.rep{w:World}{C:Nat}{e:TypeId}{k:Nat}{F:Nat->Prop}{v:Value}{L:List Rp}(c:OwnS w C e k F v L):(rS k L).ok w (λa=>F a\/C<=a) [v]:=by
 obtain⟨d,f,g⟩:=c;obtain⟨h,i,rfl,j,l,m,n,o⟩:=dH f;refine⟨h,L.length,i,rfl,l,m,j,rfl,d,n,λp=> ?_,λq b r=>b.more (g q b r) λa b _=>.inl b.1⟩;obtain⟨a,q,r,⟨b,_⟩,_,s⟩:=o p;exact⟨a,q,r,.inr b,s⟩
theorem OwnS.fr{w:World}{C:Nat}{e:TypeId}{k:Nat}{v:Value}{L:List Rp}(b:OwnS w C e k (Fr C) v L):(rS k L).ok w (Fr C) [v]:=Rp.more _ b.rep λc a _=>by rcases a with a | a <;> exact a
theorem I7{a b:List Value}{i k n:Nat}(c:a.length=n*k)(d:i<n):((a++b).drop (i*k)).take k=(a.drop (i*k)).take k:=by
 have e:i*k+k<=n*k:=by
  have:=Nat.mul_le_mul_right k (show i+1<=n by omega)
  rwa [Nat.succ_mul] at this
 rw[drop_append_of_le_length (by omega),take_append_of_le_length (by rw[length_drop];omega)]
theorem I8{a b:List Value}{i k n:Nat}(c:a.length=n*k):((a++b).drop ((n+i)*k)).take k=(b.drop (i*k)).take k:=by
 rw[drop_append,drop_eq_nil_of_le (by rw[c,Nat.add_mul];omega),nil_append,c,Nat.add_mul,Nat.add_sub_cancel_left]
theorem OwnS.app{w w':World}{C:Nat}{e:TypeId}{k:Nat}{F:Nat->Prop}{v b:Value}{L N:List Rp}{c f:List Value}(g:w.ownsRow C e k v L.length c)(l:∀(i:Nat) R,L[i]? =some R->R.ok w (λa=>F a/\some a≠v.ownBlock) ((c.drop (i*k)).take k))
 (m:∀(i:Nat) R,N[i]? =some R->R.ok w (λa=>F a/\some a≠v.ownBlock) ((f.drop (i*k)).take k))(n:w'.ownsRow C e k b (L.length+N.length) (c++f))(o:w.grownBy w' v.ownBlock)(p:b.ownBlock=v.ownBlock\/b.ownBlock=some w.heap.size):OwnS w' C e k F b (L++N):=by
 have h:∀a,(F a/\some a≠v.ownBlock)->a<w.heap.size->w'.heap[a]? =w.heap[a]? /\(F a/\some a≠b.ownBlock):=λa d j=>by
  refine⟨o.block a j d.2,d.1,?_⟩;rcases p with a | a
  ·rw[a];exact d.2
  ·rw[a];intro d;injection d with d;omega
 refine⟨c++f,by rw[aI];exact n,λi R d=> ?_⟩;rw[List.getElem?_append] at d;split at d
 ·rename_i j
  rw[I7 g.1 j];exact R.keep (l i R d) h
 ·rename_i j
  have a:i=L.length+(i-L.length):=(by omega);rw[a,I8 g.1];exact R.keep (m _ R d) h
theorem ug{a:List Value}{i:Nat}{u:Value}(b:a[i]? =some u):(a.drop (i*1)).take 1=[u]:=by
 obtain⟨c,d⟩:=List.getElem?_eq_some_iff.1 b;rw[Nat.mul_one,drop_eq_getElem_cons c,d];rfl
theorem OwnS.off{w w1:World}{C:Nat}{e:TypeId}{k:Nat}{F G:Nat->Prop}{v:Value}{L:List Rp}(f:OwnS w C e k F v L){R:Rp}{a:List Value}(g:R.ok w1 G a)(c:∀b,G b->F b/\(b<C\/w.heap.size<=b)):R.ok w1 (λb=>F b/\some b≠v.ownBlock) a:=
 R.more g λb d _=>⟨(c b d).1,λh=>by have:=f.lt b h.symm;rcases(c b d).2 with d | d <;> omega⟩
theorem OwnS.ty{w:World}{C:Nat}{e:TypeId}{k:Nat}{F:Nat->Prop}{v:Value}{L:List Rp}(f:OwnS w C e k F v L){b:Nat}{t:TypeId}{d:Array Value}(g:Blk w b t d)(h:t≠e):some b≠v.ownBlock:=by
 obtain⟨m,i,_⟩:=f;intro c;rcases i.2 with⟨rfl,_⟩ | ⟨n,o,p,rfl,_,j,_⟩
 ·simp[Value.ownBlock] at c
 ·simp[Value.ownBlock] at c
  subst c;have a:w.heap[b]? =some (.cells d t (0,0)):=g;rw[j] at a;injection a with a;injection a with _ l;exact h l.symm
theorem oh{w:World}{g:Nat}{l:SC}{F:Nat->Prop}(b:Blk w g 5 (bO l))(c:F g)(d:l.length<=maxLen):(rB l).ok w F [slice (some ⟨g,0,none⟩) l.length l.length]:=by
 obtain⟨j,e⟩:=sw b;refine⟨_,_,_,rfl,aj _,d,λa=>(by cases a),bL l,λf=>⟨g,0,rfl,c,?_⟩⟩;obtain⟨k,m,a,_,h⟩:=e f;injection a with a;injection a with f i _;subst f i;exact h
theorem I9{w:World}{C:Nat}{v:Value}{M:List SC}(a:MOwn w C v M):OwnS w C 30 1 (Fr C) v (M.map rB):=by
 obtain⟨h,a⟩:=a;refine⟨h,by rw[aG];exact a.hd,λi z d=> ?_⟩;rw[List.getElem?_map] at d;obtain⟨c,j,rfl⟩:=Option.map_eq_some_iff.1 d;obtain⟨A,e,k⟩:=a.row i c j;rw[ug e];obtain⟨l,m,rfl,n,o,p,B,f⟩:=dH k;rw[Nat.mul_one] at f;refine⟨l,c.length,m,rfl,o,p,n,bL c,λq=> ?_⟩;obtain⟨r,s,t,⟨u,_⟩,g,x⟩:=f q;refine⟨r,s,t,⟨u,λy=> ?_⟩,x⟩;rcases a.hdrow e with b | b
 ·rw[g] at b;cases b
 ·exact b (g.trans y)
theorem iA{P:Program}{w w1:World}{ops:Array Oper}{rest:List Oper}{o:Oper}{a:Act}{Q:Exit->Act->World->Prop}(t:o.guard=none)(s x:Operand){T e:TypeId}{z:Value}{k h:Nat}
 (u:o.op=.call { callee:=.builtin .append,args:=#[s,x],argTypes:=#[T,T] })(y:P.underlying T=some (.slice e))(A:(P.info? e).map (λb=>(b.zero,b.size,b.bytes))=some (some z,k,h))(B:z.cells.size=k)(D:0<k)(E:h<=1000)
 {C:Nat}{v:Value}{L:List Rp}{F:Nat->Prop}{R:Rp}{c:Array Value}(l:OwnS w C e k F v L)(m:Below w.heap.size w w1)(i:C<=w.heap.size)(hl:L.length<=1000000)
 (j:R.ok w1 (λd=>F d/\some d≠v.ownBlock) c.toList)(G:R.sz=k)
 (hs:a.eval s=v)(H:a.eval x=slice (some ⟨w1.heap.size,0,none⟩) 1 1)
 (K:∀f g,OwnS g C e k F f (L++[R])->Below C w g->wpList P ops Q rest (a.put o.dst f) g):
 wpList P ops Q (o :: rest) a (w1.alloc (.cells c e)):=by
 have n:=(aC w1.heap.size w1).alloc (aj _) (.cells c e);have I:=l.lt;have g:Below w.heap.size w (w1.alloc (.cells c e)):=m.trans (n.mono m.size);have J:=l.new g;obtain⟨M,p,N⟩:=J;obtain⟨b,O,S,U,V⟩:=info_parts A;have W:c.toList.length=k:=by rw[R.len j];exact G
 have X:=R.new j n;refine wpList_append_own_at (P:=P) (w1.alloc (.cells c e)) t s x T u C e b z k h y O S U V B D v L.length M hs p ⟨w1.heap.size,0,none⟩ 1 1 c.toList H (by rw[W,Nat.one_mul]) ?_ (R.one j) (by unfold maxLen;omega) ?_ (aP i g.size) λf Y Z q _ aa=> ?_
 ·intro ab ac r
  rw[Addr.add_lit,Nat.zero_add,fe];simpa using r
 ·have:=bC (show L.length+1<=1000001 by omega) E
  omega
 ·refine K f Y (OwnS.app p N (λb R' r=> ?_) Z q aa) (((g.mono i).grown q (aP i g.size) λd ab=>(I d ab).1))
  cases b with
  | succ b=>simp at r
  | zero=>
    obtain rfl:R=R':=(by simpa using r);rw[Nat.zero_mul,drop_zero,aN (by omega)];exact X
theorem nu{k:Nat}{L:List Rp}{w:World}{F:Nat->Prop}{v:Value}(d:(rS k L).ok w F [v]):∃a n c,v=slice a n c:=by
 obtain⟨e,f,g,b,_⟩:=d;injection b with b _;exact⟨e,f,g,b⟩
theorem su{k:Nat}{L:List Rp}{w:World}{F:Nat->Prop}{a:SE}{n c i:Nat}(g:(rS k L).ok w F [slice a n c])(z:0<k)(A:i<n){R:Rp}(h:L[i]? =some R):
 ∃b o d,a=some ⟨b,o,none⟩/\F b/\b<w.heap.size/\R.ok w F d/\d.length=k/\∀j u,d[j]? =some u->w.cell? ⟨b,o+(i*k+j),none⟩=some u:=by
 obtain⟨l,m,p,e,B,C,D,E,G,H,q,r⟩:=g;obtain⟨⟨rfl,rfl,rfl⟩,-⟩:(a=l/\n=m/\c=p)/\True:=by injection e with e _;injection e with s t v;exact⟨⟨s,t,v⟩,trivial⟩
 have I:i*k+k<=n*k:=by
  have:=Nat.mul_le_mul_right k (show i+1<=n by omega)
  rwa [Nat.succ_mul] at this
 obtain⟨b,o,rfl,x,f⟩:=q (by omega);have y:=f 0 _ (ah (by omega));refine⟨b,o,_,rfl,x,World.block_lt_of_cell? w _ y,r i R h,by rw[aH,length_drop];omega,λj u d=>f _ u ?_⟩;rw[List.getElem?_take] at d;split at d
 ·rw[List.getElem?_drop] at d;exact d
 ·cases d
theorem RA{k:Nat}{L:List Rp}{w:World}{F:Nat->Prop}{v:Value}(d:(rS k L).ok w F [v]):∃a c,v=slice a L.length c/\(a=none->c=0)/\L.length<=c/\c<=maxLen:=by
 obtain⟨e,j,f,b,g,h,i,rfl,_⟩:=d;injection b with b _;exact⟨e,f,b,i,g,h⟩
theorem fE{M:List SC}{w:World}{F:Nat->Prop}{v:Value}{n:Nat}(m:(rM M).ok w F [v])(b:M.length=n):∃a c,v=slice a n c/\RdM w w.heap.size a n M/\(a=none->c=0)/\n<=c/\c<=maxLen:=by
 obtain⟨a,z,c,d,o,p,q,f,g,e,h,r⟩:=(rM M).bl m;rw[aG,b] at f;subst f;injection d with d _;rw[Nat.mul_one] at e h;refine⟨a,c,d,⟨b,g,⟨e,h⟩,λi s j=> ?_⟩,q,o,p⟩;have k:i<g.length:=by rw[e,<-b];exact(List.getElem?_eq_some_iff.1 j).1
 have l:=r i (rB s) (by rw[List.getElem?_map,j];rfl);rw[ug (ah k)] at l;obtain⟨t,u,x,y⟩:=eU l rfl;exact⟨t,u,by rw[ah k,x],y⟩
theorem Ey{M:List SC}{w:World}{C:Nat}{v:Value}(a:MOwn w C v M):(rM M).ok w (Fr C) [v]:=by
 obtain⟨c,a⟩:=a;obtain⟨d,e,rfl,f,g,h,i,j⟩:=dH a.hd;refine⟨d,M.length,e,rfl,g,h,f,by rw[aG],c,i,λk=> ?_,λl r b=> ?_⟩
 ·obtain⟨m,n,o,⟨p,_⟩,_,q⟩:=j k
  exact⟨m,n,o,p,q⟩
 ·rw[List.getElem?_map] at b
  obtain⟨m,n,rfl⟩:=Option.map_eq_some_iff.1 b;obtain⟨q,o,p⟩:=a.row l m n;rw[ug o];exact gK p
