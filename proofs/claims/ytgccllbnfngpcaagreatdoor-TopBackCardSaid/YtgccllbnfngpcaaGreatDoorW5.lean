import Derived.Test.YtgccllbnfngpcaaGreatDoorW4
import Derived.Laws.Cover3
import Derived.Laws.CopyRow
import Derived.Shelf.Bytes.SlSmallAll
import Derived.Lib.Bytes
set_option linter.unusedVariables false
set_option maxRecDepth 100000
set_option maxHeartbeats 400000000
namespace Go.Proofs.YtgccllbnfngpcaaGreatDoor
open Go.RowKit _root_.Go.Proofs.Tryz List
open Value (int slice pointer bool)
open IntKind (i64)
open Ending (returned)
open Obj (cells)
def tK(l:SC):List Value:=l.map λa:Nat=>Value.int .u8 a
def nP(l:SC):Array Value:=(tK l).toArray
theorem Ec{l:SC}{i:Nat}(a:i<l.length):(tK l)[i]? =some (.int .u8 (l.getD i 0:Nat)):=by
 unfold tK;rw[List.getElem?_map,ah a,af,ah a];rfl
theorem K9(l:SC)(i x:Nat):(nP l).setIfInBounds i (.int .u8 (x:Nat))=nP (l.set i x):=by
 apply Array.ext';simp[nP,tK]
theorem Q9(n:Nat):madeCells #[Value.int .u8 0] n=nP (replicate n 0):=by
 apply Array.ext (by rw[size_madeCells];simp[nP,tK]);intro b a c;rw[size_madeCells] at a;simp[nP,tK,madeCells,Nat.mod_one]
theorem qc{w:World}{g:Nat}{t:TypeId}{x y z:Value}(a:Blk w g t #[x,y,z]):w.cell? ⟨g,0,none⟩=some x/\w.cell? ⟨g,1,none⟩=some y/\w.cell? ⟨g,2,none⟩=some z:=⟨a.cell 0,a.cell 1,a.cell 2⟩
theorem OM{K H S s id:Int}(a:¬(fQ K H S/\0<=id/\id<=65535)):iO K H S s id=[]:=by unfold iO;rw[bA a]
theorem F3{K H S:Int}(b:fQ K H S=true):∃n:Nat,lW K H S=(n:Int)/\K+H=(n:Int)/\2<=n/\n<=20:=by
 have d:=bn b;obtain⟨n,c⟩:=Int.eq_ofNat_of_zero_le (a:=K+H) (by omega);exact⟨n,by unfold lW;rw[bu b];exact c,c,by omega,by omega⟩
theorem Ih{K H S id:Int}(b:¬(fQ K H S/\0<=id/\id<=65535)):fQ K H S=false\/(fQ K H S=true/\id<0)\/(fQ K H S=true/\¬id<0/\65535<id):=by
 cases hk:fQ K H S with
 | false=>exact .inl rfl
 | true=>
   right;by_cases a:id<0
   ·exact .inl ⟨rfl,a⟩
   ·exact .inr ⟨rfl,a,by
     by_cases c:65535<id
     ·exact c
     ·exact absurd ⟨hk,by omega,by omega⟩ b⟩
theorem Ed(K H S s id:Int)(w:World)(h:¬(fQ K H S/\0<=id/\id<=65535)):
 Calls prog 176 #[dO K H S,.int .u32 s,int i64 id] w λc a=>c=returned (slice none 0 0)/\Below w.heap.size w a:=by
 have a:=ae λw=>gU K H S w;have d:=ae ((aC w.heap.size w).alloc (aj _) (cells #[int i64 K,int i64 H,int i64 S] 25));unfold dO at a ⊢;rcases Ih h with b | ⟨b,f⟩ | ⟨b,f,i⟩
 all_goals(
  rw[b] at a;clear h b;go_enter func176,ntmps176;go_wp2_with fail;generalize w.alloc (cells #[int i64 K,int i64 H,int i64 S] 25)=j at*;refine(a.o _).mono ?_;rintro c k ⟨rfl,e⟩;have g:=ae (d.o.trans (e.mono d.o.size));clear e a;go_wp2_with fail;go_ret;exact⟨rfl,g.o⟩)
theorem La{w:World}{C n:Nat}{v:Value}(a:OwnI w C v (kV n))(e:1<=n)(f:n<=64):∃g c,v=slice (some ⟨g,0,none⟩) n c/\C<=g/\g<w.heap.size/\Rd w w.heap.size (some ⟨g,0,none⟩) n (bM (kV n))/\(kV n).length=n:=by
 have b:(kV (n:Int)).length=n:=by rw[AC ⟨e,f⟩,jh]
 obtain⟨j,c,rfl,d⟩:=a.rd;rw[b] at a d ⊢;obtain⟨g,rfl,h,i⟩:=a.formA b (by omega);exact⟨g,c,rfl,h,i,d,rfl⟩
theorem uI(K H S s id:Int)(w:World)(i:fQ K H S=true)(M:0<=id)(N:id<=65535)(t:0<=s)(u:s<4294967296):
 Calls prog 176 #[dO K H S,.int .u32 s,int i64 id] w λd a=>∃v,d=returned v/\OwnI a w.heap.size v (Ao (K+H) (nW (tq s id)))/\Below w.heap.size w a:=by
 obtain⟨b,a,e,k,l⟩:=F3 i;have c:=ae λw=>gU K H S w;have f:=ae ((aC w.heap.size w).alloc (aj _) (cells #[int i64 K,int i64 H,int i64 S] 25));have j:=ae (Blk.new w 25 #[int i64 K,int i64 H,int i64 S]);have g:=ae λw=>og K H S w;rw[i] at c;rw[a] at g;rw[e];have m:=RH id t u;have O:¬id<0:=by omega
 have P:¬65535<id:=by omega
 have Q:bits .xor .u32 s (IntKind.u32.wrap (id%4294967296*2654435761))=tq s id:=rfl;have R:bits .xor .u32 s (IntKind.u32.wrap (id*2654435761))=tq s id:=by unfold tq Aq;rw[show id%4294967296=id by omega]
 have T:bits .xor .u32 s (id*2654435761%4294967296)=tq s id:=by unfold tq Aq;rw[show id%4294967296=id by omega,IntKind.wrap_u32]
 unfold dO at c g ⊢;unfold Ao;have x:=ae m;have y:=ae (And.intro k l);have U:b<=64:=by omega
 clear i a e k l t u m;generalize tq s id=a at*;go_enter func176,ntmps176;go_wp2_with fail;generalize w.alloc (cells #[int i64 K,int i64 H,int i64 S] 25)=V at*;refine(c.o _).mono ?_;rintro d W ⟨rfl,e⟩;have k:=ae (f.o.trans (e.mono f.o.size));have F:=ae (j.o.below e j.o.lt);obtain⟨X,Y,Z⟩:=qc F.o;clear e c f j;go_wp2_with fail;refine(g.o _).mono ?_;rintro d f ⟨rfl,e⟩;have c:=ae (k.o.trans (e.mono k.o.size));clear e g k;go_wp2_with fail;refine(LQ a f x.o.1 (by have:=x.o.2;omega)).mono ?_;rintro d j ⟨rfl,rfl⟩;have g:=ae (At.new f (.int .u64 a) 371);have o:=ae (c.o.alloc c.o.size (cells #[.int .u64 a] 371));have k:w.heap.size<=f.heap.size:=c.o.size;clear c;generalize f.alloc (cells #[.int .u64 a] 371)=j at*;generalize f.heap.size=c at*;go_wp2_with fail;refine(yS a ⟨c,0,none⟩ j g.o.1 g.o.2).mono ?_;rintro d l ⟨rfl,rfl⟩;have m:=ae (g.o.put (.int .u64 (nW a)));have n:=ae (o.o.setCell (p:=⟨c,0,none⟩) k (.int .u64 (nW a)));clear g o;generalize j.setCell ⟨c,0,none⟩ (.int .u64 (nW a))=l at*;have G:c<l.heap.size:=m.o.lt;go_wp2_with fail;refine(JS b (by omega) l).mono ?_;rintro d o ⟨v,rfl,z,q⟩;obtain⟨r,I,rfl,aa,J,A,B⟩:=La z (by have:=y.o;omega) (by have:=y.o;omega);have C:=ae A;have D:=ae B;have g:=ae (m.o.below q G);have E:=ae (n.o.trans (q.mono n.o.size));have L:=ae (II b);clear z A B q m n J;go_wp2_with fail;refine(LP (kV b) o.heap.size (some ⟨r,0,none⟩) b I (nW a) ⟨c,0,none⟩ o C.o D.o (by omega) L.o g.o.1 g.o.2 (.inr ⟨r,0,rfl,by show r≠c;omega⟩)).mono ?_;rintro d m ⟨rfl,rfl⟩;have n:=ae (g.o.put (.int .u64 (qh (kV b) (nW a))));have q:=ae (E.o.setCell (p:=⟨c,0,none⟩) k (.int .u64 (qh (kV b) (nW a))));clear g E C D;generalize o.setCell ⟨c,0,none⟩ (.int .u64 (qh (kV b) (nW a)))=m at*;go_wp2_with fail;refine(O7 c 0 (qh (kV b) (nW a)) b (rZ (kV b) (nW a)) m n.o).mono ?_;rintro d D ⟨v,rfl,g,z⟩;obtain⟨E,J,rfl⟩:=g.lenA;have A:=ae g;have B:=ae (Aft.below n.o z q.o k);have C:w.heap.size<=m.heap.size:=q.o.size;clear g z;go_wp2_with fail;go_ret;exact⟨_,rfl,A.o.base C,B.o⟩
theorem zO(K H S s id:Int)(w:World)(d:0<=s)(e:s<4294967296):
 Calls prog 176 #[dO K H S,.int .u32 s,int i64 id] w λb c=>∃v,b=returned v/\OwnI c w.heap.size v (iO K H S s id)/\Below w.heap.size w c:=by
 by_cases a:fQ K H S/\0<=id/\id<=65535
 ·have b:iO K H S s id=Ao (K+H) (nW (tq s id)):=by unfold iO;rw[bu a]
  rw[b];exact uI K H S s id w a.1 a.2.1 a.2.2 d e
 ·rw[OM a]
  exact(Ed K H S s id w a).mono λb c ⟨f,g⟩=>⟨_,f,OwnI.nil _ _,g⟩
theorem infoY:(prog.info? 5).map (λa=>(a.zero,a.size,a.bytes))=some (some (.int .u8 0),1,1):=by kernel_rfl
theorem Ra{n:Nat}(g:n<=1000000)(w:World):(Instr.makeSlice 30 (int i64 (n:Int)) (int i64 (n:Int))).run prog w=.ok (slice (some ⟨w.heap.size,0,none⟩) n n) (w.alloc (cells (nP (replicate n 0)) 5)):=by
 obtain⟨b,c,d,e,f⟩:=info_parts infoY;have a:=run_make (P:=prog) w 30 5 b (.int .u8 0) underlying30 c d .i64 .i64 (n:Int) (n:Int) (by omega) (by omega) (by rw[f];omega) (by omega);rw[e,Nat.mul_one,Int.toNat_natCast] at a;rw[<-Q9];exact a
theorem OwnI.far{w:World}{C:Nat}{v:Value}{l:SC}(b:OwnI w C v l){B:Nat}(e:B<C)(i:Nat)(u:Value):OwnI (w.setCell ⟨B,i,none⟩ u) C v l:=by
 have c:w.grownBy (w.setCell ⟨B,i,none⟩ u) (some B):=⟨rfl,rfl,rfl,by simp,λa _ d=>heap_setCell_other w ⟨B,i,none⟩ a u (λa=>d (by rw[a]))⟩;refine World.ownsRow.kept b c ?_;cases hv:v.ownBlock with
 | none=>exact .inl rfl
 | some d=>
   right;intro a;have:=(OwnI.ltA b d hv).1;injection a with a;omega
theorem Ee(K H S s id:Int)(w:World)(o:fQ K H S=true)(T:0<=id)(U:id<=65535)(D:0<=s)(E:s<4294967296):
 Calls prog 277 #[dO K H S,.int .u32 s,int i64 id] w λt a=>∃g n,t=returned (slice (some ⟨g,0,none⟩) n n)/\Blk a g 5 (nP (yx (K+H).toNat (Ao (K+H) (nW (tq s id)))))/\(K+H).toNat=n/\Below w.heap.size w a:=by
 obtain⟨n,b,d,k,q⟩:=F3 o;have a:=ae λw=>gU K H S w;have f:=ae ((aC w.heap.size w).alloc (aj _) (cells #[int i64 K,int i64 H,int i64 S] 25));have j:=ae (Blk.new w 25 #[int i64 K,int i64 H,int i64 S]);have c:=ae λw=>og K H S w;have m:=ae λw=>uI K H S s id w o T U D E;rw[o] at a;rw[b] at c;rw[d] at m ⊢;rw[Int.toNat_natCast];have V:n<=64:=by omega
 obtain⟨-,e,-⟩:=EG (n:=n) (by omega) V (nW (tq s id));have W:=Gp n (nW (tq s id));have ad:¬id<0:=by omega
 have ag:¬65535<id:=by omega
 have u:=Ra (n:=n) (by omega);unfold dO at a c m ⊢;have X:=ae e;clear o b d k q D E e;generalize Ao (n:Int) (nW (tq s id))=b at*;obtain⟨e,d⟩:∃e,b.length=e:=⟨_,rfl⟩;have q:=ae d;rw[d] at W;clear d;go_enter func277,ntmps277;go_wp2_with fail;generalize w.alloc (cells #[int i64 K,int i64 H,int i64 S] 25)=w0 at*;refine(a.o _).mono ?_;rintro t w1 ⟨rfl,d⟩;have r:=ae (f.o.trans (d.mono f.o.size));have v:=ae (j.o.below d j.o.lt);obtain⟨x,y,z⟩:=qc v.o;clear d a f j;go_wp2_with fail;refine(c.o _).mono ?_;rintro t j ⟨rfl,d⟩;have k:=ae (r.o.trans (d.mono r.o.size));have F:=ae (v.o.below d v.o.lt);clear d c r x y z;obtain⟨x,y,z⟩:=qc F.o;obtain⟨a,f,A⟩:=qc (F.o.alloc (cells (nP (replicate n 0)) 5))
 go_wp2_with (simp only[])
 have c:Sz (Blk (j.alloc (cells (nP (replicate n 0)) 5)) j.heap.size 5 (nP (yx n (b.take 0)))):=ae (Blk.new j 5 (nP (replicate n 0)));have r:=ae (k.o.alloc k.o.size (cells (nP (replicate n 0)) 5));have Y:w.heap.size<=j.heap.size:=k.o.size;clear k u x y z a f A;generalize j.alloc (cells (nP (replicate n 0)) 5)=A at*;generalize j.heap.size=f at*;have G:f<A.heap.size:=c.o.lt;refine(m.o A).mono ?_;rintro t w4 ⟨ai,rfl,a,d⟩;obtain⟨Z,I,rfl⟩:=a.lenA;rw[q.o] at a ⊢;have J:=ae a;have L:=ae (c.o.below d G);have M:=ae (r.o.trans (d.mono r.o.size));generalize A.heap.size=N at*;clear a d c r m;generalize a:w.heap.size=O at*;have HG:=ae a;clear a;go_wp2_with fail;go_loopw [29] (λi wr=>∃a:Nat,a<=e/\i=int i64 a/\Sz (Blk wr f 5 (nP (yx n (b.take a))))/\Sz (OwnI wr N (slice Z e I) b)/\Sz (Below O w wr)) (λi _=>e-(intOf i).toNat)
 case atStart=>exact⟨0,by omega,rfl,L,J,M⟩
 case round=>
  clear L J M;obtain⟨a,o,rfl,m,u,B⟩:=hrel;by_cases P:a<e
  ·have ak:(a:Int)<(e:Int):=by omega
   have r:a<b.length:=(by rw[q.o];exact P);obtain⟨g,rfl,al,am⟩:=u.o.formA q.o (by omega);obtain⟨an,-⟩:=u.o.cellA q.o P;have aa:b.getD a 0<n:=X.o _ (by rw[getD_at r];exact aQ r);have Q:Sz (yx n (b.take (a+1))=(yx n (b.take a)).set (b.getD a 0) 1):=ae (by rw[aO r,MG,getD_at r]);have R:=Ap n (b.take a);generalize C:b.getD a 0=c at*;clear C
   have ao:wr.cell? ⟨f,c,none⟩=some (.int .u8 ((yx n (b.take a)).getD c 0:Nat)):=by
    rw[m.o.cell c];have:=Ec (l:=yx n (b.take a)) (i:=c) (by rw[R];exact aa);simpa[nP] using this
   have ap:=m.o.frozen c;have C:=m.o.set c (.int .u8 ((1:Nat):Int));rw[K9,<-Q.o] at C;have ab:Sz (Blk (wr.setCell ⟨f,c,none⟩ (.int .u8 1)) f 5 (nP (yx n (b.take (a+1))))):=ae C;have ac:Sz (OwnI (wr.setCell ⟨f,c,none⟩ (.int .u8 1)) N (slice (some ⟨g,0,none⟩) e I) b):=ae (u.o.far G c (.int .u8 1));have k:Sz (Below O w (wr.setCell ⟨f,c,none⟩ (.int .u8 1))):=ae (B.o.setCell (p:=⟨f,c,none⟩) Y _);have aq:(c:Int)<(n:Int):=(by omega);clear C Q R m u B r;generalize (yx n (b.take a)).getD c 0=r at*;go_wp2_with fail;go_roundw
   case rel=>exact⟨a+1,by omega,by go_num,ab,ac,k⟩
   case measure=>simp[intOf];omega
  ·obtain rfl:a=e:=by omega
   rw[aN (by rw[q.o];exact aj _)] at m;go_wp2_with fail;go_ret;exact⟨_,_,rfl,m.o,rfl,by rw[HG.o];exact B.o⟩
theorem JD(K H Z:Nat)(s:Int){ids:SC}{k:Nat}(a:k<ids.length):(fK K H Z s (ids.take (k+1))).map rB=(fK K H Z s (ids.take k)).map rB++[rB (nG K H Z s (ids.getD k 0:Nat))]:=by
 unfold fK;rw[aO a,aU (l:=ids.take k),<-append_assoc,aU (k:=[ids[k]].map _),af,ah a];rfl
theorem PW{K H Z:Nat}{s id:Int}(a:fQ K H Z=true)(b:0<=id)(c:id<=65535):yx ((K:Int)+H).toNat (Ao (K+H) (nW (tq s id)))=nG K H Z s id:=by unfold nG;rw[bu ⟨a,b,c⟩]
theorem ji{w:World}{B:Nat}{a:SE}{n:Nat}{l:SC}(c:Rd w B a n (bM l)){i:Nat}(g:i<n):∃b o,a=some ⟨b,o,none⟩/\b<B/\w.cell? ⟨b,o+i,none⟩=some (int i64 (l.getD i 0:Nat)):=by
 have h:l.length=n:=by have:=c.len;simpa[bM] using this
 obtain⟨b,o,d,e,f⟩:=c.2 (by omega);exact⟨b,o,d,e,f i _ (by unfold bM;rw[List.getElem?_map,af,ah (by omega)];rfl)⟩
theorem qz(K H Z:Nat)(s:Int)(ids:SC)(a:SE)(n c:Nat)(w:World)(f:fQ K H Z=true)(S:0<=s)(T:s<4294967296)(g:Rd w w.heap.size a n (bM ids))(x:∀i∈ids,i<=65535)(hn:n<=1000):
 Calls prog 217 #[dO K H Z,.int .u32 s,slice a n c] w λo b=>∃v,o=returned v/\(rM (fK K H Z s ids)).ok b Any [v]/\Below w.heap.size w b:=by
 have e:=bn f;have d:ids.length=n:=by have:=g.len;simpa[bM] using this
 have b:=ae λw=>rA K H Z w (by omega) (by omega) (by omega);have y:=ae λ(id:Nat) (z:id<=65535) w=>Ee K H Z s id w f (by omega) (by omega) S T;have U:=ae x;have A:=ae d;have B:=ae f;have HX:=ae g
 have V:Sz (Sx w (w.alloc (cells #[int i64 K,int i64 H,int i64 Z] 25)) [bY w.heap.size 25 #[int i64 K,int i64 H,int i64 Z],mR a n (bM ids)]):=
  ae (((((Sx.nil w).add (mR a n (bM ids)) g).alloc _).add (bY _ _ _) (Blk.new w 25 #[int i64 K,int i64 H,int i64 Z])))
 have al:H<=4:=by omega
 have am:K<=16:=by omega
 clear g x d e f;unfold dO at b y ⊢;go_enter func217,ntmps217;go_wp2_with fail;generalize w.alloc (cells #[int i64 K,int i64 H,int i64 Z] 25)=j at*;refine(b.o _).mono ?_;rintro o W ⟨X,rfl,e,p⟩;have C:=ae p
 have d:Sz (OwnS W j.heap.size 30 1 Any X ((fK K H Z s (ids.take 0)).map rB)):=ae (by
  have:=(I9 e).base (aj _) (G:=Any) λ_ _=>trivial;unfold fK;rw[take_zero,map_nil,append_nil];exact this)
 obtain⟨b1,n1,an,rfl⟩:=d.o.sl;generalize w.heap.size=P at*;clear e p b;go_wp2_with fail;go_loopw [7,15] (λv i wr=>∃b:Nat,b<=n/\i=int i64 b/\Sz (OwnS wr j.heap.size 30 1 Any v ((fK K H Z s (ids.take b)).map rB))/\Sz (Below j.heap.size j wr)) (λ_ i _=>n-(intOf i).toNat)
 case atStart=>exact⟨0,by omega,rfl,d,C⟩
 case round=>
  clear d C;obtain⟨b,ao,rfl,d,k⟩:=hrel;have l:=ae (V.o.step k.o);obtain⟨D,E,F,rfl⟩:=d.o.sl;by_cases I:b<n
  ·have ap:(b:Int)<(n:Int):=by omega
   have m:b<ids.length:=(by rw[A.o];exact I);obtain⟨q,aq,rfl,p,Y⟩:=ji (l.o.rd 1 rfl) I;have z:ids.getD b 0<=65535:=U.o _ (by rw[getD_at m];exact aQ m);have aa:=ae (JD K H Z s m);have ab:((fK K H Z s (ids.take b)).map rB).length<=1000000:=(by rw[aG,r9,aH];omega);have ac:=ae (PW (s:=s) (id:=(ids.getD b 0:Nat)) B.o (by omega) (by omega));have J:=ae (vE (s:=s) (id:=(ids.getD b 0:Nat)) B.o (by omega) (by omega));obtain⟨k0,k1,k2⟩:=qc (l.o.blk 0 rfl);generalize ids.getD b 0=e at*;clear m;go_wp2_with fail;refine(y.o e z wr).mono ?_;rintro o L ⟨M,n3,rfl,m,rfl,r⟩;rw[ac.o] at m;have t:=ae (k.o.trans (r.mono k.o.size));have u:=ae (d.o.new r);have N:=ae m;have O:=t.o.size;have Q:(nG K H Z s e).length=((K:Int)+H).toNat:=(by rw[J.o.1];omega);have ad:Sz (some M≠(Value.slice D E F).ownBlock):=ae (u.o.ty m (by decide));have ag:=ae Q;have hq:=λai a ak c=>run_neq_slice_nil (P:=prog) ai 30 5 a ak c underlying30;clear m r Q Y k0 k1 k2 d l k;generalize ((K:Int)+H).toNat=ai at*
   go_wp2_with (at_builtin;refine iA (w:=L) rfl _ _ rfl underlying45 dP rfl (by decide) (by decide) u.o (aC _ _) O ab (R:=rB (nG K H Z s e)) ?r1 rfl rfl rfl ?_)
   case r1=>
    have m:(rB (nG K H Z s e)).ok L (λq=>Any q/\some q≠(Value.slice D E F).ownBlock) [slice (some ⟨M,0,none⟩) (nG K H Z s e).length (nG K H Z s e).length]:=oh N.o ⟨trivial,ad.o⟩ (by rw[J.o.1];unfold maxLen;omega);rw[ag.o] at m;exact m
   intro v4 w4 m r;rw[<-aa.o] at m;have Q:=ae m;have Y:=ae (t.o.trans r);clear m r u N t O;obtain⟨b4,m,r,rfl⟩:=Q.o.sl;go_wp2_with fail;go_roundw
   case rel=>exact⟨b+1,by omega,by go_num,Q,Y⟩
   case measure=>simp[intOf];omega
  ·obtain rfl:b=n:=by omega
   rw[aN (by rw[A.o];exact aj _)] at d;go_wp2_with fail;go_ret;exact⟨_,rfl,(rM _).any d.o.rep,l.o.1⟩
theorem l5{w:World}{ops:Array Oper}{rest:List Oper}{o:Oper}{a:Act}{Q:Exit->Act->World->Prop}(j:o.guard=none)(s x:Operand){C y:Nat}{i:Int}{v:Value}{xs:SC}(k:i=(y:Int))
 (l:o.op=.call { callee:=.builtin .append,args:=#[s,x],argTypes:=#[22,22] })
 (m:OwnI w C v xs)(f:C<=w.heap.size)(z:xs.length<=1000000)(hs:a.eval s=v)(n:a.eval x=slice (some ⟨w.heap.size,0,none⟩) 1 1)
 (K:∀c b,OwnI b C c (xs++[y])->Below C w b->wpList prog ops Q rest (a.put o.dst c) b):
 wpList prog ops Q (o :: rest) a (w.alloc (cells #[int i64 i] 3)):=by
 subst k;have d:=(aC w.heap.size w).alloc (aj _) (cells #[int i64 (y:Int)] 3);have g:OwnI (w.alloc (cells #[int i64 (y:Int)] 3)) C v xs:=gQ m d;have h:=aP f d.size;have p:=fe w #[int i64 (y:Int)] 3 0;have q:=d.mono f;generalize w.alloc (cells #[int i64 (y:Int)] 3)=r at*;refine kD (P:=prog) r j s x 22 l C 3 (int i64 0) 8 underlying22 je rfl v xs.length (bM xs) hs g w.heap.size (int i64 (y:Int)) n p rfl (by omega) (by unfold maxLen;omega) h λc b t e A=> ?_;refine K c b ?_ (q.trans ((aC _ _).grown e h λu e=>(World.ownsRow.lt g u e).1));unfold OwnI;rw[aI];have u:bM (xs++[y])=bM xs++[int i64 (y:Int)]:=by unfold bM;rw[aU];rfl
 rw[u];exact t
theorem OwnI.sl{w:World}{C:Nat}{v:Value}{l:SC}(b:OwnI w C v l):∃a n c,v=slice a n c:=by
 obtain⟨a,c,d,_⟩:=dH b;exact⟨a,_,c,d⟩
def rI(l:SC):Rp:=rC (bM l)
theorem gM{l:SC}{w:World}{C:Nat}{v:Value}(a:OwnI w C v l):(rI l).ok w (Fr C) [v]:=Ml a
theorem dY{l:SC}{w:World}{F:Nat->Prop}{v:Value}{n:Nat}(b:(rI l).ok w F [v])(d:l.length=n):∃a c,v=slice a n c/\Rd w w.heap.size a n (bM l)/\(a=none->c=0)/\n<=c/\c<=maxLen:=by
 subst d;have:=BN b
 rwa [D6] at this
theorem sJ(K H Z:Nat)(w:World)(e:fQ K H Z=true):
 Calls prog 218 #[dO K H Z] w λb a=>∃v,b=returned v/\OwnI a w.heap.size v (range K)/\Below w.heap.size w a:=by
 have a:=bn e;have l:K<=16:=by omega
 have m:1<=K:=by omega
 have f:=ae ((aC w.heap.size w).alloc (aj _) (cells #[int i64 K,int i64 H,int i64 Z] 25));have g:=ae (OwnI.nil (w.alloc (cells #[int i64 K,int i64 H,int i64 Z] 25)) w.heap.size);clear a e;have n:¬(16:Int)<(K:Int):=by omega
 have o:(0:Int)<(K:Int):=by omega
 unfold dO;go_enter func218,ntmps218;go_wp2_with fail;generalize w.alloc (cells #[int i64 K,int i64 H,int i64 Z] 25)=p at*;go_loopw [3,9] (λv b wr=>∃a:Nat,a<=K/\b=int i64 a/\Sz (OwnI wr w.heap.size v (range a))/\Sz (Below w.heap.size w wr)) (λ_ b _=>K-(intOf b).toNat)
 case atStart=>exact⟨0,by omega,rfl,g,f⟩
 case round=>
  clear g f;obtain⟨a,q,rfl,b,c⟩:=hrel;obtain⟨r,s,t,rfl⟩:=b.o.sl;by_cases u:a<K
  ·have x:(a:Int)<(K:Int):=by omega
   go_wp2_with (at_builtin;refine l5 (w:=wr) (y:=a) rfl _ _ ?hi rfl b.o c.o.size (by rw[bg];omega) rfl rfl ?_)
   case hi=>first | rfl | trivial
   intro z A d i;rw[<-range_succ] at d;have j:=ae d;have k:=ae (c.o.trans i);clear d i b c;obtain⟨d,i,B,rfl⟩:=j.o.sl;go_wp2_with fail;go_roundw
   case rel=>exact⟨a+1,by omega,by go_num,j,k⟩
   case measure=>simp[intOf];omega
  ·obtain rfl:a=K:=by omega
   go_wp2_with fail;go_ret;exact⟨_,rfl,b.o,c.o⟩
theorem Cj(K H Z:Nat)(s:Int)(ids:SC)(a:SE)(n c:Nat)(w:World)(d:fQ K H Z=true)(v:0<=s)(x:s<4294967296)(j:Rd w w.heap.size a n (bM ids))(k:∀i∈ids,i<=65535)(y:n<=1000):
 Calls prog 231 #[dO K H Z,.int .u32 s,slice a n c] w λe b=>e=returned (int i64 ((eT (fK K H Z s ids)).length:Nat))/\Below w.heap.size w b:=by
 have g:=bn d;have f:ids.length=n:=by have:=j.len;simpa[bM] using this
 have m:=ae λw (h:Rd w w.heap.size a n (bM ids))=>qz K H Z s ids a n c w d v x h k y;have z:=ae (oZ (s:=s) d k);have A:Sz ((fK K H Z s ids).length=H+n):=ae (by rw[r9,f])
 have o:Sz (Sx w (w.alloc (cells #[int i64 K,int i64 H,int i64 Z] 25)) [bY w.heap.size 25 #[int i64 K,int i64 H,int i64 Z],mR a n (bM ids)]):=
  ae (((((Sx.nil w).add (mR a n (bM ids)) j).alloc _).add (bY _ _ _) (Blk.new w 25 #[int i64 K,int i64 H,int i64 Z])))
 have C:H<=4:=by omega
 have D:K<=16:=by omega
 clear j k f g d;unfold dO at m ⊢;generalize fK K H Z s ids=p at*;go_enter func231,ntmps231;go_wp2_with fail;generalize w.alloc (cells #[int i64 K,int i64 H,int i64 Z] 25)=E at*;generalize w.heap.size=l at*;obtain⟨F,G,I⟩:=qc (o.o.blk 0 rfl)
 go_region_held3 (λb=>b.cell? ⟨l,0,none⟩=some (int i64 K)/\b.cell? ⟨l,1,none⟩=some (int i64 H)/\b.cell? ⟨l,2,none⟩=some (int i64 Z)) (go_keep) (first
  | (go_at_call 216
     refine(qU _).mono ?_;rintro e J ⟨q,rfl,r,g,b⟩;have f:=ae ((o.o.drew.step b).add (eFp (some ⟨q,0,none⟩)) (Fp.of g));obtain⟨L,M,N⟩:=qc (f.o.blk 1 rfl);clear r g b)
  | (go_at_call 217
     have O:=f;refine(m.o _ (f.o.rd 2 rfl)).mono ?_;rintro e P ⟨Q,rfl,r,b⟩;obtain⟨t,B,rfl,u,-⟩:=fE r A.o;have g:=ae ((f.o.step b).add (yf t (H+n) p) u);obtain⟨R,S,T⟩:=qc (g.o.blk 2 rfl);clear r u b)
  | (go_at_call 290
     refine(NM (some ⟨q,0,none⟩) (K+H) (H+n) B p t _ (g.o.fp 1 rfl) (g.o.get 0 rfl) z.o (by omega) (by omega)).mono ?_;rintro e u ⟨rfl,b⟩;have r:=ae (g.o.step b);obtain⟨U,V,W⟩:=qc (r.o.blk 2 rfl);clear b))
 all_goals(
  go_wp2_with fail;go_ret;exact⟨rfl,r.o.1⟩)
def ek(K H Z:Nat)(s:Int)(ids:SC):Bool:=decide ((eT (fK K H Z s ids)).length=K+H)
theorem uQ(K H Z:Nat)(s:Int)(ids:SC)(a:SE)(n c:Nat)(w:World)(d:fQ K H Z=true)(t:0<=s)(u:s<4294967296)(l:Rd w w.heap.size a n (bM ids))(m:∀i∈ids,i<=65535)(v:n<=1000):
 Calls prog 173 #[dO K H Z,.int .u32 s,slice a n c] w λe b=>e=returned (bool (ek K H Z s ids))/\Below w.heap.size w b:=by
 have f:=ae λw=>gU K H Z w;rw[d] at f;have o:=ae λw (h:Rd w w.heap.size a n (bM ids))=>Cj K H Z s ids a n c w d t u h m v;have g:=ae λw=>og K H Z w;have j:lW K H Z=((K+H:Nat):Int):=by unfold lW;rw[bu d,Int.natCast_add]
 rw[j] at g
 have p:Sz (Sx w (w.alloc (cells #[int i64 K,int i64 H,int i64 Z] 25)) [bY w.heap.size 25 #[int i64 K,int i64 H,int i64 Z],mR a n (bM ids)]):=
  ae (((((Sx.nil w).add (mR a n (bM ids)) l).alloc _).add (bY _ _ _) (Blk.new w 25 #[int i64 K,int i64 H,int i64 Z])))
 have x:Sz (ek K H Z s ids=decide ((eT (fK K H Z s ids)).length=K+H)):=ae rfl;clear l m d j;unfold dO at f o g ⊢;generalize (eT (fK K H Z s ids)).length=y at*;generalize K+H=z at*;go_enter func173,ntmps173;go_wp2_with fail;generalize w.alloc (cells #[int i64 K,int i64 H,int i64 Z] 25)=A at*;generalize w.heap.size=j at*;obtain⟨B,C,D⟩:=qc (p.o.blk 0 rfl)
 go_region_held3 (λb=>b.cell? ⟨j,0,none⟩=some (int i64 K)/\b.cell? ⟨j,1,none⟩=some (int i64 H)/\b.cell? ⟨j,2,none⟩=some (int i64 Z)) (go_keep) (first
  | (go_at_call 88
     refine(f.o _).mono ?_;rintro e E ⟨rfl,b⟩;have k:=ae (p.o.drew.step b);obtain⟨F,G,I⟩:=qc (k.o.blk 0 rfl);clear b)
  | (go_at_call 231
     refine(o.o _ (k.o.rd 1 rfl)).mono ?_;rintro e J ⟨rfl,b⟩;have q:=ae (k.o.step b);obtain⟨L,M,N⟩:=qc (q.o.blk 0 rfl);clear b)
  | (go_at_call 232
     refine(g.o _).mono ?_;rintro e O ⟨rfl,b⟩;have r:=ae (q.o.step b);obtain⟨P,Q,R⟩:=qc (r.o.blk 0 rfl);clear b))
 all_goals(
  go_wp2_with fail;go_ret;refine⟨BL ?_,r.o.1⟩;rw[x.o,Bool.eq_iff_iff,beq_iff_eq,decide_eq_true_iff];omega)
theorem ng(K H Z:Nat)(s:Int)(w:World)(b:fQ K H Z=true)(l:0<=s)(m:s<4294967296):
 Calls prog 214 #[dO K H Z,.int .u32 s] w λc a=>c=returned (bool (ek K H Z s (range K)))/\Below w.heap.size w a:=by
 have e:=bn b;have f:=ae λw=>sJ K H Z w b;have g:=ae λd i w (h:Rd w w.heap.size d K (bM (range K)))=>uQ K H Z s (range K) d K i w b l m h (λi d=>by have:=bG.1 d;omega) (by omega)
 have i:Sz (Sx w (w.alloc (cells #[int i64 K,int i64 H,int i64 Z] 25)) [bY w.heap.size 25 #[int i64 K,int i64 H,int i64 Z]]):=
  ae ((((Sx.nil w).alloc _).add (bY _ _ _) (Blk.new w 25 #[int i64 K,int i64 H,int i64 Z])))
 clear b e;unfold dO at f g ⊢;generalize ek K H Z s (range K)=o at*;go_enter func214,ntmps214;go_wp2_with fail;generalize w.alloc (cells #[int i64 K,int i64 H,int i64 Z] 25)=p at*;generalize w.heap.size=d at*;obtain⟨q,r,t⟩:=qc (i.o.blk 0 rfl)
 go_region_held3 (λa=>a.cell? ⟨d,0,none⟩=some (int i64 K)/\a.cell? ⟨d,1,none⟩=some (int i64 H)/\a.cell? ⟨d,2,none⟩=some (int i64 Z)) (go_keep) (first
  | (go_at_call 218
     refine(f.o _).mono ?_;rintro c u ⟨v,rfl,j,a⟩;obtain⟨n,x,rfl,k,-⟩:=dY (gM j) bg;have e:=ae ((i.o.drew.step a).add (mR n K (bM (range K))) k);obtain⟨y,z,A⟩:=qc (e.o.blk 1 rfl);clear a j k)
  | (go_at_call 173
     refine(g.o _ _ _ (e.o.rd 0 rfl)).mono ?_;rintro c k ⟨rfl,a⟩;have j:=ae (e.o.step a);obtain⟨B,C,D⟩:=qc (j.o.blk 1 rfl);clear a))
 all_goals(
  go_wp2_with fail;go_ret;exact⟨rfl,j.o.1⟩)
theorem FT(a b c:Int)(w:World)(e: -9223372036854775808<=a/\a<=9223372036854775807)(f: -9223372036854775808<=b/\b<=9223372036854775807)(g: -9223372036854775808<=c/\c<=9223372036854775807):
 Calls prog 40 #[int i64 a,int i64 b,int i64 c] w λd i=>d=returned (dO (1+a%6) (1+b%3) (1+c%9))/\Below w.heap.size w i:=by
 have j:=ae λw=>ic a 6 w e (by omega) (by omega);have k:=ae λw=>ic b 3 w f (by omega) (by omega);have l:=ae λw=>ic c 9 w g (by omega) (by omega);have p:=Int.emod_nonneg a (show(6:Int)≠0 by omega);have q:=Int.emod_lt_of_pos a (show(0:Int)<6 by omega);have r:=Int.emod_nonneg b (show(3:Int)≠0 by omega);have s:=Int.emod_lt_of_pos b (show(0:Int)<3 by omega);have t:=Int.emod_nonneg c (show(9:Int)≠0 by omega);have u:=Int.emod_lt_of_pos c (show(0:Int)<9 by omega);generalize a%6=m at*;generalize b%3=n at*;generalize c%9=o at*;clear e f g;go_enter func40,ntmps40;go_wp2_with fail;refine(j.o _).mono ?_;rintro d i ⟨rfl,rfl⟩;go_wp2_with fail;refine(k.o _).mono ?_;rintro d i ⟨rfl,rfl⟩;go_wp2_with fail;refine(l.o _).mono ?_;rintro d i ⟨rfl,rfl⟩;go_wp2_with fail;refine bodyPost_ret (results_cell_row rfl _ _ w.heap.size 25 _ (0,0) _ rfl (Blk.new w 25 #[int i64 (1+m),int i64 (1+n),int i64 (1+o)]) underlying25 rfl (by kernel_rfl)) rfl ?_;exact⟨rfl,(aC _ _).alloc (aj _) _⟩
theorem Oq(b:List Int)(B:Nat)(a:SE)(n c k:Nat)(w:World)(d:Rd w B a n (b.map (Value.int .i64))):
 Calls prog 41 #[slice a n c,int i64 k] w λe f=>e=returned (int i64 (b.getD k 0))/\w=f:=by
 have f:b.length=n:=by have:=d.len;simpa using this
 by_cases j:k<n
 ·have i:(k:Int)<(n:Int):=by omega
  obtain⟨l,m,rfl,o,g⟩:=d.2 (by omega);have p:=g k (int i64 (b.getD k 0)) (by rw[List.getElem?_map,af,ah (by omega)];rfl);generalize b.getD k 0=q at*;clear g d f;go_enter func41,ntmps41;go_wp2_with fail;go_ret;exact⟨rfl,rfl⟩
 ·have i:¬(k:Int)<(n:Int):=by omega
  have e:b.getD k 0=0:=(by rw[af,List.getElem?_eq_none (by omega)];rfl);rw[e];clear d f e;go_enter func41,ntmps41;go_wp2_with fail;go_ret;exact⟨rfl,rfl⟩
theorem rz(K H S:Nat)(w:World)(c:K<=16)(d:S<=24):
 Calls prog 156 #[dO K H S] w λa b=>a=returned (int i64 (K*S:Nat))/\Below w.heap.size w b:=by
 have a:=(aC w.heap.size w).alloc (aj _) (cells #[int i64 K,int i64 H,int i64 S] 25);have b:=ae a;clear a;have f:K*S<=16*24:=bC c d;have a:(K:Int)*(S:Int)=((K*S:Nat):Int):=by rw[Int.natCast_mul]
 have g:IntKind.i64.wrap ((K*S:Nat):Int)=((K*S:Nat):Int):=by rw[IntKind.wrap_i64];omega
 generalize K*S=i at*;unfold dO;go_enter func156,ntmps156;go_wp2_with fail;go_ret
 first
 | exact⟨rfl,b.o⟩
 | exact⟨congrArg (λe=>Ending.returned (int i64 e)) a,b.o⟩
def jl(q n:Nat):Nat:=if n=0 then 0 else (n-1)/q+1
theorem ry{w:World}{g:Nat}{t:TypeId}{x y z:Value}(a:Blk w g t #[x,y,z]):w.cell? ⟨g,0,none⟩=some x/\w.cell? ⟨g,1,none⟩=some y/\w.cell? ⟨g,2,none⟩=some z:=⟨a.cell 0,a.cell 1,a.cell 2⟩
theorem jS(K H S n:Nat)(w:World)(g:fQ K H S=true)(q:n<=1000000):
 Calls prog 103 #[dO K H S,int i64 n] w λe a=>e=returned (int i64 (jl (K*S) n:Nat))/\Below w.heap.size w a:=by
 have a:=bn g;have c:=ae λw=>gU K H S w;have k:=ae λw=>rz K H S w (by omega) (by omega);rw[g] at c;have i:=ae (Blk.new w 25 #[int i64 K,int i64 H,int i64 S]);have d:=ae ((aC w.heap.size w).alloc (aj _) (cells #[int i64 K,int i64 H,int i64 S] 25));have r:1<=K*S:=bC (show 1<=K by omega) (show 1<=S by omega);have s:K*S<=16*24:=bC (by omega) (by omega);generalize K*S=b at*;unfold dO at c k ⊢;clear a g;go_enter func103,ntmps103;go_wp2_with fail;generalize w.alloc (cells #[int i64 K,int i64 H,int i64 S] 25)=t at*;by_cases j:n=0
 ·subst j
  refine(c.o _).mono ?_;rintro e l ⟨rfl,a⟩;have f:=ae (d.o.trans (a.mono d.o.size));clear a;go_wp2_with fail;go_ret;exact⟨rfl,f.o⟩
 ·have u:¬(n:Int)<=0:=by omega
  have v:¬n=0:=j;refine(c.o _).mono ?_;rintro e l ⟨rfl,a⟩;have f:=ae (d.o.trans (a.mono d.o.size));have m:=ae (i.o.below a i.o.lt);obtain⟨x,y,z⟩:=ry m.o;have A:¬(b:Int)=0:=(by omega);have B:((b:Int) == 0)=false:=by simp;omega
  have C:((n:Int)-1).tdiv (b:Int)=(((n-1)/b:Nat):Int):=by
   rw[show(n:Int)-1=((n-1:Nat):Int) by omega];rfl
  have D:(n-1)/b<=1000000:=aP (Nat.div_le_self _ _) (by omega);have o:Sz (jl b n=(n-1)/b+1):=ae (by unfold jl;rw[bA j]);generalize (n-1)/b=E at*;clear a c i d;go_wp2_with fail;refine(k.o _).mono ?_;rintro e F ⟨rfl,a⟩;have p:=ae (f.o.trans (a.mono f.o.size));clear a;go_wp2_with fail;go_ret;exact⟨by rw[o.o];first | rfl | (congr 2),p.o⟩
def yw(s:Nat):Nat:=if s%2=1 then s/2 ^^^ 3988292384 else s/2
def xg:Nat->Nat->Nat | 0,s=>s | k+1,s=>xg k (yw s)
def crcS(s x:Nat):Nat:=xg 8 (s ^^^ x)
def uh(l:SC)(s:Nat):Nat:=l.foldl crcS s
def BX(l:SC):Nat:=uh l 4294967295 ^^^ 4294967295
theorem Pn{s:Nat}(a:s<4294967296):yw s<4294967296:=by
 unfold yw;split
 ·exact Nat.xor_lt_two_pow (n:=32) (by omega) (by omega)
 ·omega
theorem Gi(k:Nat):∀ {s:Nat},s<4294967296->xg k s<4294967296:=by
 induction k with
 | zero=>intro s a;exact a
 | succ k b=>intro s a;exact b (Pn a)
theorem Po{s x:Nat}(a:s<4294967296)(b:x<256):crcS s x<4294967296:=
 Gi 8 (Nat.xor_lt_two_pow (n:=32) a (by omega))
theorem Am:∀(l:SC) (s:Nat),s<4294967296->(∀x∈l,x<256)->uh l s<4294967296:=by
 intro l
 induction l with
 | nil=>intro s a _;exact a
 | cons x l c=>intro s a b;exact c _ (Po a (b x (by simp))) λd e=>b d (by simp[e])
theorem Mw(a b:SC)(s:Nat):uh (a++b) s=uh b (uh a s):=foldl_append
def b4(s:Nat):SC:=[s%256,s/256%256,s/65536%256,s/16777216%256]
def iw(kind:Nat)(body:SC):SC:=[87,115,1,kind]++(body++replicate (55-body.length) 0)
def cellL(kind:Nat)(body:SC):SC:=iw kind body++(b4 (BX (iw kind body))++[165])
def iH(b:SC):Prop:=b.length=64/\1<=b.getD 3 0/\b=cellL (b.getD 3 0) ((b.drop 4).take 55)
theorem zA{kind:Nat}{body:SC}(a:body.length<=55):(iw kind body).length=59:=by simp[iw];omega
theorem iZ{kind:Nat}{body:SC}(a:body.length<=55):(cellL kind body).length=64:=by simp[cellL,b4,zA a]
theorem JK(k:Nat):∀s,xg (k+1) s=yw (xg k s):=by
 induction k with
 | zero=>intro s;rfl
 | succ k a=>intro s;show xg (k+1) (yw s)=yw (xg k (yw s));exact a (yw s)
theorem JL{xs:SC}{k:Nat}(a:k<xs.length)(s:Nat):uh (xs.take (k+1)) s=xg 8 (uh (xs.take k) s ^^^ xs.getD k 0):=by
 rw[aO a,Mw,af,ah a];rfl
theorem Qc(xs:SC)(B:Nat)(a:SE)(n c:Nat)(w:World)(f:Rd w B a n (bK xs))(z:By xs)(O:n<=1000000):
 Calls prog 207 #[slice a n c] w λb d=>b=returned (.int .u32 (BX xs:Nat))/\∃j,d=w.drewN j:=by
 have F:=ae f;have u:=ae z;have A:Sz (xs.length=n):=ae (by have:=f.len;rwa [bL] at this);clear f z;go_enter func207,ntmps207;go_wp2_with fail;go_loopw [3,9] (λp e wr=>∃b:Nat,b<=n/\e=int i64 b/\p=.int .u32 (uh (xs.take b) 4294967295:Nat)/\Sz (∃j,wr=w.drewN j)) (λ_ e _=>n-(intOf e).toNat)
 case atStart=>exact⟨0,by omega,rfl,rfl,ae ⟨0,rfl⟩⟩
 case round=>
  obtain⟨b,P,rfl,rfl,i⟩:=hrel;obtain⟨j,k⟩:=i.o;clear i;by_cases v:b<n
  ·have Q:(b:Int)<(n:Int):=by omega
   have d:b<xs.length:=(by rw[A.o];exact v);obtain⟨G,H,rfl,R,g⟩:=F.o.atB v;have o:wr.cell? ⟨G,H+b,none⟩=some (.int .u8 (xs.getD b 0:Nat)):=(by rw[k];exact g b v);have S:=getD_lt u.o b;have l:=Am (xs.take b) 4294967295 (by omega) λm q=>u.o m (bI q);have I:=ae (JL d 4294967295);have i:=ae k;clear g k d;generalize d:uh (xs.take (b+1)) 4294967295=T at*;have J:=ae d;clear d;generalize uh (xs.take b) 4294967295=x at*;generalize xs.getD b 0=m at*;have q:=u32_xor_nat x m l (by omega);have K:x ^^^ m<4294967296:=Nat.xor_lt_two_pow (n:=32) l (by omega);generalize d:x ^^^ m=r at*;have U:=ae d;clear d;go_wp2_with fail;clear o q;go_loopw [3,17] (λp e g=>∃d:Nat,d<=8/\e=int i64 d/\p=.int .u32 (xg d r:Nat)/\g=wr) (λ_ e _=>8-(intOf e).toNat)
   case atStart=>exact⟨0,by omega,rfl,rfl,rfl⟩
   case round=>
    obtain⟨d,V,rfl,rfl,e⟩:=hrel;have y:=ae e;clear e;by_cases W:d<8
    ·have X:(d:Int)<8:=by omega
     have L:=Gi d K;have C:=ae (JK d r);generalize e:xg (d+1) r=s at*;have D:=ae e;clear e;generalize xg d r=e at*;have g:=u32_and_nat e 1 L (by omega);rw[Nat.and_one_is_mod] at g;by_cases o:e%2=1
     ·have t:s=e/2 ^^^ 3988292384:=by rw[C.o];unfold yw;rw[bu o]
      rw[o] at g;have M:bits .and .u32 (e:Int) 1=1:=g;have N:(e:Int)/2=((e/2:Nat):Int):=(by omega);have q:=u32_xor_nat (e/2) 3988292384 (by omega) (by omega);have E:bits .xor .u32 ((e/2:Nat):Int) 3988292384=(s:Int):=(by rw[t];exact q);generalize e/2=Y at*;clear g q t o;go_wp2_with fail;go_roundw
      case rel=>exact⟨d+1,by omega,by go_num,by rw[D.o],y.o⟩
      case measure=>simp[intOf];omega
     ·have t:s=e/2:=by rw[C.o];unfold yw;rw[bA o]
      have E:e%2=0:=(by omega);rw[E] at g;have M:bits .and .u32 (e:Int) 1=0:=g;have N:(e:Int)/2=(s:Int):=(by omega);clear g t o E;go_wp2_with fail;go_roundw
      case rel=>exact⟨d+1,by omega,by go_num,by rw[D.o],y.o⟩
      case measure=>simp[intOf];omega
    ·obtain rfl:d=8:=by omega
     have e:Sz (∃j,wr=w.drewN j):=ae ⟨j,by rw[y.o,i.o]⟩;go_wp2_with fail;go_roundw
     case rel=>exact⟨b+1,by omega,by go_num,by rw[J.o,I.o],e⟩
     case measure=>simp[intOf];omega
  ·obtain rfl:b=n:=by omega
   rw[aN (by rw[A.o];exact aj _)];have l:=Am xs 4294967295 (by omega) u.o;have f:=u32_xor_nat 4294967295 (uh xs 4294967295) (by omega) l;rw[Nat.xor_comm] at f;have d:Sz (bits .xor .u32 IntKind.u32.max (uh xs 4294967295:Nat)=(BX xs:Nat)):=ae f;have i:=ae k;clear f k l;generalize uh xs 4294967295=p at*;go_wp2_with fail;go_ret;exact⟨congrArg (λm=>Ending.returned (.int .u32 m)) d.o,j,i.o⟩
def bT(n:Nat):Nat->SC | 0=>[] | k+1=>n/256 ^ k%256 :: bT n k
def dJ(l:SC):Nat:=l.foldl (λa b=>a*256+b) 0
theorem dz(n k:Nat):(bT n k).length=k:=by
 induction k with
 | zero=>rfl
 | succ k a=>simp[bT,a]
theorem fB(n k:Nat):∀x∈bT n k,x<256:=by
 induction k with
 | zero=>intro x a;simp[bT] at a
 | succ k c=>
   intro x a;rcases mem_cons.1 a with b | b
   ·rw[b];exact Nat.mod_lt _ (by omega)
   ·exact c x b
theorem told1{n:Nat}(a:n<256):dJ (bT n 1)=n:=by simp[dJ,bT];omega
theorem QF{n:Nat}(a:n<65536):dJ (bT n 2)=n:=by simp[dJ,bT];omega
theorem QG{n:Nat}(a:n<16777216):dJ (bT n 3)=n:=by simp[dJ,bT];omega
theorem yM{n:Nat}(a:n<4294967296):dJ (bT n 4)=n:=by simp[dJ,bT];omega
def jw(a b id K H Z c:Nat)(d:SC):SC:=bT a 3++bT b 1++bT id 2++[K,H,Z]++bT c 4++d
theorem kJ(b c id K H Z d:Nat)(a:SC):(jw b c id K H Z d a).length=13+a.length:=by simp[jw,dz];omega
theorem cell_of{kind:Nat}{body:SC}(d:1<=kind)(e:body.length<=55):iH (cellL kind body)/\(cellL kind body).getD 3 0=kind/\((cellL kind body).drop 4).take 55=body++replicate (55-body.length) 0:=by
 have a:(cellL kind body).getD 3 0=kind:=rfl
 have c:((cellL kind body).drop 4).take 55=body++replicate (55-body.length) 0:=by
  have b:(cellL kind body).drop 4=(body++replicate (55-body.length) 0)++(b4 (BX (iw kind body))++[165]):=rfl;rw[b];exact take_left' (by simp;omega)
 refine⟨⟨iZ e,by rw[a];exact d,?_⟩,a,c⟩;rw[a,c]
 have b:iw kind (body++replicate (55-body.length) 0)=iw kind body:=by
  unfold iw;have:(body++replicate (55-body.length) 0).length=55:=(by simp;omega);rw[this];simp
 unfold cellL;rw[b]
theorem oL{P:Program}(w:World)(T h d:TypeId)(m:P.underlying T=some (.slice d))(n:(P.info? d).map (·.size)=some 1)(g o e i:Nat)(a:SE)(f k:Nat)
 (c:List Value)(t:TypeId)(l:w.heap[g]? =some (.cells c.toArray t (0,0)))(b:List Value)(p:b.length=Nat.min f e)
 (q:0<b.length->∃ad,a=some ad/\∀j v,b[j]? =some v->w.cell? (ad.add j)=some v)(r:o+b.length<=c.length)(s:∀v∈b,v.oneCell'=true):
 ∃w',(Builtin.copy_ #[T,T] h #[slice (some ⟨g,o,none⟩) e i,slice a f k]).run P w=.ok (goInt b.length) w'/\Blk w' g t (splice c o b).toArray/\w.grownBy w' (some g):=by
 by_cases u:b.length=0
 ·obtain rfl:b=[]:=eq_nil_of_length_eq_zero u
  exact⟨w,run_copy_none (P:=P) w T T h d _ _ e i f k m n (by simpa using p.symm),by simpa[splice,Blk] using l,⟨rfl,rfl,rfl,aj _,λ_ _ _=>rfl⟩⟩
 ·obtain⟨ad,rfl,x⟩:=q (by omega)
  exact⟨_,run_copy_row (P:=P) w T T h d g o e i ad f k c.toArray t b m n l p x (by simpa using r) s,by simpa[splice,Blk] using setRow_heap w g c.toArray _ t _ l,
   ⟨rfl,rfl,rfl,by simp[World.setRow],λy _ z=>setRow_other w g y _ (λy=>z (by rw[y]))⟩⟩
theorem lF(L X:SC)(o:Nat):splice (bK L) o (bK X)=bK (splice L o X):=by
 unfold splice bK;rw[aU,aU,map_take,map_drop,aG]
theorem D9{w:World}{g k:Nat}{L:SC}(b:Blk w g 5 (bO L))(d:k<=L.length):Rd w w.heap.size (some ⟨g,0,none⟩) k (bK (L.take k)):=by
 refine⟨by rw[bL,aH];omega,λ_=>⟨g,0,rfl,b.lt,λc e a=> ?_⟩⟩;rw[Nat.zero_add,b.cell c];unfold bK at a;rw[List.getElem?_map,List.getElem?_take] at a;split at a
 ·simpa[bO,bK] using a
 ·simp at a
def uG(s k:Nat):SC:=(b4 s).take k++replicate (5-k) 0
theorem Ea(s:Nat){k:Nat}(a:k<4):(uG s k).set k ((b4 s).getD k 0)=uG s (k+1):=by
 match k,a with
 | 0,_=>rfl
 | 1,_=>rfl
 | 2,_=>rfl
 | 3,_=>rfl
theorem H9(s:Nat):(uG s 4).set 4 165=b4 s++[165]:=rfl
theorem Ia{kind:Nat}{body:SC}(d:body.length<=55):splice (splice (replicate 64 0) 0 [87,115,1,kind]) 4 body=iw kind body++replicate 5 0:=by
 have a:splice (replicate 64 0) 0 [87,115,1,kind]=[87,115,1,kind]++replicate 60 0:=rfl;rw[a]
 have b:splice ([87,115,1,kind]++replicate 60 0) 4 body=[87,115,1,kind]++(body++(replicate 60 0).drop body.length):=by
  unfold splice;rw[take_left' (by rfl),drop_append];simp
 rw[b,drop_replicate];unfold iw;have c:replicate (60-body.length) 0=replicate (55-body.length) 0++replicate 5 (0:Nat):=by rw[replicate_append_replicate];congr 1;omega
 rw[c];simp
theorem wE{H R:SC}{k v:Nat}(a:H.length=59):(H++R).set (59+k) v=H++R.set k v:=by
 rw[set_append_right _ _ (by omega)];congr 2;omega
theorem wF(kind:Nat)(body:SC)(a:SE)(n c:Nat)(w:World)(aa:1<=kind)(ab:kind<=255)(e:Rd w w.heap.size a n (bK body))(F:By body)(hn:n<=55):
 Calls prog 142 #[int i64 kind,slice a n c] w λG b=>∃g,G=returned (slice (some ⟨g,0,none⟩) 64 64)/\w.heap.size<=g/\Blk b g 5 (bO (cellL kind body))/\Below w.heap.size w b:=by
 have i:body.length=n:=by have:=e.len;rwa [bL] at this
 have H:∀w:World,(Instr.makeSlice 30 (int i64 64) (int i64 64)).run prog w=.ok (slice (some ⟨w.heap.size,0,none⟩) 64 64) (w.alloc (cells (bO (replicate 64 0)) 5)):=λw=>eQ (n:=64) (by omega) w;have j:(prog.info? 5).map (·.size)=some 1:=by kernel_rfl
 have h1:¬(kind:Int)<1:=by omega
 have h2:¬(255:Int)<(kind:Int):=by omega
 have h3:¬(55:Int)<(n:Int):=by omega
 have ac:(kind:Int)%256=(kind:Int):=by omega
 have l:=Blk.new w 5 (bO (replicate 64 0));obtain⟨m,s⟩:∃m,m=w.alloc (cells (bO (replicate 64 0)) 5):=⟨_,rfl⟩;rw[<-s] at l;have I:m.heap.size=w.heap.size+1:=by rw[s];simp
 have q:Below w.heap.size w m:=by rw[s];exact(aC _ _).alloc (aj _) _
 have r:=(l.alloc (cells (bO [87,115,1,kind]) 5));have x:=Blk.new m 5 (bO [87,115,1,kind]);obtain⟨t,u⟩:∃t,t=m.alloc (cells (bO [87,115,1,kind]) 5):=⟨_,rfl⟩;rw[<-u] at r x;have y:Below w.heap.size w t:=by rw[u];exact q.alloc q.size _
 obtain⟨J,z,A,K⟩:=oL (P:=prog) t 30 3 5 underlying30 j w.heap.size 0 64 64 (some ⟨m.heap.size,0,none⟩) 4 4 (bK (replicate 64 0)) 5 r (bK [87,115,1,kind]) rfl
  (λ_=>⟨_,rfl,λB L d=>by rw[Addr.add_lit,Nat.zero_add,x.cell B];simpa[bO] using d⟩) (by rw[bL,bL,aJ];show 0+4<=64;omega) (jG _)
 rw[lF] at A;have b:Below w.heap.size w J:=y.grown K y.size (λg f=>by simp at f;omega);have M:=e.below b (aj _)
 obtain⟨o,N,C,O⟩:=oL (P:=prog) J 30 3 5 underlying30 j w.heap.size 4 60 60 a n c (bK (splice (replicate 64 0) 0 [87,115,1,kind])) 5 A (bK body) (by rw[bL,i];exact(Nat.min_eq_left (by omega)).symm)
  (λh=>by
    obtain⟨W,X,rfl,ad,Y⟩:=M.2 (by rw[bL] at h;omega);refine⟨⟨W,X,none⟩,rfl,λB L d=> ?_⟩;rw[Addr.add_lit];exact Y B L d) (by rw[bL,bL,i];show 4+n<=64;omega) (jG _)
 rw[lF,Ia (by omega)] at C;have Q:Below w.heap.size w o:=b.grown O b.size (λg f=>by simp at f;omega);have f:(iw kind body).length=59:=zA (by omega)
 have D:By (iw kind body):=by
  intro R e;unfold iw at e;rcases bF.1 e with e | e
  ·simp at e;omega
  ·rcases bF.1 e with e | e
   ·exact F R e
   ·exact By.zeros _ R e
 have E:Sz (Blk o w.heap.size 5 (bO (iw kind body++uG (BX (iw kind body)) 0))):=ae C
 have S:Rd o o.heap.size (some ⟨w.heap.size,0,none⟩) 59 (bK (iw kind body)):=by
  have:=D9 E.o (k:=59) (by rw[aI,f];omega)
  rwa [take_left' f] at this
 have T:=ae (Qc (iw kind body) _ (some ⟨w.heap.size,0,none⟩) 59 64 o S D (by omega));have U:=ae Q;have v:=ae f;have ag:BX (iw kind body)<4294967296:=Nat.xor_lt_two_pow (n:=32) (Am _ _ (by omega) D) (by omega);have Z:Sz (cellL kind body=iw kind body++(b4 (BX (iw kind body))++[165])):=ae rfl;rw[I] at z;have V:bO [87,115,1,kind]= #[.int .u8 87,.int .u8 115,.int .u8 1,.int .u8 (kind:Int)]:=rfl;rw[V] at u;subst u;subst s;clear I V l r x A K C O q y b Q e M S f D j i F;generalize bO (replicate 64 0)=O at*;generalize b:iw kind body=A at*;have Q:=ae b;clear b;generalize f:BX A=b at*;have S:=ae f;clear f;go_enter func142,ntmps142
 go_wp2_with (first | simp only[H] | simp only[z] | simp only[N])
 refine T.o.mono ?_;rintro G I ⟨rfl,x,rfl⟩;have C:Sz (Blk (o.drewN x) w.heap.size 5 (bO (A++uG b 0))):=ae (E.o.drewN x);have D:=ae (below_drewN U.o x);generalize o.drewN x=I at*;clear T E U H z N
 have y:Sz (∀i,(b4 b).getD i 0<256):=ae λi=>by
  match i with
  | 0=>exact Nat.mod_lt _ (by omega)
  | 1=>exact Nat.mod_lt _ (by omega)
  | 2=>exact Nat.mod_lt _ (by omega)
  | 3=>exact Nat.mod_lt _ (by omega)
  | i+4=>simp[b4]
 generalize j:w.heap.size=f at*;have E:=ae j;clear j;go_wp2_with fail;go_loopw [32] (λi wr=>∃k:Nat,k<=4/\i=int i64 k/\Sz (Blk wr f 5 (bO (A++uG b k)))/\Sz (Below f w wr)) (λi _=>4-(intOf i).toNat)
 case atStart=>exact⟨0,by omega,rfl,C,D⟩
 case round=>
  clear C D;obtain⟨k,T,rfl,l,z⟩:=hrel;by_cases H:k<4
  ·have U:(k:Int)<4:=by omega
   have q:=l.o.set (59+k) (.int .u8 ((b4 b).getD k 0:Nat));rw[mf,wE v.o,Ea b H] at q;have K:=l.o.frozen (59+k)
   obtain⟨r,M⟩:∃r,wr.cell? ⟨f,59+k,none⟩=some r:=by
    refine⟨_,(l.o.cell (59+k)).trans (Array.getElem?_eq_getElem ?_)⟩;rw[kE,aI,v.o];have:(uG b k).length=5:=(by simp[uG,b4];omega);omega
   have i:=ae q;have j:Sz (Below f w (wr.setCell ⟨f,59+k,none⟩ (.int .u8 ((b4 b).getD k 0:Nat)))):=ae (z.o.setCell (p:=⟨f,59+k,none⟩) (aj _) _);clear q l z;have N:k=0\/k=1\/k=2\/k=3:=(by omega);rcases N with rfl | rfl | rfl | rfl
   ·have d:(((b4 b).getD 0 0:Nat):Int)=(b:Int)%256:=by show((b%256:Nat):Int)=_;omega
    rw[d] at i j;clear d y;go_wp2_with fail;exact⟨⟨1,by omega,rfl,i,j⟩,by simp[intOf]⟩
   ·have d:(((b4 b).getD 1 0:Nat):Int)=(b:Int)/256%256:=by show((b/256%256:Nat):Int)=_;omega
    rw[d] at i j;clear d y;go_wp2_with fail;exact⟨⟨2,by omega,rfl,i,j⟩,by simp[intOf]⟩
   ·have d:(((b4 b).getD 2 0:Nat):Int)=(b:Int)/65536%256:=by show((b/65536%256:Nat):Int)=_;omega
    rw[d] at i j;clear d y;go_wp2_with fail;exact⟨⟨3,by omega,rfl,i,j⟩,by simp[intOf]⟩
   ·have d:(((b4 b).getD 3 0:Nat):Int)=(b:Int)/16777216:=by show((b/16777216%256:Nat):Int)=_;omega
    rw[d] at i j;clear d y;go_wp2_with fail;exact⟨⟨4,by omega,rfl,i,j⟩,by simp[intOf]⟩
  ·obtain rfl:k=4:=by omega
   have q:=l.o.set (59+4) (.int .u8 ((165:Nat):Int));rw[mf,wE v.o,H9,<-Z.o] at q;have K:=l.o.frozen 63
   obtain⟨r,M⟩:∃r,wr.cell? ⟨f,63,none⟩=some r:=by
    refine⟨_,(l.o.cell 63).trans (Array.getElem?_eq_getElem ?_)⟩;rw[kE,aI,v.o];show 63<59+5;omega
   have i:Sz (Blk (wr.setCell ⟨f,63,none⟩ (.int .u8 165)) f 5 (bO (cellL kind body))):=ae q;have j:Sz (Below f w (wr.setCell ⟨f,63,none⟩ (.int .u8 165))):=ae (z.o.setCell (p:=⟨f,63,none⟩) (aj _) _);clear q l z;go_wp2_with fail;go_ret;exact⟨f,rfl,by rw[E.o];exact aj _,i.o,by rw[E.o];exact j.o⟩
theorem Bp(kind:Int)(a:SE)(n c:Nat)(w:World)(e:kind<1):
 Calls prog 142 #[int i64 kind,slice a n c] w λb d=>b=returned (slice none 0 0)/\w=d:=by
 go_enter func142,ntmps142;go_wp2_with fail;go_ret;exact⟨rfl,rfl⟩
def kS(xs:SC):List Int:=xs.map λa:Nat=>(a:Int)
theorem Gb{xs ys:SC}(f:By xs)(g:By ys):((strOfNums (kS xs)).toList=(strOfNums (kS ys)).toList)↔xs=ys:=by
 constructor
 ·intro b
  have a:=b;rw[Lib.strOfNums_toList,Lib.strOfNums_toList] at a;unfold Lib.bytesOf kS at a;rw[map_map,map_map] at a;have h:xs.length=ys.length:=(by have:=congrArg List.length a;simpa using this);refine ext_getElem h λi c d=> ?_;have e:=congrArg (λj=>j[i]?) a;simp only[List.getElem?_map,ah c,ah d,Option.map_some,Function.comp,Int.toNat_natCast,Option.some.injEq] at e;have j:=congrArg UInt8.toNat e;have k:=f _ (aQ c);have l:=g _ (aQ d);simp only[UInt8.toNat_ofNat'] at j;omega
 ·intro b;rw[b]
theorem wV{w:World}{B:Nat}{a:SE}{n:Nat}{xs:SC}(f:Rd w B a n (bK xs))(c:Nat):(convert 30 9 (slice a n c)).run prog w=.ok (.string (strOfNums (kS xs))) w:=by
 have d:xs.length=n:=by have:=f.len;rwa [bL] at this
 rcases Nat.eq_zero_or_pos n with e | e
 ·subst e
  obtain rfl:xs=[]:=eq_nil_of_length_eq_zero d;exact run_convert_bytes_zero (P:=prog) w 30 5 underlying30 underlying5 a c 9 underlying9
 ·obtain⟨j,k,rfl,m,l⟩:=f.2 e
  refine run_convert_bytes_arg (P:=prog) w 30 5 underlying30 underlying5 j k n c (kS xs) (by simpa[kS] using d) ?_ 9 underlying9;intro b g;have:=l b (.int .u8 (xs.getD b 0:Nat)) (eP (by rw[d];exact g))
  have h:(kS xs).getD b 0=(xs.getD b 0:Int):=by
   unfold kS;have i:b<xs.length:=(by rw[d];exact g);rw[af,List.getElem?_map,ah i,af,ah i];rfl
  first
  | (rw[h];exact this)
  | (simpa[h] using this)
theorem ib(xs ys:SC)(B C:Nat)(a b:SE)(n m c e:Nat)(w:World)(f:Rd w B a n (bK xs))(g:Rd w C b m (bK ys))(i:By xs)(j:By ys):
 Calls prog 94 #[slice a n c,slice b m e] w λd k=>d=returned (bool (decide (xs=ys)))/\w=k:=by
 have k:=wV f c;have l:=wV g e;have o:=ae (Gb i j);clear f g i j;generalize strOfNums (kS xs)=p at*;generalize strOfNums (kS ys)=q at*;go_enter func94,ntmps94
 go_wp2_with (first | simp only[k] | simp only[l])
 go_ret;have d:(p.toList == q.toList)=decide (xs=ys):=by rw[Bool.eq_iff_iff,beq_iff_eq,decide_eq_true_iff];exact o.o
 exact⟨congrArg (λr=>Ending.returned (.bool r)) d,rfl⟩
theorem mP{w:World}{B:Nat}{a:SE}{n:Nat}{xs:SC}(e:Rd w B a n (bK xs)){o k:Nat}(i:0<k)(j:o+k<=n):∃b p,a=some ⟨b,p,none⟩/\b<B/\Rd w B (some ⟨b,p+o,none⟩) k (bK ((xs.drop o).take k)):=by
 have l:xs.length=n:=by have:=e.len;rwa [bL] at this
 obtain⟨b,p,rfl,f,g⟩:=e.2 (by omega);refine⟨b,p,rfl,f,by rw[bL,aH,length_drop];omega,λ_=>⟨b,p+o,rfl,f,λd h c=> ?_⟩⟩;unfold bK at c;rw[List.getElem?_map,List.getElem?_take] at c;split at c
 ·rw[List.getElem?_drop] at c
  have:=g (o+d) h (by unfold bK;rw[List.getElem?_map];exact c)
  rwa [show p+(o+d)=p+o+d by omega] at this
 ·simp at c
theorem pG(d:SC)(a:SE)(c:Nat)(w:World)(f:Rd w w.heap.size a 64 (bK d))(q:By d)(i:64<=c/\c<=maxLen):
 Calls prog 78 #[slice a 64 c] w λe l=>
  (iH d->∃v,e=returned (.tuple #[int i64 (d.getD 3 0:Nat),v,bool true])/\OwnB l w.heap.size v ((d.drop 4).take 55))/\(¬iH d->e=returned (.tuple #[int i64 0,slice none 0 0,bool false]))/\Below w.heap.size w l:=by
 have b:d.length=64:=by have:=f.len;rwa [bL] at this
 obtain⟨j,p,rfl,N,g⟩:=mP f (o:=4) (k:=55) (by omega) (by omega);obtain⟨O,P,e,X,m⟩:=f.atB (k:=3) (by omega);obtain⟨rfl,rfl⟩:j=O/\p=P:=by simpa using e
 have n:=m 3 (by omega);have s:((d.drop 4).take 55).length=55:=by rw[aH,length_drop];omega
 have u:By ((d.drop 4).take 55):=λr f=>q r (mem_of_mem_drop (bI f));have Q:=getD_lt q 3;have t:=ae g;have x:=ae f;have y:=ae u;have D:=ae q;have z:=ae s;have E:=ae b;obtain⟨Y,Z⟩:=i;have aa:(59:Int)<=(c:Int):=by omega
 have ab:(4:Int)<=(c:Int):=by omega
 have ac:¬c=4:=by omega
 clear m g f u e q s b;obtain⟨b,m⟩:∃b,d.getD 3 0=b:=⟨_,rfl⟩;obtain⟨g,s⟩:∃g,(d.drop 4).take 55=g:=⟨_,rfl⟩;rw[m] at n Q ⊢;rw[s] at t y z ⊢;have R:wrap64 (b:Int)=(b:Int):=by have h:=IntKind.wrap_i64 (b:Int);first | (rw[show wrap64 (b:Int)=IntKind.i64.wrap (b:Int) from rfl,h];omega) | (unfold wrap64;omega)
 have ad:IntKind.i64.wrap (b:Int)=(b:Int):=by rw[IntKind.wrap_i64];omega
 have u:iH d↔(1<=b/\d=cellL b g):=by
  unfold iH;rw[m,s];exact⟨λh=>h.2,λh=>⟨E.o,h⟩⟩
 have A:=ae u;clear m s u;have B:=ae λ(m:World) (h:Rd m m.heap.size (some ⟨j,p+4,none⟩) 55 (bK g))=>ed g _ (some ⟨j,p+4,none⟩) 55 (c-4) m h (aj _) (λe=>by cases e) (by omega);go_enter func78,ntmps78;go_wp2_with fail
 go_region_held3 (λl=>l.cell? ⟨j,p+3,none⟩=some (.int .u8 (b:Nat))) (go_keep) (first
  | (go_at_call 86
     refine(B.o w.drew (t.o.below ((aC w.heap.size w).drew) (aj _))).mono ?_;rintro e m ⟨v,rfl,l,u⟩;obtain⟨F,G,rfl,C,ag⟩:=l.rd2 z.o;have n0:=(u.cell (p:=⟨j,p+3,none⟩) N).trans n;have S:=ae l;have T:=ae C;have s:Sz (Below w.heap.size w m):=ae (((aC w.heap.size w).drew).trans u);have H:=ae (x.o.below s.o (aj _));clear l C u))
 clear B t x n
 try rw[R]
 have t:w.heap.size<=m.heap.size:=s.o.size;by_cases ai:b<1
 ·have C:(b:Int)<1:=by omega
  have u:=ae (Bp (b:Int) F 55 G m C);have n:¬iH d:=λh=>(by have:=(A.o.1 h).1;omega);have l:=ae (ib d [] m.heap.size 0 (some ⟨j,p,none⟩) none 64 0 c 0 m (H.o.more t) (qI _ _ _) D.o (by intro r f;simp at f));rw[decide_eq_false (λe=>by have:=E.o;rw[e] at this;simp at this)] at l;have B:=ae n;clear n;go_wp2_with fail;refine u.o.mono ?_;rintro e x ⟨rfl,rfl⟩;go_wp2_with fail;refine l.o.mono ?_;rintro e I ⟨rfl,rfl⟩;go_wp2_with fail;go_ret3;exact⟨λh=>absurd h B.o,λ_=>rfl,s.o⟩
 ·have u:=ae (wF b g F 55 G m (by omega) (by omega) T.o y.o (by omega))
  have ak:¬(b:Int)<1:=(by omega);go_wp2_with fail;refine u.o.mono ?_;rintro e x ⟨U,rfl,V,J,n⟩;have K:(cellL b g).length=64:=iZ (by rw[z.o];omega);have C:=sw J;rw[K] at C;have L:=ae (s.o.trans (n.mono t))
  have M:By (cellL b g):=by
   intro r f;unfold cellL iw at f;simp only[bF] at f;rcases f with(h | h | h) | h | h
   ·simp at h;omega
   ·exact y.o r h
   ·rw[eq_of_mem_replicate h];decide
   ·simp[b4] at h;omega
   ·simp at h;omega
  have l:=ae (ib d (cellL b g) x.heap.size x.heap.size (some ⟨j,p,none⟩) (some ⟨U,0,none⟩) 64 64 c 64 x ((H.o.below (n.mono t) (aj _)).more (aP t n.size)) C D.o M);have W:=ae ((S.o.below n));clear J C M K n V u;by_cases i:d=cellL b g
  ·rw[bq i] at l
   have n:Sz (iH d):=ae (A.o.2 ⟨by omega,i⟩);clear i;go_wp2_with fail;refine l.o.mono ?_;rintro e I ⟨rfl,rfl⟩;go_wp2_with fail;go_ret3;exact⟨λ_=>⟨_,rfl,W.o.base (aj _)⟩,λh=>absurd n.o h,L.o⟩
  ·rw[decide_eq_false i] at l
   have B:Sz (¬iH d):=ae λh=>i (A.o.1 h).2;clear i;go_wp2_with fail;refine l.o.mono ?_;rintro e I ⟨rfl,rfl⟩;go_wp2_with fail;go_ret3;exact⟨λh=>absurd h B.o,λ_=>rfl,L.o⟩
def ig(q:Nat)(l:SC)(i:Nat):SC:=(l.drop (i*q)).take q++replicate (q-((l.drop (i*q)).take q).length) 0
def mO(q:Nat)(l:SC):List SC:=(range (jl q l.length)).map (ig q l)
theorem Ch(q:Nat)(l:SC)(i:Nat):(ig q l i).length=q:=by
 unfold ig;rw[aI,aJ];have:((l.drop (i*q)).take q).length<=q:=by rw[aH];omega
 omega
theorem cnt_lt{q n i:Nat}(c:1<=q)(a:i<jl q n):i*q<n:=by
 unfold jl at a;split at a
 ·omega
 ·rename_i d
  have b:i<=(n-1)/q:=(by omega);have e:=Nat.mul_le_mul_right q b;have f:=Nat.div_mul_le_self (n-1) q;omega
theorem Gw(q n:Nat):jl q n<=n:=by
 unfold jl;split
 ·omega
 ·have:=Nat.div_le_self (n-1) q
  omega
theorem Ci(K H Z:Nat)(l:SC)(a:SE)(n c:Nat)(w:World)(D:fQ K H Z=true)(E:Rd w w.heap.size a n (bK l))(hn:n<=1000)(hc:n<=c)(hm:c<=maxLen):
 Calls prog 157 #[dO K H Z,slice a n c] w λj b=>∃v,j=returned v/\(rM (mO (K*Z) l)).ok b (Fr w.heap.size) [v]/\Below w.heap.size w b:=by
 have e:=bn D;have b:l.length=n:=by have:=E.len;rwa [bL] at this
 have d:=ae λw=>jS K H Z n w D (by omega);have G:=ae λw=>rz K H Z w (by omega) (by omega);have ao:1<=K*Z:=bC (show 1<=K by omega) (show 1<=Z by omega);have aK:K*Z<=16*24:=bC (by omega) (by omega);have ap:Sz (mO (K*Z) l=(range (jl (K*Z) n)).map (ig (K*Z) l)):=ae (by unfold mO;rw[b]);have aq:=ae λi=>cnt_lt (q:=K*Z) (n:=n) (i:=i) ao;have aL:=Gw (K*Z) n
 have S0:Sz (Sx w (w.alloc (cells #[int i64 K,int i64 H,int i64 Z] 25)) [bY w.heap.size 25 #[int i64 K,int i64 H,int i64 Z],mR a n (bK l)]):=
  ae (((((Sx.nil w).add (mR a n (bK l)) E).alloc _).add (bY _ _ _) (Blk.new w 25 #[int i64 K,int i64 H,int i64 Z])))
 have ar:w.heap.size<=(w.alloc (cells #[int i64 K,int i64 H,int i64 Z] 25)).heap.size:=by simp
 have HL:=ae b;clear E b e D;unfold maxLen at hm;unfold dO at d G ⊢;generalize mO (K*Z) l=SP at*;generalize K*Z=q at*;have au:∀w:World,(Instr.makeSlice 30 (int i64 (q:Int)) (int i64 (q:Int))).run prog w=.ok (slice (some ⟨w.heap.size,0,none⟩) q q) (w.alloc (cells (bO (replicate q 0)) 5)):=λw=>eQ (n:=q) (by omega) w;have av:(prog.info? 5).map (·.size)=some 1:=by kernel_rfl
 generalize b:jl q n=r at*;have HN:=ae b;clear b;go_enter func157,ntmps157;go_wp2_with fail;generalize w.alloc (cells #[int i64 K,int i64 H,int i64 Z] 25)=e at*;refine(d.o _).mono ?_;rintro j w1 ⟨rfl,s⟩;have T:=ae s;have U:Sz (OwnS w1 e.heap.size 30 1 (Fr e.heap.size) (slice none 0 0) (((range 0).map (ig q l)).map rB)):=ae (OwnS.nil _ _ _ _ _);clear s d;go_wp2_with fail;go_loopw [5,12] (λv i wr=>∃k:Nat,k<=r/\i=int i64 k/\Sz (OwnS wr e.heap.size 30 1 (Fr e.heap.size) v (((range k).map (ig q l)).map rB))/\Sz (Below e.heap.size e wr)) (λ_ i _=>r-(intOf i).toNat)
 case atStart=>exact⟨0,by omega,rfl,U,T⟩
 case round=>
  clear U T;obtain⟨k,aM,rfl,t,A⟩:=hrel;have m:=ae (S0.o.step A.o);obtain⟨V,W,X,rfl⟩:=t.o.sl;by_cases aw:k<r
  ·have aR:(k:Int)<(r:Int):=by omega
   have aS:=aq.o k aw;obtain⟨d,o,ea,s,-⟩:=(m.o.rd 1 rfl).2 (by omega);have b:(l.drop (k*q)).length=n-k*q:=(by rw[length_drop,HL.o]);obtain⟨b',p',I,p,g⟩:=mP (m.o.rd 1 rfl) (o:=k*q) (k:=n-k*q) (by omega) (by omega);subst ea;injection I with I;injection I with f J _;subst f J;rw[aN (by rw[b];exact aj _)] at g;obtain⟨u,x,y⟩:=ry (m.o.blk 0 rfl);have ax:Sz (((range (k+1)).map (ig q l)).map rB=((range k).map (ig q l)).map rB++[rB (ig q l k)]):=ae (by rw[range_succ,aU,aU];rfl);have ay:(((range k).map (ig q l)).map rB).length<=1000000:=(by simp;omega);have aT:(k:Int)*(q:Int)=((k*q:Nat):Int):=(by rw[Int.natCast_mul]);have az:Sz (ig q l k=(l.drop (k*q)).take q++replicate (q-((l.drop (k*q)).take q).length) 0):=ae rfl;have aA:=ae (Ch q l k);have z:=ae g;have aB:=ae b;clear g p b;generalize l.drop (k*q)=Y at*;generalize ig q l k=B at*;generalize k*q=p at*;go_wp2_with fail;refine(G.o _).mono ?_;rintro j b ⟨rfl,g⟩;have L:=ae (m.o.step g);have M:=ae (A.o.trans (g.mono A.o.size));have N:=ae (t.o.new g);have aa:=ae ((z.o.below g (aj _)).more g.size);have aV:=g.size;clear g t A m z u x y;have g:=ae (L.o.alloc (cells (bO (replicate q 0)) 5));obtain⟨u,x,y⟩:=ry (g.o.blk 0 rfl);clear g
   go_wp2_with (simp only[])
   clear u x y;have O:=Blk.new b 5 (bO (replicate q 0));have ab:=(aC b.heap.size b).alloc (aj _) (cells (bO (replicate q 0)) 5);have aD:(b.alloc (cells (bO (replicate q 0)) 5)).heap.size=b.heap.size+1:=(by simp);generalize b.alloc (cells (bO (replicate q 0)) 5)=w3 at*;refine(G.o _).mono ?_;rintro j w4 ⟨rfl,Q⟩;have ac:=O.below Q O.lt;have g:Below b.heap.size b w4:=ab.trans (Q.mono (by omega));have ad:=aa.o.below g (aj _)
   obtain⟨S,aE,C,ag⟩:=oL (P:=prog) w4 30 3 5 underlying30 av b.heap.size 0 q q (some ⟨d,o+p,none⟩) (n-p) (c-p) (bK (replicate q 0)) 5 ac (bK (Y.take q))
    (by rw[bL,aH,aB.o];exact Nat.min_comm _ _)
    (λ_=>⟨⟨d,o+p,none⟩,rfl,λai v z=>by
      obtain⟨b2,o2,f,_,aF⟩:=ad.2 (by omega);injection f with f;injection f with f J _;subst f J;rw[Addr.add_lit];refine aF ai v ?_;unfold bK at z ⊢;rw[List.getElem?_map,List.getElem?_take] at z;split at z
      ·rw[List.getElem?_map];exact z
      ·cases z⟩)
    (by rw[bL,bL,aJ,aH];omega) (jG _)
   rw[lF] at C
   have z:splice (replicate q 0) 0 (Y.take q)=B:=by
    rw[az.o];unfold splice;rw[take_zero,nil_append,drop_replicate,Nat.zero_add]
   rw[z] at C;have ai:Below b.heap.size b S:=g.grown ag g.size (λak hg=>by simp at hg;omega);have ak:=M.o.size
   have al:Sz ((rB B).ok S (λd=>Fr e.heap.size d/\some d≠(Value.slice V W X).ownBlock) [slice (some ⟨b.heap.size,0,none⟩) q q]):=ae (by
    have am:B.length=q:=aA.o;have:=oh (F:=λd=>Fr e.heap.size d/\some d≠(Value.slice V W X).ownBlock) C ⟨ak,λj=>by have:=(N.o.lt _ j.symm).2;omega⟩ (by rw[am];unfold maxLen;omega)
    rwa [am] at this)
   have an:=ae ai;have S4:=ae (L.o.step g);obtain⟨u,x,y⟩:=ry (S4.o.blk 0 rfl);have aX:¬c=p:=(by omega);have aY:(p:Int)<=(n:Int):=(by omega);clear O ab aD Q ac g ad C ag z ai L aa
   go_wp2_with (first
    | simp only[]
    | (at_builtin;refine iA (w:=b) (w1:=S) rfl _ _ rfl underlying45 dP rfl (by decide) (by decide) N.o an.o ak ay (R:=rB B) al.o rfl rfl rfl ?_))
   intro O Q g z;rw[<-ax.o] at g;have C:=ae g;have L:=ae (M.o.trans z);clear g z N al an S4 u x y M;obtain⟨g,z,M,rfl⟩:=C.o.sl;go_wp2_with fail;go_roundw
   case rel=>exact⟨k+1,by omega,by go_num,C,L⟩
   case measure=>simp[intOf];omega
  ·obtain rfl:k=r:=by omega
   rw[<-ap.o] at t;go_wp2_with fail;go_ret;exact⟨_,rfl,(rM _).more t.o.fr λd s _=>aP ar s,m.o.1⟩
theorem xc(a:Nat)(b:a<9223372036854775808):(BitVec.ofInt 64 (a:Int)).toNat=a:=by
 rw[BitVec.ofInt_natCast,BitVec.toNat_ofNat];exact Nat.mod_eq_of_lt (by omega)
theorem qR(a b:Nat)(c:a<9223372036854775808)(d:b<9223372036854775808):bits .or .i64 (a:Int) (b:Int)=((a ||| b:Nat):Int):=by
 have e:a ||| b<2 ^ 63:=Nat.or_lt_two_pow (by omega) (by omega)
 show IntKind.i64.wrap ((BitVec.ofInt 64 (a:Int) ||| BitVec.ofInt 64 (b:Int)).toNat:Int)=_;rw[BitVec.toNat_or,xc a c,xc b d,IntKind.wrap_i64];omega
theorem Mm(s x:Nat)(b:x<256):s*256 ||| x=s*256+x:=by
 have a:=Nat.two_pow_add_eq_or_of_lt (i:=8) b s;rw[Nat.mul_comm] at a;exact a.symm
theorem pq{xs:SC}{k:Nat}(a:k<xs.length):dJ (xs.take (k+1))=dJ (xs.take k)*256+xs.getD k 0:=by
 unfold dJ;rw[aO a,foldl_append,af,ah a];rfl
theorem Aj{xs:SC}(a:By xs):∀k,k<=xs.length->dJ (xs.take k)<256 ^ k:=by
 intro k
 induction k with
 | zero=>intro _;exact Nat.one_pos
 | succ k b=>
   intro c;rw[pq (by omega)];have d:=b (by omega);have e:=getD_lt a k;rw[Nat.pow_succ];omega
theorem BO(xs:SC)(B:Nat)(a:SE)(n c:Nat)(w:World)(f:Rd w B a n (bK xs))(m:By xs)(y:n<=4):
 Calls prog 245 #[slice a n c] w λb d=>b=returned (int i64 (dJ xs:Nat))/\∃j,d=w.drewN j:=by
 have s:=ae f;have o:=ae m;have p:Sz (xs.length=n):=ae (by have:=f.len;rwa [bL] at this);clear f m;go_enter func245,ntmps245;go_wp2_with fail;go_loopw [3,8] (λe d wr=>∃b:Nat,b<=n/\d=int i64 b/\e=int i64 (dJ (xs.take b):Nat)/\Sz (∃j,wr=w.drewN j)) (λ_ d _=>n-(intOf d).toNat)
 case atStart=>exact⟨0,by omega,rfl,rfl,ae ⟨0,rfl⟩⟩
 case round=>
  obtain⟨b,z,rfl,rfl,d⟩:=hrel;obtain⟨j,e⟩:=d.o;clear d;by_cases g:b<n
  ·have A:(b:Int)<(n:Int):=by omega
   have i:b<xs.length:=(by rw[p.o];exact g);obtain⟨t,u,rfl,C,k⟩:=s.o.atB g;have D:wr.cell? ⟨t,u+b,none⟩=some (.int .u8 (xs.getD b 0:Nat)):=(by rw[e];exact k b g);have v:=getD_lt o.o b;have q:=ae (pq i);have l:=Aj o.o b (by omega);have r:256 ^ b<=256 ^ 3:=Nat.pow_le_pow_right (by omega) (by omega);have E:dJ (xs.take b)<16777216:=aW l r;have d:Sz (∃j,wr=w.drewN j):=ae ⟨j,e⟩;clear k e i l r;generalize dJ (xs.take b)=i at*;generalize xs.getD b 0=k at*;have l:=qR (i*256) k (by omega) (by omega);rw[Mm i k v,<-q.o] at l;have F:bits .or .i64 ((i:Int)*256) (k:Int)=((dJ (xs.take (b+1)):Nat):Int):=(by rw[<-l];congr 1);generalize r:dJ (xs.take (b+1))=G at*;have x:=ae r;clear l q r;go_wp2_with fail;go_roundw
   case rel=>exact⟨b+1,by omega,by go_num,by rw[x.o],d⟩
   case measure=>simp[intOf];omega
  ·obtain rfl:b=n:=by omega
   rw[aN (by rw[p.o];exact aj _)];have d:=ae e;clear e;go_wp2_with fail;go_ret;exact⟨rfl,j,d.o⟩
theorem mM{w:World}{ops:Array Oper}{rest:List Oper}{o:Oper}{a:Act}{Q:Exit->Act->World->Prop}(i:o.guard=none)(s x:Operand){C B m c:Nat}{v:Value}{ad:SE}{xs ys:SC}
 (j:o.op=.call { callee:=.builtin .append,args:=#[s,x],argTypes:=#[30,30] })
 (f:OwnB w C v xs)(g:C<=w.heap.size)(t:xs.length+m<=1000000)(hs:a.eval s=v)(k:a.eval x=slice ad m c)(l:ad=none->c=0)(h:Rd w B ad m (bK ys))
 (K:∀b d,OwnB d C b (xs++ys)->Below C w d->w.grownBy d v.ownBlock->(b.ownBlock=v.ownBlock\/b.ownBlock=some w.heap.size)->wpList prog ops Q rest (a.put o.dst b) d):
 wpList prog ops Q (o :: rest) a w:=by
 have n:m=ys.length:=by rw[<-h.1,bL]
 refine MU (P:=prog) w i s x 30 j C 5 (.int .u8 0) 1 underlying30 jP rfl v xs.length (bK xs) hs f B ad m c (bK ys) k l h (jG ys) (by omega) (by unfold maxLen;omega) g λb d p e q=> ?_;refine K b d ?_ ((aC _ _).grown e g λr e=>(f.lt r e).1) e q;unfold OwnB;rw[aI,<-n];have r:bK (xs++ys)=bK xs++bK ys:=by unfold bK;rw[aU]
 rw[r];exact p
theorem gG{w:World}{ops:Array Oper}{rest:List Oper}{o:Oper}{a:Act}{Q:Exit->Act->World->Prop}(j:o.guard=none)(s x:Operand){C y:Nat}{i:Int}{v:Value}{xs:SC}(k:i=(y:Int))
 (l:o.op=.call { callee:=.builtin .append,args:=#[s,x],argTypes:=#[30,30] })
 (m:OwnB w C v xs)(f:C<=w.heap.size)(z:xs.length<=1000000)(hs:a.eval s=v)(n:a.eval x=slice (some ⟨w.heap.size,0,none⟩) 1 1)
 (K:∀c b,OwnB b C c (xs++[y])->Below C w b->wpList prog ops Q rest (a.put o.dst c) b):
 wpList prog ops Q (o :: rest) a (w.alloc (cells #[.int .u8 i] 5)):=by
 subst k;have d:=(aC w.heap.size w).alloc (aj _) (cells #[.int .u8 (y:Int)] 5);have g:=m.below d;have h:=aP f d.size;have p:=fe w #[.int .u8 (y:Int)] 5 0;have q:=d.mono f;generalize w.alloc (cells #[.int .u8 (y:Int)] 5)=r at*;refine kD (P:=prog) r j s x 30 l C 5 (.int .u8 0) 1 underlying30 jP rfl v xs.length (bK xs) hs g w.heap.size (.int .u8 (y:Int)) n p rfl (by omega) (by unfold maxLen;omega) h λc b t e A=> ?_;refine K c b ?_ (q.trans ((aC _ _).grown e h λu e=>(g.lt u e).1));unfold OwnB;rw[aI];have u:bK (xs++[y])=bK xs++[.int .u8 (y:Int)]:=by unfold bK;rw[aU];rfl
 rw[u];exact t
theorem MI(n:Nat):∀(s j:Nat),j<s->(bT n s).getD (s-1-j) 0=n/256 ^ j%256:=by
 intro s
 induction s with
 | zero=>intro j a;omega
 | succ s b=>
   intro j a;by_cases c:j=s
   ·subst c;rw[show j+1-1-j=0 by omega];rfl
   ·rw[show s+1-1-j=(s-1-j)+1 by omega]
    exact b j (by omega)
theorem uq(n s m:Nat)(b:m<s):(bT n s).take (s-m)=(bT n s).take (s-(m+1))++[n/256 ^ m%256]:=by
 have a:s-(m+1)<(bT n s).length:=by rw[dz];omega
 have c:s-m=s-(m+1)+1:=by omega
 rw[c,aO a];congr 2;have:=MI n s m b;rw[show s-1-m=s-(m+1) by omega,af,ah a] at this;exact this
theorem yz(v:Value)(xs:SC)(C n s:Nat)(w:World)(p:OwnB w C v xs)(t:C<=w.heap.size)(E:n<4294967296)(hs:s<=4)(F:xs.length<=1000):
 Calls prog 227 #[v,int i64 n,int i64 s] w λc a=>∃b,c=returned b/\OwnB a C b (xs++bT n s)/\Below C w a:=by
 have q:Sz (OwnB w C v (xs++(bT n s).take (s-s))):=ae (by rw[Nat.sub_self,take_zero,append_nil];exact p);have r:Sz (Below C w w):=ae (aC _ _);have u:IntKind.i64.wrap ((s:Int)-1)=(s:Int)-1:=by rw[IntKind.wrap_i64];omega
 obtain⟨G,H,rfl,-⟩:=p.rd;clear p;go_enter func227,ntmps227;go_wp2_with fail;go_loopw [0,7] (λb a wr=>∃g:Nat,g<=s/\a=int i64 ((g:Int)-1)/\Sz (OwnB wr C b (xs++(bT n s).take (s-g)))/\Sz (Below C w wr)) (λ_ a _=>(intOf a+1).toNat)
 case atStart=>exact⟨s,aj _,rfl,q,r⟩
 case round=>
  clear q r u;obtain⟨g,I,rfl,a,e⟩:=hrel;have m:C<=wr.heap.size:=aP t e.o.size;by_cases x:g=0
  ·subst x
   rw[Nat.sub_zero,aN (by rw[dz];exact aj _)] at a;generalize b:xs++bT n s=z at*;have c:=ae b;clear b;obtain⟨A,B,rfl,-⟩:=a.o.rd;go_wp2_with fail;go_ret;exact⟨_,rfl,by rw[c.o];exact a.o,e.o⟩
  ·obtain⟨b,rfl⟩:∃b,g=b+1:=⟨g-1,by omega⟩
   have o:(xs++(bT n s).take (s-(b+1))).length<=1000000:=(by rw[aI,aH,dz];omega);have f:Sz (xs++(bT n s).take (s-b)=xs++(bT n s).take (s-(b+1))++[n/256 ^ b%256]):=ae (by rw[uq n s b (by omega),append_assoc]);generalize xs++(bT n s).take (s-(b+1))=z at*;obtain⟨A,B,rfl,-⟩:=a.o.rd;have D:b=0\/b=1\/b=2\/b=3:=(by omega);rcases D with rfl | rfl | rfl | rfl
   ·go_wp2_with (at_builtin;refine gG (w:=wr) (C:=C) (y:=n%256) rfl _ _ ?hi rfl a.o m o rfl rfl ?_)
    case hi=>omega
    intro i j c d;have k:Sz (OwnB j C i (xs++(bT n s).take (s-0))):=ae (by rw[f.o,show n/256 ^ 0%256=n%256 by simp];exact c);have l:=ae (e.o.trans d);clear c d a e f;go_wp2_with fail;go_roundw
    case rel=>exact⟨0,by omega,by go_num,k,l⟩
    case measure=>simp[intOf]
   ·go_wp2_with (at_builtin;refine gG (w:=wr) (C:=C) (y:=n/256%256) rfl _ _ ?hi rfl a.o m o rfl rfl ?_)
    case hi=>omega
    intro i j c d;have k:Sz (OwnB j C i (xs++(bT n s).take (s-1))):=ae (by rw[f.o,show n/256 ^ 1%256=n/256%256 by simp];exact c);have l:=ae (e.o.trans d);clear c d a e f;go_wp2_with fail;go_roundw
    case rel=>exact⟨1,by omega,by go_num,k,l⟩
    case measure=>simp[intOf]
   ·go_wp2_with (at_builtin;refine gG (w:=wr) (C:=C) (y:=n/65536%256) rfl _ _ ?hi rfl a.o m o rfl rfl ?_)
    case hi=>omega
    intro i j c d;have k:Sz (OwnB j C i (xs++(bT n s).take (s-2))):=ae (by rw[f.o,show n/256 ^ 2%256=n/65536%256 by simp];exact c);have l:=ae (e.o.trans d);clear c d a e f;go_wp2_with fail;go_roundw
    case rel=>exact⟨2,by omega,by go_num,k,l⟩
    case measure=>simp[intOf]
   ·go_wp2_with (at_builtin;refine gG (w:=wr) (C:=C) (y:=n/16777216%256) rfl _ _ ?hi rfl a.o m o rfl rfl ?_)
    case hi=>omega
    intro i j c d;have k:Sz (OwnB j C i (xs++(bT n s).take (s-3))):=ae (by rw[f.o,show n/256 ^ 3%256=n/16777216%256 by simp];exact c);have l:=ae (e.o.trans d);clear c d a e f;go_wp2_with fail;go_roundw
    case rel=>exact⟨3,by omega,by go_num,k,l⟩
    case measure=>simp[intOf]
theorem PP{l:SC}{w:World}{F:Nat->Prop}{a:SE}{m c k:Nat}(f:(rB l).ok w F [slice a m c])(y:k<=m):(rB (l.take k)).ok w F [slice a k k]:=by
 obtain⟨g,h,i,b,z,A,j,n,o⟩:=f;obtain⟨⟨rfl,rfl,rfl⟩,-⟩:(a=g/\m=h/\c=i)/\True:=by injection b with b _;injection b with e p q;exact⟨⟨e,p,q⟩,trivial⟩
 refine⟨a,k,k,rfl,aj _,by omega,λb=>by have:=j b;omega,?_,λB=> ?_⟩
 ·rw[bL] at n ⊢
  rw[aH];omega
 ·obtain⟨r,s,e,t,u⟩:=o (by omega)
  refine⟨r,s,e,t,λv x d=>u v x ?_⟩;unfold bK at d ⊢;rw[List.getElem?_map,List.getElem?_take] at d;split at d
  ·rw[List.getElem?_map];exact d
  ·cases d
theorem xC{q:Nat}:∀ {L:List SC},(∀x∈L,x.length=q)->L.flatten.length=L.length*q:=by
 intro L
 induction L with
 | nil=>intro _;simp
 | cons x L b=>intro a;rw[flatten_cons,aI,a x (by simp),b λc d=>a c (by simp[d]),length_cons,Nat.succ_mul];omega
theorem M3{q n:Nat}(a:1<=q):n<=jl q n*q:=by
 unfold jl;split
 ·omega
 ·have b:=Nat.div_add_mod (n-1) q
  have c:=Nat.mod_lt (n-1) (show 0<q by omega);rw[Nat.succ_mul,Nat.mul_comm];omega
theorem OwnB.sl{w:World}{C:Nat}{v:Value}{l:SC}(b:OwnB w C v l):∃a n c,v=slice a n c/\l.length=n:=by
 obtain⟨a,c,d,_⟩:=b.rd;exact⟨a,_,c,d,rfl⟩
theorem EU(K H Z:Nat)(L:List SC)(F:Nat->Prop)(a:SE)(N c n:Nat)(w:World)(k:fQ K H Z=true)(l:(rM L).ok w F [slice a N c])(u:L.length=N)(m:N=jl (K*Z) n)(o:∀x∈L,x.length=K*Z)(hn:n<=1000):
 Calls prog 115 #[dO K H Z,slice a N c,int i64 n] w λr b=>∃v,r=returned (.tuple #[v,bool true])/\(rB (L.flatten.take n)).ok b (Fr w.heap.size) [v]/\Below w.heap.size w b:=by
 have f:=bn k;obtain⟨a1,c1,y,d,-⟩:=fE l u;injection y with y _ V;subst y V;have e:=ae λw=>gU K H Z w;rw[k] at e;have i:=ae λw=>jS K H Z n w k (by omega);rw[<-m] at i;have M:=ae λw=>rz K H Z w (by omega) (by omega);have W:1<=K*Z:=bC (show 1<=K by omega) (show 1<=Z by omega);have am:K*Z<=16*24:=bC (by omega) (by omega);have X:=Gw (K*Z) n;rw[<-m] at X;have z:=M3 (n:=n) W;rw[<-m] at z;have Y:=ae (xC o);have aa:=ae λb=>xC (L:=L.take b) (q:=K*Z) λx l=>o x (bI l);have an:N*(K*Z)<=1000*384:=bC (by omega) (by omega)
 have A:Sz (Sx w (w.alloc (cells #[int i64 K,int i64 H,int i64 Z] 25)) [bY w.heap.size 25 #[int i64 K,int i64 H,int i64 Z],yf a N L]):=
  ae (((((Sx.nil w).add (yf a N L) d).alloc _).add (bY _ _ _) (Blk.new w 25 #[int i64 K,int i64 H,int i64 Z])))
 have ab:w.heap.size<=(w.alloc (cells #[int i64 K,int i64 H,int i64 Z] 25)).heap.size:=by simp
 have s:=ae u;have HL:=ae o;clear l d f k o u m;unfold dO at e i M ⊢;generalize K*Z=q at*;go_enter func115,ntmps115;go_wp2_with fail;generalize w.alloc (cells #[int i64 K,int i64 H,int i64 Z] 25)=f at*;refine(e.o _).mono ?_;rintro r w1 ⟨rfl,d⟩;have j:=ae d;have g:=ae (A.o.step d);obtain⟨B,C,D⟩:=ry (g.o.blk 0 rfl);clear d e;go_wp2_with fail;refine(i.o _).mono ?_;rintro r w2 ⟨rfl,d⟩;have O:=ae (j.o.trans (d.mono j.o.size));have P:Sz (OwnB w2 f.heap.size (slice none 0 0) (L.take 0).flatten):=ae (OwnB.nil _ _);clear d i g j B C D;go_wp2_with fail;go_loopw [8,28] (λv e wr=>∃b:Nat,b<=N/\e=int i64 b/\Sz (OwnB wr f.heap.size v (L.take b).flatten)/\Sz (Below f.heap.size f wr)) (λ_ e _=>N-(intOf e).toNat)
 case atStart=>exact⟨0,by omega,rfl,P,O⟩
 case round=>
  clear P O;obtain⟨b,ao,rfl,i,e⟩:=hrel;have g:=ae (A.o.step e.o);obtain⟨bv,nv,cv,rfl,t⟩:=i.o.sl;have E:=aa.o b;rw[aH,s.o] at E;by_cases Q:b<N
  ·have ap:(b:Int)<(N:Int):=by omega
   have J:RdM f f.heap.size a N L:=A.o.get 1 rfl;obtain⟨G,R,a',c',rfl,d,S,T,ac,aq,ad⟩:=J.at Q;have ag:wr.cell? ⟨G,R+b,none⟩=some (slice a' (L.getD b []).length c'):=(e.o.cell (p:=⟨G,R+b,none⟩) d).trans S;have I:=ae (T.below e.o (aj _));have j:b<L.length:=(by rw[s.o];exact Q);have U:(L.getD b []).length=q:=HL.o _ (by rw[af,ah j];exact aQ j);rw[U] at ag I;have HT:Sz ((L.take (b+1)).flatten=(L.take b).flatten++L.getD b []):=ae (by rw[aO j,flatten_append,af,ah j];simp);obtain⟨B,C,D⟩:=ry (g.o.blk 0 rfl);have ar:((q:Int) != (q:Int))=false:=by simp
   have ai:(L.take b).flatten.length+q<=1000000:=by
    have:min b N*q<=N*q:=Nat.mul_le_mul_right _ (Nat.min_le_right _ _);omega
   clear J S T U j E t;generalize L.getD b []=au at*;go_wp2_with fail;refine(M.o _).mono ?_;rintro r w3 ⟨rfl,j⟩;have J:=ae (e.o.trans (j.mono e.o.size));have S:=ae (i.o.below j);have T:=ae (I.o.below j e.o.size);have ak:=J.o.size;clear j e i I B C D g
   go_wp2_with (at_builtin;refine mM rfl _ _ rfl S.o ak ai rfl rfl ac T.o ?_)
   intro v4 w4 j I _ _;rw[<-HT.o] at j;have U:=ae j;have al:=ae (J.o.trans I);clear j I S J T;obtain⟨b4,j,I,rfl,-⟩:=U.o.sl;go_wp2_with fail;go_roundw
   case rel=>exact⟨b+1,by omega,by go_num,U,al⟩
   case measure=>simp[intOf];omega
  ·obtain rfl:b=N:=by omega
   rw[aN (by rw[s.o];exact aj _)] at i t;have j:n<=nv:=(by rw[<-t,Y.o,s.o];exact z);have I:=ae (PP (gK i.o) j);have J:=i.o.caps;have ad:(n:Int)<=(cv:Int):=(by omega);have R:(0:Int)<=(n:Int):=(by omega);clear E t z;go_wp2_with fail;go_ret2;exact⟨_,rfl,(rB _).more I.o λG d _=>aP ab d,g.o.1⟩
