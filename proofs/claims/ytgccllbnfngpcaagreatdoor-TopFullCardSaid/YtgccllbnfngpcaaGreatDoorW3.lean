import Derived.Test.YtgccllbnfngpcaaGreatDoorW2
import Derived.Deep.DeepCutAuto
import Derived.Deep.RegionLaw
set_option linter.unusedVariables false
set_option maxRecDepth 100000
set_option maxHeartbeats 400000000
namespace Go.Proofs.YtgccllbnfngpcaaGreatDoor
open Go.RowKit _root_.Go.Proofs.Tryz List
open Value (int slice pointer bool)
open IntKind (i64)
open Ending (returned)
open Obj (cells)
theorem dA:(prog.info? 30).map (λa=>(a.zero,a.size,a.bytes))=some (some (slice none 0 0),1,24):=by kernel_rfl
theorem dJ(xs:PI)(B:Nat)(a:PK)(n c:Nat)(w:World)(b:Rd w B a n (bF xs))(t:B<=w.heap.size)(f:a=none->c=0)(u:n<=1000000):
 Calls prog 86 #[slice a n c] w λd e=>∃v,d=returned v/\OwnB e w.heap.size v xs/\Below w.heap.size w e:=by
 have e:xs.length=n:=by have:=b.len;rwa [bG] at this
 cases a with
 | none=>
   obtain rfl:=f rfl
   have g:n=0:=by
    rcases Nat.eq_zero_or_pos n with h | h
    ·exact h
    ·obtain⟨i,j,d,_⟩:=b.2 h
     cases d
   subst g;obtain rfl:xs=[]:=eq_nil_of_length_eq_zero e;have o:=λd=>Lib.run_eql_slice_nil (P:=prog) d 30 5 none 0 0 0 0 underlying30;clear b f e;go_enter func86,ntmps86;go_wp2_with fail;go_ret;exact⟨_,rfl,OwnB.nil _ _,az _ _⟩
 | some g=>
   have o:=λd=>Lib.run_eql_slice_nil (P:=prog) d 30 5 (some g) n c 0 0 underlying30;have p:=ae b;have i:=ae e;clear b f e;go_enter func86,ntmps86
   go_wp2_with (at_builtin;refine zP _ rfl _ _ 30 rfl w.heap.size 5 (.int .u8 0) 1 underlying30 iW rfl (slice (some ⟨w.heap.size,0,none⟩) 0 0) 0 [] rfl ?o1 B g n c (bF xs) rfl ?o2 (iI xs) ?o3 ?o4 ?o5 ?_)
   case o1=>exact World.ownsRow_made w #[] 0 (aj _) (by unfold maxLen;omega) (by simp)
   case o2=>exact p.o.keep (λd j=>World.cell?_alloc_lt _ _ _ (by omega))
   case o3=>omega
   case o4=>unfold maxLen;omega
   case o5=>simp
   intro v j d k q;have l:Below w.heap.size w j:=((az _ _).alloc (aj _) _).grown k (by simp) (λr m=>by simp[Value.ownBlock] at m;omega);have m:OwnB j w.heap.size v xs:=(by first | (rw[<-i.o] at d;exact d) | (rw[Nat.zero_add,nil_append,<-i.o] at d;exact d));have r:=ae m;have s:=ae l;clear d k l q m;go_wp2_with fail;go_ret;exact⟨_,rfl,r.o,s.o⟩
theorem rq{w0 w1:World}{ops:Array Oper}{rest:List Oper}{o:Oper}{a:Act}{Q:Exit->Act->World->Prop}(q:o.guard=none)(s x:Operand){C:Nat}{v u:Value}{M:List PI}{l:PI}
 (r:o.op=.call { callee:=.builtin .append,args:=#[s,x],argTypes:=#[45,45] })
 (b:MOwn w0 C v M)(f:Below w0.heap.size w0 w1)(i:OwnB w1 w0.heap.size u l)(j:C<=w0.heap.size)(G:M.length<=1000000)
 (hs:a.eval s=v)(t:a.eval x=slice (some ⟨w1.heap.size,0,none⟩) 1 1)
 (K:∀c d,MOwn d C c (M++[l])->Below C w0 d->(w1.alloc (cells #[u] 30)).grownBy d v.ownBlock->(c.ownBlock=v.ownBlock\/c.ownBlock=some (w1.heap.size+1))->wpList prog ops Q rest (a.put o.dst c) d):
 wpList prog ops Q (o :: rest) a (w1.alloc (cells #[u] 30)):=by
 obtain⟨k,b⟩:=b;have H:=f.size;have w:=b.new f;have m:=(az w1.heap.size w1).alloc (aj _) (cells #[u] 30);have n:=w.new m;have y:u.oneCell'=true:=by obtain⟨I,J,z,_⟩:=i.rd;rw[z];rfl
 refine jv (P:=prog) _ q s x 45 r C 30 (slice none 0 0) 24 underlying45 dA rfl v M.length k hs n.hd w1.heap.size u t (dZ w1 #[u] _ 0) y (by omega) (by unfold maxLen;omega) (by simp;omega) λc d A g B=> ?_;have D:∀(p:Nat) h,k[p]? =some h->∀e,h.ownBlock=some e->e<w0.heap.size:=λp h E e F=>((b.of E).1.lt e F).2;refine K c d ⟨_,n.snoc D j (i.below m) A g⟩ ?_ g (by rcases B with b | b;exact .inl b;right;rw[b];simp);refine(((f.mono j).alloc (by omega) _).grown g (by simp;omega) λe h=> ?_);exact(b.hd.lt e h).1
theorem yw(n m:Nat)(M:List PI)(B:Nat)(a:PK)(c:Nat)(w:World)(h:RdM w B a m M)(f:Wf n M)(s:n<=64)(t:m<=1000000):
 Calls prog 269 #[slice a m c] w λd b=>d=returned (bool true)/\w=b:=by
 have e:=ae h;have g:=ae f;clear h f;go_enter func269,ntmps269;go_wp2_with fail;go_loopw [4,7] (λ_ i wr=>∃b:Nat,b<=m/\i=int i64 b/\wr=w) (λ_ i _=>m-(intOf i).toNat)
 case atStart=>exact⟨0,by omega,rfl,rfl⟩
 case round=>
  obtain⟨b,u,rfl,rfl⟩:=hrel;by_cases l:b<m
  ·obtain⟨v,x,y,z,rfl,A,o,_⟩:=e.o.at (show 0<m by omega)
   obtain⟨C,D,E,F,d,_,p,_⟩:=e.o.at l;injection d with d;injection d with q r G;subst q r;have j:=(g.o.get (i:=0) (by rw[e.o.len];omega)).1;have k:=(g.o.get (i:=b) (by rw[e.o.len];omega)).1;rw[j,Nat.add_zero] at o;rw[k] at p;have H:((n:Int) != (n:Int))=false:=(by simp);have I:(b:Int)<(m:Int):=(by omega);have J:¬((n:Int)>64):=(by omega);clear j k;go_wp2_with fail;go_roundw
   case rel=>exact⟨b+1,by omega,by go_num,by first | trivial | rfl⟩
   case measure=>simp[intOf];omega
  ·obtain rfl:b=m:=by omega
   go_wp2_with fail;go_ret;exact⟨rfl,rfl⟩
theorem Eo(M:List PI)(B:Nat)(a:PK)(m c:Nat)(w:World)(h:RdM w B a m M)(G:B<=w.heap.size)(t:∀l∈M,l.length<=1000000)(X:m<=1000000):
 Calls prog 271 #[slice a m c] w λe b=>∃g c',e=returned (slice (some ⟨g,0,none⟩) m c')/\MOwn b w.heap.size (slice (some ⟨g,0,none⟩) m c') M/\Below w.heap.size w b:=by
 have H:=ae (h.more G);have I:=ae t;have q:=ae h.len;clear h t;obtain⟨J,b,d,f,i⟩:=info_parts dA
 have j:∀w:World,(Instr.makeSlice 45 (int i64 0) (int i64 (m:Int))).run prog w=.ok (slice (some ⟨w.heap.size,0,none⟩) 0 m) (w.alloc (cells (madeCells #[Value.slice none 0 0] m) 30)):=by
  intro w;have h:=run_make (P:=prog) w 45 30 J (slice none 0 0) underlying45 b d .i64 .i64 0 (m:Int) (by omega) (by omega) (by rw[i];omega) (by omega);rw[f,Nat.mul_one,Int.toNat_zero,Int.toNat_natCast] at h;exact h
 have o:(madeCells #[Value.slice none 0 0] m).size=m*1:=by rw[size_madeCells,Nat.mul_one]
 clear b d f i;generalize madeCells #[Value.slice none 0 0] m=n at*;go_enter func271,ntmps271
 go_wp2_with (simp only[j])
 have k:PH (∃g d,Value.slice (some ⟨w.heap.size,0,none⟩) 0 m=slice (some ⟨g,0,none⟩) 0 d/\MOwn (w.alloc (.cells n 30)) w.heap.size (Value.slice (some ⟨w.heap.size,0,none⟩) 0 m) (M.take 0)):=ae ⟨_,_,rfl,[],World.ownsRow_made w n m (aj _) (by unfold maxLen;omega) o,by simp,by simp⟩;have f:=ae ((az w.heap.size w).alloc (aj _) (.cells n 30));clear j o;generalize w.alloc (.cells n 30)=w1 at*;generalize b:w.heap.size=j at*;have r:=ae b;clear b;go_loopw [3,5,11] (λo _ i wr=>∃b:Nat,b<=m/\i=int i64 b/\PH (∃g d,o=slice (some ⟨g,0,none⟩) b d/\MOwn wr j o (M.take b))/\PH (Below j w wr)) (λ_ _ i _=>m-(intOf i).toNat)
 case atStart=>exact⟨0,by omega,rfl,k,f⟩
 case round=>
  clear k f;obtain⟨b,Y,rfl,k,f⟩:=hrel;by_cases u:b<m
  ·obtain⟨g,d,rfl,i⟩:=k.o
   have o:b<M.length:=(by rw[q.o];exact u);have K:=i.caps;obtain⟨L,N,O,c',rfl,Q,s,v,x,R,_⟩:=H.o.at u;have Z:=(f.o.cell (p:=⟨L,N+b,none⟩) Q).trans s;have y:j<=wr.heap.size:=(by have:=f.o.size;have:=r.o;omega);have z:=v.below f.o (aj _)
   have A:M.take (b+1)=M.take b++[M.getD b []]:=by
    rw[aN o,af,ah o];rfl
   have C:=I.o _ (mP o);have D:=ae (dJ (M.getD b []) j O (M.getD b []).length c' wr z y x C);have E:=ae A;have F:=ae i;have aa:(b:Int)<(m:Int):=(by omega);have S:(M.take b).length<=1000000:=(by rw[aG];omega);clear A C s v z i K R x o;generalize M.getD b []=l at*;go_wp2_with fail;refine D.o.mono ?_;rintro e C ⟨ab,rfl,o,s⟩;obtain⟨ua,uc,rfl,_⟩:=o.rd;have v:=ae o;have x:=ae s;clear o s D
   go_wp2_with (at_builtin;refine rq (w0:=wr) (w1:=C) rfl _ _ rfl F.o x.o v.o y S rfl rfl ?_)
   intro o D s z K R
   have A:∃g d,o=slice (some ⟨g,0,none⟩) (b+1) d:=by
    obtain⟨vs,T⟩:=s;obtain⟨g,U,e,_⟩:=T.form (by simp);refine⟨g,U,?_⟩;rw[e];congr 1;rw[aH,aG,length_singleton];have:=q.o;omega
   have V:PH (∃g d,o=slice (some ⟨g,0,none⟩) (b+1) d/\MOwn D j o (M.take (b+1))):=ae (by
    obtain⟨g,d,e⟩:=A;exact⟨g,d,e,by rw[E.o];exact s⟩)
   have W:=ae (f.o.trans z);clear s z K R A F x v E;go_wp2_with fail;go_roundw
   case rel=>exact⟨b+1,by omega,by go_num,V,W⟩
   case measure=>simp[intOf];omega
  ·obtain rfl:b=m:=by omega
   have o:PH (∃g d,u3=slice (some ⟨g,0,none⟩) b d/\MOwn wr j u3 M):=ae (by
    obtain⟨g,d,e,i⟩:=k.o;exact⟨g,d,e,by rw[aJ (by rw[q.o];exact aj _)] at i;exact i⟩)
   go_wp2_with fail;go_ret;obtain⟨g,d,e,i⟩:=o.o;subst e;exact⟨g,d,rfl,by rw[r.o];exact i,by rw[r.o];exact f.o⟩
theorem z8(p:PK)(w:World)(a:Fp w p):
 Calls prog 273 #[.pointer p] w λb c=>∃g,b=returned (pointer (some ⟨g,0,none⟩))/\Fld c g/\Below w.heap.size w c:=by
 rcases a with rfl | ⟨g,rfl,a⟩
 ·go_enter func273,ntmps273
  go_wp2_with fail;refine(oV _).mono ?_;rintro b d ⟨g,rfl,e,a,c⟩;go_wp2_with fail;go_ret;exact⟨g,rfl,a,c⟩
 ·go_enter func273,ntmps273
  go_wp2_with fail;go_ret;exact⟨g,rfl,a,az _ _⟩
theorem xc(M:List PI)(B:Nat)(a:PK)(m c:Nat)(w:World)(h:RdM w B a m M)(f:m<=1000000):
 Calls prog 270 #[slice a m c] w λb d=>b=returned (int i64 (wid M:Nat))/\w=d:=by
 rcases Nat.eq_zero_or_pos m with d | d
 ·subst d
  obtain rfl:M=[]:=eq_nil_of_length_eq_zero h.len;clear h;go_enter func270,ntmps270;go_wp2_with fail;go_ret;exact⟨rfl,rfl⟩
 ·obtain⟨g,i,j,k,rfl,l,e,_⟩:=h.at d
  have b:(M.getD 0 []).length=wid M:=rfl;rw[b,Nat.add_zero] at e;have n:((m:Int) == 0)=false:=(by rw[beq_eq_false_iff_ne];omega);have o:(0:Int)<(m:Int):=(by omega);clear h b;generalize wid M=b at*;go_enter func270,ntmps270;go_wp2_with fail;go_ret;exact⟨rfl,rfl⟩
theorem qD{w:World}{B:Nat}{a:PK}{n:Nat}{xs:PI}(e:Rd w B a n (bF xs)){o k:Nat}(i:0<k)(j:o+k<=n):∃b p,a=some ⟨b,p,none⟩/\b<B/\Rd w B (some ⟨b,p+o,none⟩) k (bF ((xs.drop o).take k)):=by
 have l:xs.length=n:=by have:=e.len;rwa [bG] at this
 obtain⟨b,p,rfl,f,g⟩:=e.2 (by omega);refine⟨b,p,rfl,f,by rw[bG,aG,length_drop];omega,λ_=>⟨b,p+o,rfl,f,λd h c=> ?_⟩⟩;unfold bF at c;rw[List.getElem?_map,List.getElem?_take] at c;split at c
 ·rw[List.getElem?_drop] at c
  have:=g (o+d) h (by unfold bF;rw[List.getElem?_map];exact c)
  rwa [show p+(o+d)=p+o+d by omega] at this
 ·simp at c
theorem xk(d:PI)(a:PK)(c:Nat)(w:World)(f:Rd w w.heap.size a 64 (bF d))(q:By d)(i:64<=c/\c<=maxLen):
 Calls prog 78 #[slice a 64 c] w λe l=>
  (jf d->∃v,e=returned (.tuple #[int i64 (d.getD 3 0:Nat),v,bool true])/\OwnB l w.heap.size v ((d.drop 4).take 55))/\(¬jf d->e=returned (.tuple #[int i64 0,slice none 0 0,bool false]))/\Below w.heap.size w l:=by
 have b:d.length=64:=by have:=f.len;rwa [bG] at this
 obtain⟨j,p,rfl,N,g⟩:=qD f (o:=4) (k:=55) (by omega) (by omega);obtain⟨O,P,e,X,m⟩:=f.atB (k:=3) (by omega);obtain⟨rfl,rfl⟩:j=O/\p=P:=by simpa using e
 have n:=m 3 (by omega);have s:((d.drop 4).take 55).length=55:=by rw[aG,length_drop];omega
 have u:By ((d.drop 4).take 55):=λr f=>q r (mem_of_mem_drop (bD f));have Q:=getD_lt q 3;have t:=ae g;have x:=ae f;have y:=ae u;have D:=ae q;have z:=ae s;have E:=ae b;obtain⟨Y,Z⟩:=i;have aa:(59:Int)<=(c:Int):=by omega
 have ab:(4:Int)<=(c:Int):=by omega
 have ac:¬c=4:=by omega
 clear m g f u e q s b;obtain⟨b,m⟩:∃b,d.getD 3 0=b:=⟨_,rfl⟩;obtain⟨g,s⟩:∃g,(d.drop 4).take 55=g:=⟨_,rfl⟩;rw[m] at n Q ⊢;rw[s] at t y z ⊢;have R:wrap64 (b:Int)=(b:Int):=by have h:=IntKind.wrap_i64 (b:Int);first | (rw[show wrap64 (b:Int)=IntKind.i64.wrap (b:Int) from rfl,h];omega) | (unfold wrap64;omega)
 have ad:IntKind.i64.wrap (b:Int)=(b:Int):=by rw[IntKind.wrap_i64];omega
 have u:jf d↔(1<=b/\d=cellL b g):=by
  unfold jf;rw[m,s];exact⟨λh=>h.2,λh=>⟨E.o,h⟩⟩
 have A:=ae u;clear m s u;have B:=ae λ(m:World) (h:Rd m m.heap.size (some ⟨j,p+4,none⟩) 55 (bF g))=>dJ g _ (some ⟨j,p+4,none⟩) 55 (c-4) m h (aj _) (λe=>by cases e) (by omega);go_enter func78,ntmps78;go_wp2_with fail
 go_region_held3 (λl=>l.cell? ⟨j,p+3,none⟩=some (.int .u8 (b:Nat))) (go_keep) (first
  | (go_at_call 86
     refine(B.o w.drew (t.o.below ((az w.heap.size w).drew) (aj _))).mono ?_;rintro e m ⟨v,rfl,l,u⟩;obtain⟨F,G,rfl,C,ag⟩:=l.rd2 z.o;have n0:=(u.cell (p:=⟨j,p+3,none⟩) N).trans n;have S:=ae l;have T:=ae C;have s:PH (Below w.heap.size w m):=ae (((az w.heap.size w).drew).trans u);have H:=ae (x.o.below s.o (aj _));clear l C u))
 clear B t x n
 try rw[R]
 have t:w.heap.size<=m.heap.size:=s.o.size;by_cases ai:b<1
 ·have C:(b:Int)<1:=by omega
  have u:=ae (zG (b:Int) F 55 G m C);have n:¬jf d:=λh=>(by have:=(A.o.1 h).1;omega);have l:=ae (j4 d [] m.heap.size 0 (some ⟨j,p,none⟩) none 64 0 c 0 m (H.o.more t) (qY _ _ _) D.o (by intro r f;simp at f));rw[decide_eq_false (λe=>by have:=E.o;rw[e] at this;simp at this)] at l;have B:=ae n;clear n;go_wp2_with fail;refine u.o.mono ?_;rintro e x ⟨rfl,rfl⟩;go_wp2_with fail;refine l.o.mono ?_;rintro e I ⟨rfl,rfl⟩;go_wp2_with fail;go_ret3;exact⟨λh=>absurd h B.o,λ_=>rfl,s.o⟩
 ·have u:=ae (ug b g F 55 G m (by omega) (by omega) T.o y.o (by omega))
  have ak:¬(b:Int)<1:=(by omega);go_wp2_with fail;refine u.o.mono ?_;rintro e x ⟨U,rfl,V,J,n⟩;have K:(cellL b g).length=64:=gA (by rw[z.o];omega);have C:=qi J;rw[K] at C;have L:=ae (s.o.trans (n.mono t))
  have M:By (cellL b g):=by
   intro r f;unfold cellL fW at f;simp only[bz] at f;rcases f with(h | h | h) | h | h
   ·simp at h;omega
   ·exact y.o r h
   ·rw[eq_of_mem_replicate h];decide
   ·simp[b4] at h;omega
   ·simp at h;omega
  have l:=ae (j4 d (cellL b g) x.heap.size x.heap.size (some ⟨j,p,none⟩) (some ⟨U,0,none⟩) 64 64 c 64 x ((H.o.below (n.mono t) (aj _)).more (aP t n.size)) C D.o M);have W:=ae ((S.o.below n));clear J C M K n V u;by_cases i:d=cellL b g
  ·rw[bf i] at l
   have n:PH (jf d):=ae (A.o.2 ⟨by omega,i⟩);clear i;go_wp2_with fail;refine l.o.mono ?_;rintro e I ⟨rfl,rfl⟩;go_wp2_with fail;go_ret3;exact⟨λ_=>⟨_,rfl,W.o.base (aj _)⟩,λh=>absurd n.o h,L.o⟩
  ·rw[decide_eq_false i] at l
   have B:PH (¬jf d):=ae λh=>i (A.o.1 h).2;clear i;go_wp2_with fail;refine l.o.mono ?_;rintro e I ⟨rfl,rfl⟩;go_wp2_with fail;go_ret3;exact⟨λh=>absurd h B.o,λ_=>rfl,L.o⟩
theorem uR(a:Nat)(b:a<9223372036854775808):(BitVec.ofInt 64 (a:Int)).toNat=a:=by
 rw[BitVec.ofInt_natCast,BitVec.toNat_ofNat];exact Nat.mod_eq_of_lt (by omega)
theorem Cr(a b:Nat)(c:a<9223372036854775808)(d:b<9223372036854775808):bits .or .i64 (a:Int) (b:Int)=((a ||| b:Nat):Int):=by
 have e:a ||| b<2 ^ 63:=Nat.or_lt_two_pow (by omega) (by omega)
 show IntKind.i64.wrap ((BitVec.ofInt 64 (a:Int) ||| BitVec.ofInt 64 (b:Int)).toNat:Int)=_;rw[BitVec.toNat_or,uR a c,uR b d,IntKind.wrap_i64];omega
theorem join8(s x:Nat)(b:x<256):s*256 ||| x=s*256+x:=by
 have a:=Nat.two_pow_add_eq_or_of_lt (i:=8) b s;rw[Nat.mul_comm] at a;exact a.symm
theorem xh{xs:PI}{k:Nat}(a:k<xs.length):dY (xs.take (k+1))=dY (xs.take k)*256+xs.getD k 0:=by
 unfold dY;rw[aN a,foldl_append,af,ah a];rfl
theorem Mv{xs:PI}(a:By xs):∀k,k<=xs.length->dY (xs.take k)<256 ^ k:=by
 intro k
 induction k with
 | zero=>intro _;exact Nat.one_pos
 | succ k b=>
   intro c;rw[xh (by omega)];have d:=b (by omega);have e:=getD_lt a k;rw[Nat.pow_succ];omega
theorem Af(xs:PI)(B:Nat)(a:PK)(n c:Nat)(w:World)(f:Rd w B a n (bF xs))(m:By xs)(y:n<=4):
 Calls prog 245 #[slice a n c] w λb d=>b=returned (int i64 (dY xs:Nat))/\∃j,d=w.drewN j:=by
 have s:=ae f;have o:=ae m;have p:PH (xs.length=n):=ae (by have:=f.len;rwa [bG] at this);clear f m;go_enter func245,ntmps245;go_wp2_with fail;go_loopw [3,8] (λe d wr=>∃b:Nat,b<=n/\d=int i64 b/\e=int i64 (dY (xs.take b):Nat)/\PH (∃j,wr=w.drewN j)) (λ_ d _=>n-(intOf d).toNat)
 case atStart=>exact⟨0,by omega,rfl,rfl,ae ⟨0,rfl⟩⟩
 case round=>
  obtain⟨b,z,rfl,rfl,d⟩:=hrel;obtain⟨j,e⟩:=d.o;clear d;by_cases g:b<n
  ·have A:(b:Int)<(n:Int):=by omega
   have i:b<xs.length:=(by rw[p.o];exact g);obtain⟨t,u,rfl,C,k⟩:=s.o.atB g;have D:wr.cell? ⟨t,u+b,none⟩=some (.int .u8 (xs.getD b 0:Nat)):=(by rw[e];exact k b g);have v:=getD_lt o.o b;have q:=ae (xh i);have l:=Mv o.o b (by omega);have r:256 ^ b<=256 ^ 3:=Nat.pow_le_pow_right (by omega) (by omega);have E:dY (xs.take b)<16777216:=aW l r;have d:PH (∃j,wr=w.drewN j):=ae ⟨j,e⟩;clear k e i l r;generalize dY (xs.take b)=i at*;generalize xs.getD b 0=k at*;have l:=Cr (i*256) k (by omega) (by omega);rw[join8 i k v,<-q.o] at l;have F:bits .or .i64 ((i:Int)*256) (k:Int)=((dY (xs.take (b+1)):Nat):Int):=(by rw[<-l];congr 1);generalize r:dY (xs.take (b+1))=G at*;have x:=ae r;clear l q r;go_wp2_with fail;go_roundw
   case rel=>exact⟨b+1,by omega,by go_num,by rw[x.o],d⟩
   case measure=>simp[intOf];omega
  ·obtain rfl:b=n:=by omega
   rw[aJ (by rw[p.o];exact aj _)];have d:=ae e;clear e;go_wp2_with fail;go_ret;exact⟨rfl,j,d.o⟩
theorem ni{w:World}{ops:Array Oper}{rest:List Oper}{o:Oper}{a:Act}{Q:Exit->Act->World->Prop}(j:o.guard=none)(s x:Operand){C B m c:Nat}{v:Value}{e:PK}{xs ys:PI}
 (k:o.op=.call { callee:=.builtin .append,args:=#[s,x],argTypes:=#[30,30] })
 (g:OwnB w C v xs)(h:C<=w.heap.size)(u:xs.length+m<=1000000)(hs:a.eval s=v)(l:a.eval x=slice e m c)(n:e=none->c=0)(i:Rd w B e m (bF ys))
 (K:∀b d,OwnB d C b (xs++ys)->Below C w d->w.grownBy d v.ownBlock->(b.ownBlock=v.ownBlock\/b.ownBlock=some w.heap.size)->wpList prog ops Q rest (a.put o.dst b) d):
 wpList prog ops Q (o :: rest) a w:=by
 have p:m=ys.length:=by rw[<-i.1,bG]
 refine J8 (P:=prog) w j s x 30 k C 5 (.int .u8 0) 1 underlying30 iW rfl v xs.length (bF xs) hs g B e m c (bF ys) l n i (iI ys) (by omega) (by unfold maxLen;omega) h λb d q f r=> ?_;refine K b d ?_ ((az _ _).grown f h λt f=>(g.lt t f).1) f r;unfold OwnB;rw[aH,<-p];have t:bF (xs++ys)=bF xs++bF ys:=by unfold bF;rw[aU]
 rw[t];exact q
theorem fD{w:World}{ops:Array Oper}{rest:List Oper}{o:Oper}{a:Act}{Q:Exit->Act->World->Prop}(j:o.guard=none)(s x:Operand){C y:Nat}{i:Int}{v:Value}{xs:PI}(k:i=(y:Int))
 (l:o.op=.call { callee:=.builtin .append,args:=#[s,x],argTypes:=#[30,30] })
 (m:OwnB w C v xs)(f:C<=w.heap.size)(z:xs.length<=1000000)(hs:a.eval s=v)(n:a.eval x=slice (some ⟨w.heap.size,0,none⟩) 1 1)
 (K:∀c b,OwnB b C c (xs++[y])->Below C w b->wpList prog ops Q rest (a.put o.dst c) b):
 wpList prog ops Q (o :: rest) a (w.alloc (cells #[.int .u8 i] 5)):=by
 subst k;have d:=(az w.heap.size w).alloc (aj _) (cells #[.int .u8 (y:Int)] 5);have g:=m.below d;have h:=aP f d.size;have p:=dZ w #[.int .u8 (y:Int)] 5 0;have q:=d.mono f;generalize w.alloc (cells #[.int .u8 (y:Int)] 5)=r at*;refine jv (P:=prog) r j s x 30 l C 5 (.int .u8 0) 1 underlying30 iW rfl v xs.length (bF xs) hs g w.heap.size (.int .u8 (y:Int)) n p rfl (by omega) (by unfold maxLen;omega) h λc b t e A=> ?_;refine K c b ?_ (q.trans ((az _ _).grown e h λu e=>(g.lt u e).1));unfold OwnB;rw[aH];have u:bF (xs++[y])=bF xs++[.int .u8 (y:Int)]:=by unfold bF;rw[aU];rfl
 rw[u];exact t
theorem J2(n:Nat):∀(s j:Nat),j<s->(bU n s).getD (s-1-j) 0=n/256 ^ j%256:=by
 intro s
 induction s with
 | zero=>intro j a;omega
 | succ s b=>
   intro j a;by_cases c:j=s
   ·subst c;rw[show j+1-1-j=0 by omega];rfl
   ·rw[show s+1-1-j=(s-1-j)+1 by omega]
    exact b j (by omega)
theorem rA(n s m:Nat)(b:m<s):(bU n s).take (s-m)=(bU n s).take (s-(m+1))++[n/256 ^ m%256]:=by
 have a:s-(m+1)<(bU n s).length:=by rw[cH];omega
 have c:s-m=s-(m+1)+1:=by omega
 rw[c,aN a];congr 2;have:=J2 n s m b;rw[show s-1-m=s-(m+1) by omega,af,ah a] at this;exact this
theorem wG(v:Value)(xs:PI)(C n s:Nat)(w:World)(p:OwnB w C v xs)(t:C<=w.heap.size)(E:n<4294967296)(hs:s<=4)(F:xs.length<=1000):
 Calls prog 227 #[v,int i64 n,int i64 s] w λc a=>∃b,c=returned b/\OwnB a C b (xs++bU n s)/\Below C w a:=by
 have q:PH (OwnB w C v (xs++(bU n s).take (s-s))):=ae (by rw[Nat.sub_self,take_zero,append_nil];exact p);have r:PH (Below C w w):=ae (az _ _);have u:IntKind.i64.wrap ((s:Int)-1)=(s:Int)-1:=by rw[IntKind.wrap_i64];omega
 obtain⟨G,H,rfl,-⟩:=p.rd;clear p;go_enter func227,ntmps227;go_wp2_with fail;go_loopw [0,7] (λb a wr=>∃g:Nat,g<=s/\a=int i64 ((g:Int)-1)/\PH (OwnB wr C b (xs++(bU n s).take (s-g)))/\PH (Below C w wr)) (λ_ a _=>(intOf a+1).toNat)
 case atStart=>exact⟨s,aj _,rfl,q,r⟩
 case round=>
  clear q r u;obtain⟨g,I,rfl,a,e⟩:=hrel;have m:C<=wr.heap.size:=aP t e.o.size;by_cases x:g=0
  ·subst x
   rw[Nat.sub_zero,aJ (by rw[cH];exact aj _)] at a;generalize b:xs++bU n s=z at*;have c:=ae b;clear b;obtain⟨A,B,rfl,-⟩:=a.o.rd;go_wp2_with fail;go_ret;exact⟨_,rfl,by rw[c.o];exact a.o,e.o⟩
  ·obtain⟨b,rfl⟩:∃b,g=b+1:=⟨g-1,by omega⟩
   have o:(xs++(bU n s).take (s-(b+1))).length<=1000000:=(by rw[aH,aG,cH];omega);have f:PH (xs++(bU n s).take (s-b)=xs++(bU n s).take (s-(b+1))++[n/256 ^ b%256]):=ae (by rw[rA n s b (by omega),append_assoc]);generalize xs++(bU n s).take (s-(b+1))=z at*;obtain⟨A,B,rfl,-⟩:=a.o.rd;have D:b=0\/b=1\/b=2\/b=3:=(by omega);rcases D with rfl | rfl | rfl | rfl
   ·go_wp2_with (at_builtin;refine fD (w:=wr) (C:=C) (y:=n%256) rfl _ _ ?hi rfl a.o m o rfl rfl ?_)
    case hi=>omega
    intro i j c d;have k:PH (OwnB j C i (xs++(bU n s).take (s-0))):=ae (by rw[f.o,show n/256 ^ 0%256=n%256 by simp];exact c);have l:=ae (e.o.trans d);clear c d a e f;go_wp2_with fail;go_roundw
    case rel=>exact⟨0,by omega,by go_num,k,l⟩
    case measure=>simp[intOf]
   ·go_wp2_with (at_builtin;refine fD (w:=wr) (C:=C) (y:=n/256%256) rfl _ _ ?hi rfl a.o m o rfl rfl ?_)
    case hi=>omega
    intro i j c d;have k:PH (OwnB j C i (xs++(bU n s).take (s-1))):=ae (by rw[f.o,show n/256 ^ 1%256=n/256%256 by simp];exact c);have l:=ae (e.o.trans d);clear c d a e f;go_wp2_with fail;go_roundw
    case rel=>exact⟨1,by omega,by go_num,k,l⟩
    case measure=>simp[intOf]
   ·go_wp2_with (at_builtin;refine fD (w:=wr) (C:=C) (y:=n/65536%256) rfl _ _ ?hi rfl a.o m o rfl rfl ?_)
    case hi=>omega
    intro i j c d;have k:PH (OwnB j C i (xs++(bU n s).take (s-2))):=ae (by rw[f.o,show n/256 ^ 2%256=n/65536%256 by simp];exact c);have l:=ae (e.o.trans d);clear c d a e f;go_wp2_with fail;go_roundw
    case rel=>exact⟨2,by omega,by go_num,k,l⟩
    case measure=>simp[intOf]
   ·go_wp2_with (at_builtin;refine fD (w:=wr) (C:=C) (y:=n/16777216%256) rfl _ _ ?hi rfl a.o m o rfl rfl ?_)
    case hi=>omega
    intro i j c d;have k:PH (OwnB j C i (xs++(bU n s).take (s-3))):=ae (by rw[f.o,show n/256 ^ 3%256=n/16777216%256 by simp];exact c);have l:=ae (e.o.trans d);clear c d a e f;go_wp2_with fail;go_roundw
    case rel=>exact⟨3,by omega,by go_num,k,l⟩
    case measure=>simp[intOf]
def ja(q n:Nat):Nat:=if n=0 then 0 else (n-1)/q+1
theorem pF{w:World}{g:Nat}{t:TypeId}{x y z:Value}(a:Blk w g t #[x,y,z]):w.cell? ⟨g,0,none⟩=some x/\w.cell? ⟨g,1,none⟩=some y/\w.cell? ⟨g,2,none⟩=some z:=⟨a.cell 0,a.cell 1,a.cell 2⟩
theorem kr(K H S n:Nat)(w:World)(g:fB K H S=true)(q:n<=1000000):
 Calls prog 103 #[dD K H S,int i64 n] w λe a=>e=returned (int i64 (ja (K*S) n:Nat))/\Below w.heap.size w a:=by
 have a:=ba g;have c:=ae λw=>fK K H S w;have k:=ae λw=>pI K H S w (by omega) (by omega);rw[g] at c;have i:=ae (Blk.new w 25 #[int i64 K,int i64 H,int i64 S]);have d:=ae ((az w.heap.size w).alloc (aj _) (cells #[int i64 K,int i64 H,int i64 S] 25));have r:1<=K*S:=bn (show 1<=K by omega) (show 1<=S by omega);have s:K*S<=16*24:=bn (by omega) (by omega);generalize K*S=b at*;unfold dD at c k ⊢;clear a g;go_enter func103,ntmps103;go_wp2_with fail;generalize w.alloc (cells #[int i64 K,int i64 H,int i64 S] 25)=t at*;by_cases j:n=0
 ·subst j
  refine(c.o _).mono ?_;rintro e l ⟨rfl,a⟩;have f:=ae (d.o.trans (a.mono d.o.size));clear a;go_wp2_with fail;go_ret;exact⟨rfl,f.o⟩
 ·have u:¬(n:Int)<=0:=by omega
  have v:¬n=0:=j;refine(c.o _).mono ?_;rintro e l ⟨rfl,a⟩;have f:=ae (d.o.trans (a.mono d.o.size));have m:=ae (i.o.below a i.o.lt);obtain⟨x,y,z⟩:=pF m.o;have A:¬(b:Int)=0:=(by omega);have B:((b:Int) == 0)=false:=by simp;omega
  have C:((n:Int)-1).tdiv (b:Int)=(((n-1)/b:Nat):Int):=by
   rw[show(n:Int)-1=((n-1:Nat):Int) by omega];rfl
  have D:(n-1)/b<=1000000:=aP (Nat.div_le_self _ _) (by omega);have o:PH (ja b n=(n-1)/b+1):=ae (by unfold ja;rw[bh j]);generalize (n-1)/b=E at*;clear a c i d;go_wp2_with fail;refine(k.o _).mono ?_;rintro e F ⟨rfl,a⟩;have p:=ae (f.o.trans (a.mono f.o.size));clear a;go_wp2_with fail;go_ret;exact⟨by rw[o.o];first | rfl | (congr 2),p.o⟩
structure Rp where
 sz:Nat
 ok:World->(Nat->Prop)->List Value->Prop
 len:∀ {w:World} {F:Nat->Prop} {vs:List Value},ok w F vs->vs.length=sz
 one:∀ {w:World} {F:Nat->Prop} {vs:List Value},ok w F vs->∀u∈vs,u.oneCell'=true
 keep:∀ {w w':World} {F G:Nat->Prop} {vs:List Value},ok w F vs->(∀k,F k->k<w.heap.size->w'.heap[k]? =w.heap[k]? /\G k)->ok w' G vs
def Fr(C:Nat):Nat->Prop:=λa=>C<=a
def Bl(B:Nat):Nat->Prop:=λa=>a<B
def Any:Nat->Prop:=λ_=>True
theorem Rp.more(R:Rp){w:World}{F G:Nat->Prop}{vs:List Value}(a:R.ok w F vs)(b:∀k,F k->k<w.heap.size->G k):R.ok w G vs:=R.keep a λk c d=>⟨rfl,b k c d⟩
theorem Rp.any(R:Rp){w:World}{F:Nat->Prop}{vs:List Value}(a:R.ok w F vs):R.ok w Any vs:=R.more a λ_ _ _=>trivial
theorem Rp.bl(R:Rp){w:World}{F:Nat->Prop}{vs:List Value}(a:R.ok w F vs):R.ok w (Bl w.heap.size) vs:=R.more a λ_ _ b=>b
theorem Rp.new(R:Rp){w w':World}{F:Nat->Prop}{vs:List Value}(a:R.ok w F vs)(b:Below w.heap.size w w'):R.ok w' F vs:=R.keep a λc d e=>⟨b.block c e,d⟩
def eR(F:Nat->Prop)(v:Value)(R:Rp):wH:=⟨λa=>R.ok a F [v],λ_ _ a b=>R.new a b⟩
theorem Sx.rep{w0 w:World}{L:List wH}(a:Sx w0 w L)(i:Nat){F:Nat->Prop}{v:Value}{R:Rp}(b:L[i]? =some (eR F v R)):R.ok w F [v]:=a.get i b
def rVs(b:List Value):Rp where
 sz:=b.length
 ok:=λ_ _ a=>a=b/\∀a∈b,a.oneCell'=true
 len:=λa=>by rw[a.1]
 one:=λa=>by rw[a.1];exact a.2
 keep:=λa _=>a
def rV(u:Value):Rp:=rVs [u]
theorem xg{w w':World}{b o:Nat}{u:Value}(c:w.cell? ⟨b,o,none⟩=some u)(d:b<w.heap.size->w'.heap[b]? =w.heap[b]?):w'.cell? ⟨b,o,none⟩=some u:=
 (World.cell?_of_block (w:=w) (a:=⟨b,o,none⟩) (d (World.block_lt_of_cell? w _ c))).trans c
def rC(k:List Value):Rp where
 sz:=1
 ok:=λi l m=>∃c a b,m=[slice c a b]/\a<=b/\b<=maxLen/\(c=none->b=0)/\k.length=a/\(0<a->∃d g,c=some ⟨d,g,none⟩/\l d/\∀h e,k[h]? =some e->i.cell? ⟨d,g+h,none⟩=some e)
 len:=λf=>by obtain⟨c,a,b,rfl,_⟩:=f;rfl
 one:=λf=>by obtain⟨c,a,b,rfl,_⟩:=f;intro e j;rw[mem_singleton.1 j];rfl
 keep:=λ{i o l p m} f n=>by
  obtain⟨c,a,b,rfl,o,p,q,r,s⟩:=f;refine⟨c,a,b,rfl,o,p,q,r,λt=> ?_⟩;obtain⟨d,g,rfl,f,l⟩:=s t;have u:=l 0 _ (ah (by omega));have m:=World.block_lt_of_cell? i _ u;exact⟨d,g,rfl,(n d f m).2,λh e j=>xg (l h e j) λ_=>(n d f m).1⟩
def rB(l:PI):Rp:=rC (bF l)
def rS(k:Nat)(L:List Rp):Rp where
 sz:=1
 ok:=λj m p=>∃d a c,p=[slice d a c]/\a<=c/\c<=maxLen/\(d=none->c=0)/\L.length=a/\∃f:List Value,f.length=a*k/\
  (0<a*k->∃e l,d=some ⟨e,l,none⟩/\m e/\∀b g,f[b]? =some g->j.cell? ⟨e,l+b,none⟩=some g)/\∀(b:Nat) h,L[b]? =some h->h.ok j m ((f.drop (b*k)).take k)
 len:=λi=>by obtain⟨d,a,c,rfl,_⟩:=i;rfl
 one:=λi=>by obtain⟨d,a,c,rfl,_⟩:=i;intro g n;rw[mem_singleton.1 n];rfl
 keep:=λ{j q m r p} i o=>by
  obtain⟨d,a,c,rfl,p,q,r,s,f,t,u,v⟩:=i;refine⟨d,a,c,rfl,p,q,r,s,f,t,λw=> ?_,λb h i=>h.keep (v b h i) o⟩;obtain⟨e,l,rfl,h,i⟩:=u w;have x:=i 0 _ (ah (by omega));have m:=World.block_lt_of_cell? j _ x;exact⟨e,l,rfl,(o e h m).2,λb g n=>xg (i b g n) λ_=>(o e h m).1⟩
def rM(M:List PI):Rp:=rS 1 (M.map rB)
def rP(d B:Rp):Rp where
 sz:=d.sz+B.sz
 ok:=λa e f=>∃b c,f=b++c/\d.ok a e b/\B.ok a e c
 len:=λa=>by obtain⟨b,c,rfl,e,f⟩:=a;rw[aH,d.len e,B.len f]
 one:=λa=>by
  obtain⟨b,c,rfl,e,f⟩:=a;intro g i;rcases bz.1 i with a | a
  ·exact d.one e g a
  ·exact B.one f g a
 keep:=λa h=>by obtain⟨b,c,rfl,e,f⟩:=a;exact⟨b,c,rfl,d.keep e h,B.keep f h⟩
theorem Co{w:World}{F:Nat->Prop}{a:List Value}(b:∀u∈a,u.oneCell'=true):(rVs a).ok w F a:=⟨rfl,b⟩
theorem rY{a B:Rp}{w:World}{F:Nat->Prop}{x y:List Value}(b:a.ok w F x)(c:B.ok w F y):(rP a B).ok w F (x++y):=⟨x,y,rfl,b,c⟩
theorem rZ{u:Value}{w:World}{F:Nat->Prop}(a:u.oneCell'=true):(rV u).ok w F [u]:=⟨rfl,λc b=>by rw[mem_singleton.1 b];exact a⟩
theorem Ae{b:List Value}{w:World}{F:Nat->Prop}{v:Value}(e:(rC b).ok w F [v]):∃a c,v=slice a b.length c/\Rd w w.heap.size a b.length b/\(a=none->c=0)/\b.length<=c/\c<=maxLen:=by
 obtain⟨a,j,c,d,f,g,h,rfl,i⟩:=(rC b).bl e;injection d with d _;exact⟨a,c,d,⟨rfl,i⟩,h,f,g⟩
theorem fC{l:PI}{w:World}{F:Nat->Prop}{v:Value}{n:Nat}(b:(rB l).ok w F [v])(d:l.length=n):∃a c,v=slice a n c/\Rd w w.heap.size a n (bF l)/\(a=none->c=0)/\n<=c/\c<=maxLen:=by
 subst d;have:=Ae b
 rwa [bG] at this
theorem dB{w:World}{C e k m:Nat}{v:Value}{xs:List Value}(d:w.ownsRow C e k v m xs):∃a c,v=slice a m c/\(a=none->c=0)/\m<=c/\c<=maxLen/\xs.length=m*k/\(0<m*k->∃b o,a=some ⟨b,o,none⟩/\(C<=b/\b<w.heap.size)/\v.ownBlock=some b/\∀i u,xs[i]? =some u->w.cell? ⟨b,o+i,none⟩=some u):=by
 have f:=d.1;have h:=d.lt;have j:=λg l=>d.cells (g:=g) l;rcases d.2 with⟨rfl,rfl⟩ | ⟨g,l,r,rfl,s,t,n,p,_⟩
 ·exact⟨none,0,rfl,λ_=>rfl,aj _,bu _,f,λd=>absurd d (by omega)⟩
 ·refine⟨_,l,rfl,λe=>(by cases e),n,p,f,λ_=>⟨g,0,rfl,h g rfl,rfl,λi u q=> ?_⟩⟩
  have:=j g rfl i u q;rw[Addr.add_lit] at this;exact this
theorem JP{a:List Value}{w:World}{C e n:Nat}{v:Value}(d:w.ownsRow C e 1 v n a):(rC a).ok w (Fr C) [v]:=by
 obtain⟨f,g,rfl,h,i,j,b,c⟩:=dB d;rw[Nat.mul_one] at b c;refine⟨f,n,g,rfl,i,j,h,b,λk=> ?_⟩;obtain⟨l,m,o,⟨p,_⟩,_,q⟩:=c k;exact⟨l,m,o,p,q⟩
theorem gG{l:PI}{w:World}{C:Nat}{v:Value}(a:OwnB w C v l):(rB l).ok w (Fr C) [v]:=JP a
def OwnS(w:World)(C:Nat)(e:TypeId)(k:Nat)(F:Nat->Prop)(v:Value)(L:List Rp):Prop:=
 ∃a,w.ownsRow C e k v L.length a/\∀(b:Nat) c,L[b]? =some c->c.ok w (λc=>F c/\some c≠v.ownBlock) ((a.drop (b*k)).take k)
theorem OwnS.nil(w:World)(C:Nat)(e:TypeId)(k:Nat)(F:Nat->Prop):OwnS w C e k F (slice none 0 0) []:=⟨[],World.ownsRow_nil _ _ _ _,by simp⟩
theorem kN{w w':World}{C e k n:Nat}{v:Value}{xs:List Value}(a:w.ownsRow C e k v n xs)(d:Below w.heap.size w w'):w'.ownsRow C e k v n xs:=by
 refine⟨a.1,?_⟩;rcases a.2 with f | ⟨b,g,h,rfl,i,c,j⟩
 ·exact .inl f
 ·exact .inr ⟨b,g,h,rfl,i,(d.block b (Array.getElem?_eq_some_iff.1 c).1).trans c,j⟩
theorem OwnS.new{w w':World}{C:Nat}{e:TypeId}{k:Nat}{F:Nat->Prop}{v:Value}{L:List Rp}(c:OwnS w C e k F v L)(a:Below w.heap.size w w'):OwnS w' C e k F v L:=by
 obtain⟨d,f,g⟩:=c;exact⟨d,kN f a,λh b i=>b.new (g h b i) a⟩
theorem OwnS.drewN{w:World}{C:Nat}{e:TypeId}{k:Nat}{F:Nat->Prop}{v:Value}{L:List Rp}(a:OwnS w C e k F v L)(j:Nat):OwnS (w.drewN j) C e k F v L:=a.new (below_drewN (az _ _) j)
theorem OwnS.base{w:World}{C D:Nat}{e:TypeId}{k:Nat}{F G:Nat->Prop}{v:Value}{L:List Rp}(d:OwnS w C e k F v L)(f:D<=C)(g:∀b,F b->G b):OwnS w D e k G v L:=by
 obtain⟨h,⟨i,a⟩,j⟩:=d;refine⟨h,⟨i,?_⟩,λl c m=>c.more (j l c m) λb c _=>⟨g b c.1,c.2⟩⟩;rcases a with a | ⟨c,l,m,n,o,p⟩
 ·exact .inl a
 ·exact .inr ⟨c,l,m,n,aP f o,p⟩
theorem OwnS.val{w:World}{C:Nat}{e:TypeId}{k:Nat}{F:Nat->Prop}{v:Value}{L:List Rp}(b:OwnS w C e k F v L):∃a c,v=slice a L.length c/\(a=none->c=0)/\L.length<=c/\c<=maxLen:=by
 obtain⟨i,d,_⟩:=b;obtain⟨a,c,e,f,g,h,_⟩:=dB d;exact⟨a,c,e,f,g,h⟩
theorem OwnS.sl{w:World}{C:Nat}{e:TypeId}{k:Nat}{F:Nat->Prop}{v:Value}{L:List Rp}(b:OwnS w C e k F v L):∃a n c,v=slice a n c:=by
 obtain⟨a,c,e,_⟩:=b.val;exact⟨a,_,c,e⟩
theorem OwnS.len{w:World}{C:Nat}{e:TypeId}{k:Nat}{F:Nat->Prop}{a:PK}{n c:Nat}{L:List Rp}(b:OwnS w C e k F (slice a n c) L):L.length=n/\(a=none->c=0)/\n<=c/\c<=maxLen:=by
 obtain⟨l,m,e,d,f,g⟩:=b.val;injection e with h i j;subst h i j;exact⟨rfl,d,f,g⟩
theorem OwnS.lt{w:World}{C:Nat}{e:TypeId}{k:Nat}{F:Nat->Prop}{v:Value}{L:List Rp}(a:OwnS w C e k F v L):∀b,v.ownBlock=some b->C<=b/\b<w.heap.size:=by
 obtain⟨d,c,_⟩:=a;exact c.lt
theorem OwnS.rep{w:World}{C:Nat}{e:TypeId}{k:Nat}{F:Nat->Prop}{v:Value}{L:List Rp}(c:OwnS w C e k F v L):(rS k L).ok w (λa=>F a\/C<=a) [v]:=by
 obtain⟨d,f,g⟩:=c;obtain⟨h,i,rfl,j,l,m,n,o⟩:=dB f;refine⟨h,L.length,i,rfl,l,m,j,rfl,d,n,λp=> ?_,λq b r=>b.more (g q b r) λa b _=>.inl b.1⟩;obtain⟨a,q,r,⟨b,_⟩,_,s⟩:=o p;exact⟨a,q,r,.inr b,s⟩
theorem OwnS.fr{w:World}{C:Nat}{e:TypeId}{k:Nat}{v:Value}{L:List Rp}(b:OwnS w C e k (Fr C) v L):(rS k L).ok w (Fr C) [v]:=Rp.more _ b.rep λc a _=>by rcases a with a | a <;> exact a
theorem Gd{a b:List Value}{i k n:Nat}(c:a.length=n*k)(d:i<n):((a++b).drop (i*k)).take k=(a.drop (i*k)).take k:=by
 have e:i*k+k<=n*k:=by
  have:=Nat.mul_le_mul_right k (show i+1<=n by omega)
  rwa [Nat.succ_mul] at this
 rw[drop_append_of_le_length (by omega),take_append_of_le_length (by rw[length_drop];omega)]
theorem Gf{a b:List Value}{i k n:Nat}(c:a.length=n*k):((a++b).drop ((n+i)*k)).take k=(b.drop (i*k)).take k:=by
 rw[drop_append,drop_eq_nil_of_le (by rw[c,Nat.add_mul];omega),nil_append,c,Nat.add_mul,Nat.add_sub_cancel_left]
theorem OwnS.app{w w':World}{C:Nat}{e:TypeId}{k:Nat}{F:Nat->Prop}{v b:Value}{L f:List Rp}{c g:List Value}(h:w.ownsRow C e k v L.length c)(m:∀(i:Nat) R,L[i]? =some R->R.ok w (λa=>F a/\some a≠v.ownBlock) ((c.drop (i*k)).take k))
 (n:∀(i:Nat) R,f[i]? =some R->R.ok w (λa=>F a/\some a≠v.ownBlock) ((g.drop (i*k)).take k))(o:w'.ownsRow C e k b (L.length+f.length) (c++g))(p:w.grownBy w' v.ownBlock)(q:b.ownBlock=v.ownBlock\/b.ownBlock=some w.heap.size):OwnS w' C e k F b (L++f):=by
 have j:∀a,(F a/\some a≠v.ownBlock)->a<w.heap.size->w'.heap[a]? =w.heap[a]? /\(F a/\some a≠b.ownBlock):=λa d l=>by
  refine⟨p.block a l d.2,d.1,?_⟩;rcases q with a | a
  ·rw[a];exact d.2
  ·rw[a];intro d;injection d with d;omega
 refine⟨c++g,by rw[aH];exact o,λi R d=> ?_⟩;rw[List.getElem?_append] at d;split at d
 ·rename_i l
  rw[Gd h.1 l];exact R.keep (m i R d) j
 ·rename_i l
  have a:i=L.length+(i-L.length):=(by omega);rw[a,Gf h.1];exact R.keep (n _ R d) j
theorem ru{a:List Value}{i:Nat}{u:Value}(b:a[i]? =some u):(a.drop (i*1)).take 1=[u]:=by
 obtain⟨c,d⟩:=List.getElem?_eq_some_iff.1 b;rw[Nat.mul_one,drop_eq_getElem_cons c,d];rfl
theorem OwnS.off{w w1:World}{C:Nat}{e:TypeId}{k:Nat}{F G:Nat->Prop}{v:Value}{L:List Rp}(f:OwnS w C e k F v L){R:Rp}{a:List Value}(g:R.ok w1 G a)(c:∀b,G b->F b/\(b<C\/w.heap.size<=b)):R.ok w1 (λb=>F b/\some b≠v.ownBlock) a:=
 R.more g λb d _=>⟨(c b d).1,λh=>by have:=f.lt b h.symm;rcases(c b d).2 with d | d <;> omega⟩
theorem OwnS.ty{w:World}{C:Nat}{e:TypeId}{k:Nat}{F:Nat->Prop}{v:Value}{L:List Rp}(f:OwnS w C e k F v L){b:Nat}{t:TypeId}{d:Array Value}(g:Blk w b t d)(h:t≠e):some b≠v.ownBlock:=by
 obtain⟨m,i,_⟩:=f;intro c;rcases i.2 with⟨rfl,_⟩ | ⟨n,o,p,rfl,_,j,_⟩
 ·simp[Value.ownBlock] at c
 ·simp[Value.ownBlock] at c
  subst c;have a:w.heap[b]? =some (.cells d t (0,0)):=g;rw[j] at a;injection a with a;injection a with _ l;exact h l.symm
theorem mq{w:World}{g:Nat}{l:PI}{F:Nat->Prop}(b:Blk w g 5 (bK l))(c:F g)(d:l.length<=maxLen):(rB l).ok w F [slice (some ⟨g,0,none⟩) l.length l.length]:=by
 obtain⟨j,e⟩:=qi b;refine⟨_,_,_,rfl,aj _,d,λa=>(by cases a),bG l,λf=>⟨g,0,rfl,c,?_⟩⟩;obtain⟨k,m,a,_,h⟩:=e f;injection a with a;injection a with f i _;subst f i;exact h
theorem Gg{w:World}{C:Nat}{v:Value}{M:List PI}(a:MOwn w C v M):OwnS w C 30 1 (Fr C) v (M.map rB):=by
 obtain⟨h,a⟩:=a;refine⟨h,by rw[aC];exact a.hd,λi z d=> ?_⟩;rw[List.getElem?_map] at d;obtain⟨c,j,rfl⟩:=Option.map_eq_some_iff.1 d;obtain⟨A,e,k⟩:=a.row i c j;rw[ru e];obtain⟨l,m,rfl,n,o,p,B,f⟩:=dB k;rw[Nat.mul_one] at f;refine⟨l,c.length,m,rfl,o,p,n,bG c,λq=> ?_⟩;obtain⟨r,s,t,⟨u,_⟩,g,x⟩:=f q;refine⟨r,s,t,⟨u,λy=> ?_⟩,x⟩;rcases a.hdrow e with b | b
 ·rw[g] at b;cases b
 ·exact b (g.trans y)
theorem gT{P:Program}{w w1:World}{ops:Array Oper}{rest:List Oper}{o:Oper}{a:Act}{Q:Exit->Act->World->Prop}(t:o.guard=none)(s x:Operand){T e:TypeId}{z:Value}{k h:Nat}
 (u:o.op=.call { callee:=.builtin .append,args:=#[s,x],argTypes:=#[T,T] })(y:P.underlying T=some (.slice e))(A:(P.info? e).map (λb=>(b.zero,b.size,b.bytes))=some (some z,k,h))(B:z.cells.size=k)(D:0<k)(E:h<=1000)
 {C:Nat}{v:Value}{L:List Rp}{F:Nat->Prop}{R:Rp}{c:Array Value}(l:OwnS w C e k F v L)(m:Below w.heap.size w w1)(i:C<=w.heap.size)(hl:L.length<=1000000)
 (j:R.ok w1 (λd=>F d/\some d≠v.ownBlock) c.toList)(G:R.sz=k)
 (hs:a.eval s=v)(H:a.eval x=slice (some ⟨w1.heap.size,0,none⟩) 1 1)
 (K:∀f g,OwnS g C e k F f (L++[R])->Below C w g->wpList P ops Q rest (a.put o.dst f) g):
 wpList P ops Q (o :: rest) a (w1.alloc (.cells c e)):=by
 have n:=(az w1.heap.size w1).alloc (aj _) (.cells c e);have I:=l.lt;have g:Below w.heap.size w (w1.alloc (.cells c e)):=m.trans (n.mono m.size);have J:=l.new g;obtain⟨M,p,N⟩:=J;obtain⟨b,O,S,U,V⟩:=info_parts A;have W:c.toList.length=k:=by rw[R.len j];exact G
 have X:=R.new j n;refine wpList_append_own_at (P:=P) (w1.alloc (.cells c e)) t s x T u C e b z k h y O S U V B D v L.length M hs p ⟨w1.heap.size,0,none⟩ 1 1 c.toList H (by rw[W,Nat.one_mul]) ?_ (R.one j) (by unfold maxLen;omega) ?_ (aP i g.size) λf Y Z q _ aa=> ?_
 ·intro ab ac r
  rw[Addr.add_lit,Nat.zero_add,dZ];simpa using r
 ·have:=bn (show L.length+1<=1000001 by omega) E
  omega
 ·refine K f Y (OwnS.app p N (λb R' r=> ?_) Z q aa) (((g.mono i).grown q (aP i g.size) λd ab=>(I d ab).1))
  cases b with
  | succ b=>simp at r
  | zero=>
    obtain rfl:R=R':=(by simpa using r);rw[Nat.zero_mul,drop_zero,aJ (by omega)];exact X
theorem kO{k:Nat}{L:List Rp}{w:World}{F:Nat->Prop}{v:Value}(d:(rS k L).ok w F [v]):∃a n c,v=slice a n c:=by
 obtain⟨e,f,g,b,_⟩:=d;injection b with b _;exact⟨e,f,g,b⟩
theorem uQ{k:Nat}{L:List Rp}{w:World}{F:Nat->Prop}{a:PK}{n c i:Nat}(g:(rS k L).ok w F [slice a n c])(z:0<k)(A:i<n){R:Rp}(h:L[i]? =some R):
 ∃b o d,a=some ⟨b,o,none⟩/\F b/\b<w.heap.size/\R.ok w F d/\d.length=k/\∀j u,d[j]? =some u->w.cell? ⟨b,o+(i*k+j),none⟩=some u:=by
 obtain⟨l,m,p,e,B,C,D,E,G,H,q,r⟩:=g;obtain⟨⟨rfl,rfl,rfl⟩,-⟩:(a=l/\n=m/\c=p)/\True:=by injection e with e _;injection e with s t v;exact⟨⟨s,t,v⟩,trivial⟩
 have I:i*k+k<=n*k:=by
  have:=Nat.mul_le_mul_right k (show i+1<=n by omega)
  rwa [Nat.succ_mul] at this
 obtain⟨b,o,rfl,x,f⟩:=q (by omega);have y:=f 0 _ (ah (by omega));refine⟨b,o,_,rfl,x,World.block_lt_of_cell? w _ y,r i R h,by rw[aG,length_drop];omega,λj u d=>f _ u ?_⟩;rw[List.getElem?_take] at d;split at d
 ·rw[List.getElem?_drop] at d;exact d
 ·cases d
theorem O2{k:Nat}{L:List Rp}{w:World}{F:Nat->Prop}{v:Value}(d:(rS k L).ok w F [v]):∃a c,v=slice a L.length c/\(a=none->c=0)/\L.length<=c/\c<=maxLen:=by
 obtain⟨e,j,f,b,g,h,i,rfl,_⟩:=d;injection b with b _;exact⟨e,f,b,i,g,h⟩
theorem eZ{M:List PI}{w:World}{F:Nat->Prop}{v:Value}{n:Nat}(m:(rM M).ok w F [v])(b:M.length=n):∃a c,v=slice a n c/\RdM w w.heap.size a n M/\(a=none->c=0)/\n<=c/\c<=maxLen:=by
 obtain⟨a,z,c,d,o,p,q,f,g,e,h,r⟩:=(rM M).bl m;rw[aC,b] at f;subst f;injection d with d _;rw[Nat.mul_one] at e h;refine⟨a,c,d,⟨b,g,⟨e,h⟩,λi s j=> ?_⟩,q,o,p⟩;have k:i<g.length:=by rw[e,<-b];exact(List.getElem?_eq_some_iff.1 j).1
 have l:=r i (rB s) (by rw[List.getElem?_map,j];rfl);rw[ru (ah k)] at l;obtain⟨t,u,x,y⟩:=fC l rfl;exact⟨t,u,by rw[ah k,x],y⟩
theorem Cq{M:List PI}{w:World}{C:Nat}{v:Value}(a:MOwn w C v M):(rM M).ok w (Fr C) [v]:=by
 obtain⟨c,a⟩:=a;obtain⟨d,e,rfl,f,g,h,i,j⟩:=dB a.hd;refine⟨d,M.length,e,rfl,g,h,f,by rw[aC],c,i,λk=> ?_,λl r b=> ?_⟩
 ·obtain⟨m,n,o,⟨p,_⟩,_,q⟩:=j k
  exact⟨m,n,o,p,q⟩
 ·rw[List.getElem?_map] at b
  obtain⟨m,n,rfl⟩:=Option.map_eq_some_iff.1 b;obtain⟨q,o,p⟩:=a.row l m n;rw[ru o];exact gG p
def xr(a b:PI):PI:=zipWith (·^^^ ·) a b
theorem jB{a b:PI}(c:a.length=b.length):(xr a b).length=a.length:=by unfold xr;rw[length_zipWith];omega
theorem lS{a b:PI}(d:a.length=b.length)(j:Nat):(xr a b).getD j 0=a.getD j 0 ^^^ b.getD j 0:=by
 unfold xr;rw[af,af,af,List.getElem?_zipWith];rcases bq j a.length with c | c
 ·rw[ah c,ah (by omega)];rfl
 ·rw[List.getElem?_eq_none c,List.getElem?_eq_none (by omega)];rfl
theorem xr_lt{a b:PI}(d:∀x∈a,x<256)(e:∀x∈b,x<256):∀x∈xr a b,x<256:=by
 intro x f;obtain⟨g,c,rfl⟩:=bC f;unfold xr at c ⊢;rw[length_zipWith] at c;rw[getElem_zipWith];exact Nat.xor_lt_two_pow (n:=8) (d _ (aQ _)) (e _ (aQ _))
theorem iM{a b:PI}(d:a.length=b.length)(e:∀j,a.getD j 0=b.getD j 0):a=b:=by
 refine ext_getElem d λf g h=> ?_;have c:=e f;rw[af,af,ah g,ah h] at c;exact c
def sX(m:Nat->Nat->Nat)(j:Nat):PI->Nat | []=>0 | c :: l=>m c j ^^^ sX m j l
theorem qP(m:Nat->Nat->Nat)(j:Nat)(p:Nat->Bool)(l:PI):sX m j l=sX m j (l.filter p) ^^^ sX m j (l.filter λa=> !p a):=by
 induction l with
 | nil=>simp[sX]
 | cons a l b=>
   rw[filter_cons,filter_cons];cases hp:p a with
   | true=>
     simp only[Bool.not_true,Bool.false_eq_true,if_true,if_false];show m a j ^^^ sX m j l=(m a j ^^^ _) ^^^ _;rw[Nat.xor_assoc,<-b]
   | false=>
     simp only[Bool.not_false,Bool.false_eq_true,if_true,if_false];show m a j ^^^ sX m j l=_ ^^^ (m a j ^^^ _);rw[<-Nat.xor_assoc,Nat.xor_comm _ (m a j),Nat.xor_assoc,<-b]
theorem lT{m a:Nat->Nat->Nat}{j:Nat}:∀ {l:PI},(∀c∈l,m c j=a c j)->sX m j l=sX a j l:=by
 intro l
 induction l with
 | nil=>intro _;rfl
 | cons c l d=>
   intro b;show m c j ^^^ sX m j l=a c j ^^^ sX a j l;rw[b c (by simp),d λe f=>b e (by simp[f])]
theorem IC{m:Nat->Nat->Nat}{j:Nat}{l:PI}{c:Nat}(b:c∈l)(d:l.Nodup):sX m j l=m c j ^^^ sX m j (l.filter λa=> !(a == c)):=by
 rw[qP m j (λa=>a == c) l];congr 1
 have:l.filter (λa=>a == c)=[c]:=by
  rw[filter_beq,d.count,bg b];rfl
 rw[this];show m c j ^^^ 0=m c j;exact Nat.xor_zero _
def bR(m:Nat->PI)(cols:PI)(z:PI):PI:=cols.foldl (λa b=>xr a (m b)) z
theorem eQ{m:Nat->PI}{Z:Nat}:∀ {cols:PI} {z:PI},z.length=Z->(∀c∈cols,(m c).length=Z)->(bR m cols z).length=Z:=by
 intro cols
 induction cols with
 | nil=>intro z a _;exact a
 | cons c cols d=>
   intro z a b;exact d (by rw[jB (by rw[a,b c (by simp)])];exact a) λe f=>b e (by simp[f])
theorem iQ{m:Nat->PI}{Z:Nat}(j:Nat):∀ {cols:PI} {z:PI},z.length=Z->(∀c∈cols,(m c).length=Z)->(bR m cols z).getD j 0=z.getD j 0 ^^^ sX (λc j=>(m c).getD j 0) j cols:=by
 intro cols
 induction cols with
 | nil=>intro z a _;exact(Nat.xor_zero _).symm
 | cons c cols e=>
   intro z a b;have d:z.length=(m c).length:=(by rw[a,b c (by simp)]);show(bR m cols (xr z (m c))).getD j 0=_;rw[e (by rw[jB d];exact a) λf g=>b f (by simp[g]),lS d,Nat.xor_assoc];rfl
theorem IE{m v:Nat->PI}{Z:Nat}{cols:PI}{d:PI}(p:Nat->Bool)(e:∀c∈cols,(m c).length=Z)(i:∀c∈cols,p c=true->v c=m c)(j:d=bR m cols (replicate Z 0)):
 bR v (cols.filter p) d=bR m (cols.filter λc=> !p c) (replicate Z 0):=by
 have f:(replicate Z 0:PI).length=Z:=aI;have k:d.length=Z:=by rw[j];exact eQ f e
 have l:∀c∈cols.filter p,(v c).length=Z:=λc b=>by
  obtain⟨g,h⟩:=mem_filter.1 b;rw[i c g h];exact e c g
 have n:∀c∈cols.filter (λc=> !p c),(m c).length=Z:=λc b=>e c (mem_filter.1 b).1;refine iM (by rw[eQ k l,eQ f n]) λa=> ?_;rw[iQ a k l,iQ a f n,j,iQ a f e,qP (λc a=>(m c).getD a 0) a p cols]
 have o:sX (λc a=>(v c).getD a 0) a (cols.filter p)=sX (λc a=>(m c).getD a 0) a (cols.filter p):=lT λc b=>by
  obtain⟨g,h⟩:=mem_filter.1 b;show(v c).getD a 0=(m c).getD a 0;rw[i c g h]
 rw[o,Nat.xor_assoc,Nat.xor_comm (sX _ a (cols.filter p)),Nat.xor_assoc,Nat.xor_self,Nat.xor_zero]
def ij(c:Nat)(xs ys:PI)(k:Nat):PI:=(lU c xs ys).take k++ys.drop k
theorem pR{c:Nat}{xs ys:PI}(a:xs.length=ys.length){k:Nat}(b:k<=ys.length):(ij c xs ys k).length=ys.length:=by
 unfold ij;rw[aH,aG,length_drop,gS a];omega
theorem mM{c:Nat}{xs ys:PI}(a:xs.length=ys.length):ij c xs ys ys.length=lU c xs ys:=by
 unfold ij;rw[drop_length,append_nil,aJ (by rw[gS a];exact aj _)]
theorem pU{c:Nat}{xs ys:PI}(a:xs.length=ys.length){k:Nat}(b:k<ys.length):(ij c xs ys k).getD k 0=ys.getD k 0:=by
 unfold ij;rw[af,List.getElem?_append_right (by rw[aG,gS a];omega),aG,gS a,Nat.min_eq_left (by omega),Nat.sub_self,List.getElem?_drop,Nat.add_zero,af]
theorem pV{c:Nat}{xs ys:PI}(a:xs.length=ys.length){k:Nat}(b:k<ys.length):(ij c xs ys k).set k (ys.getD k 0 ^^^ fm c (xs.getD k 0))=ij c xs ys (k+1):=by
 have d:k<(lU c xs ys).length:=by rw[gS a];exact b
 rw[<-mN a k];unfold ij;rw[set_append_right _ _ (by rw[aG];omega),aG,Nat.min_eq_left (by omega),Nat.sub_self];rw[aN d,append_assoc,singleton_append];congr 1;rw[drop_eq_getElem_cons b,set_cons_zero,af,ah d];rfl
theorem OwnB.form{w:World}{C:Nat}{v:Value}{l:PI}(a:OwnB w C v l)(b:0<l.length):∃g c,v=slice (some ⟨g,0,none⟩) l.length c/\C<=g/\g<w.heap.size:=World.ownsRow.form a b
theorem OwnB.cell{w:World}{C g n c:Nat}{l:PI}(a:OwnB w C (slice (some ⟨g,0,none⟩) n c) l)(b:l.length=n){k:Nat}(d:k<n):w.cell? ⟨g,k,none⟩=some (.int .u8 (l.getD k 0:Nat))/\w.frozen? ⟨g,k,none⟩=false:=by
 unfold OwnB at a;rw[b] at a;exact⟨(a.cellAt k (by omega)).trans (dQ (by omega)),a.frozenAt k⟩
theorem ub(l:PI)(k x:Nat):(bF l).set k (.int .u8 (x:Nat))=bF (l.set k x):=by
 unfold bF;rw[map_set]
theorem OwnB.stored{w:World}{C g n c:Nat}{l:PI}(a:OwnB w C (slice (some ⟨g,0,none⟩) n c) l)(b:l.length=n)(k x:Nat):
 OwnB (w.setCell ⟨g,k,none⟩ (.int .u8 (x:Nat))) C (slice (some ⟨g,0,none⟩) n c) (l.set k x)/\w.grownBy (w.setCell ⟨g,k,none⟩ (.int .u8 (x:Nat))) (some g):=by
 unfold OwnB at a ⊢;rw[b] at a;rw[length_set,b,<-ub];exact a.stored k _
theorem grownBy_refl(w:World)(r:Option Nat):w.grownBy w r:=⟨rfl,rfl,rfl,aj _,λ_ _ _=>rfl⟩
theorem grownBy_trans{a b c:World}{r:Option Nat}(d:a.grownBy b r)(k:b.grownBy c r):a.grownBy c r:=
 ⟨k.os.trans d.os,k.tape.trans d.tape,k.output.trans d.output,aP d.size k.size,λe f g=>(k.block e (aW f d.size) g).trans (d.block e f g)⟩
theorem iN{a b:World}{r:Option Nat}(c:a.grownBy b r)(j:Nat):a.grownBy (b.drewN j) r:=⟨c.os,c.tape,c.output,c.size,c.block⟩
theorem Blk.ne{w:World}{g a:Nat}{t t':TypeId}{b c:Array Value}(d:Blk w g t b)(e:Blk w a t' c)(f:t≠t'):g≠a:=by
 intro h;subst h;have:=d.symm.trans e;injection this with this;injection this with _ i;exact f i
theorem LS{w:World}{C g b n c:Nat}{l:PI}(d:OwnB w C (slice (some ⟨g,0,none⟩) n c) l)(e:Fld w b):b≠g:=by
 rcases d.2 with⟨a,_⟩ | ⟨h,i,j,a,_,f,_⟩
 ·simp at a
 ·injection a with a
  injection a with a;injection a with a;subst a;exact Blk.ne (t:=337) (t':=5) e f (by decide)
theorem LU(j c:Nat)(xs ys:PI)(a:PK)(n L C:Nat)(u:Value)(w:World)(z:Fld w j)(M:c<256)(o:∀w',w.grownBy w' u.ownBlock->Rd w' w'.heap.size a n (bF xs))(p:OwnB w C u ys)(s:ys.length=n)(q:By xs)(t:By ys)(Y:n<=1000000):
 Calls prog 336 #[pointer (some ⟨j,0,none⟩),.int .u8 c,slice a n L,u] w λA w'=>A=returned (.tuple #[])/\OwnB w' C u (lU c xs ys)/\w.grownBy w' u.ownBlock:=by
 have v:xs.length=n:=by have:=(o w (grownBy_refl _ _)).len;rwa [bG] at this
 by_cases B:c=0
 ·subst B
  rw[IY (by omega)];clear o q t v s;have d:=ae p;clear p;go_enter func336,ntmps336;go_wp2_with fail
  (try simp only[Exit.inBlock,Exit.then]);refine bodyPost_ret (results_none rfl _ _ _) rfl ?_
  exact⟨rfl,d.o,grownBy_refl _ _⟩
 ·have Z:((c:Int) == 0)=false:=by simpa using B
  have D:=ae o;have N:=ae q;have O:=ae t;have r:=ae v;have e:=ae s;have d:PH (OwnB w C u (ij c xs ys 0)):=ae p;have f:=ae z;clear o q t v s p z;go_enter func336,ntmps336;go_wp2_with fail;go_loopw [8,9,14] (λ_ _ g wr=>∃b:Nat,b<=n/\g=int i64 b/\PH (OwnB wr C u (ij c xs ys b))/\PH (Fld wr j)/\PH (w.grownBy wr u.ownBlock)) (λ_ _ g _=>n-(intOf g).toNat)
  case atStart=>exact⟨0,by omega,rfl,d,f,ae (grownBy_refl _ _)⟩
  case round=>
   clear d f;obtain⟨b,hk,rfl,d,f,k⟩:=hrel;by_cases l:b<n
   ·have E:=D.o wr k.o
    obtain⟨bx,ox,rfl,q,m⟩:=E.atB l;have P:=m b l;have g:(ij c xs ys b).length=n:=(by rw[pR (by rw[r.o,e.o]) (by rw[e.o];omega)];exact e.o);obtain⟨i,F,rfl,aa,ab⟩:=d.o.form (by omega);rw[g] at d k D ⊢;obtain⟨G,Q⟩:=d.o.cell g l;rw[pU (by rw[r.o,e.o]) (by rw[e.o];exact l)] at G;have x:=d.o.stored g b (ys.getD b 0 ^^^ fm c (xs.getD b 0));rw[pV (by rw[r.o,e.o]) (by rw[e.o];exact l)] at x;have R:=getD_lt N.o b;have S:=getD_lt O.o b;have y:=LS d.o f.o;have T:=g;have U:=ae y;clear E m g y;generalize xs.getD b 0=y at*;generalize ys.getD b 0=H at*;have I:=ae (ut j c y M R wr.drew (Blk.drew f.o));have V:=iC c y;generalize fm c y=J at*;have e1:=u8_xor_nat H J S V;generalize H ^^^ J=m at*;have K:=ae x;clear x;have ac:(b:Int)<(n:Int):=(by omega);go_wp2_with fail
    go_region_with ((go_at_call 307;refine I.o.mono ?_;rintro A w3 ⟨rfl,g,rfl⟩))
    all_goals(
     have x:PH (OwnB ((wr.drewN (1+g)).setCell ⟨i,b,none⟩ (.int .u8 (m:Nat))) C (slice (some ⟨i,0,none⟩) n F) (ij c xs ys (b+1))):=ae K.o.1;have W:PH (w.grownBy ((wr.drewN (1+g)).setCell ⟨i,b,none⟩ (.int .u8 (m:Nat))) (Value.slice (some ⟨i,0,none⟩) n F).ownBlock):=ae (grownBy_trans k.o (grownBy_trans (iN (grownBy_refl _ _) (1+g)) ((OwnB.stored (d.o.drewN (1+g)) T b m).2)));have X:PH (Fld ((wr.drewN (1+g)).setCell ⟨i,b,none⟩ (.int .u8 (m:Nat))) j):=ae (Blk.far (w:=wr.drewN (1+g)) f.o U.o _);clear K d k f I P G Q;generalize (wr.drewN (1+g)).setCell ⟨i,b,none⟩ (.int .u8 (m:Nat))=w4 at*;go_wp2_with fail;go_roundw
     case rel=>exact⟨b+1,by omega,by go_num,x,X,W⟩
     case measure=>simp[intOf];omega)
   ·obtain rfl:b=n:=by omega
    have g:ij c xs ys b=lU c xs ys:=(by rw[<-e.o];exact mM (by rw[r.o,e.o]));rw[g] at d;go_wp2_with fail
    go_end0
    exact⟨rfl,d.o,k.o⟩
def dz(b:Nat->Act->World->Prop)(Q:Exit->Act->World->Prop):Exit->Act->World->Prop
 | .goto l',a,w=>b l' a w
 | e,a,w=>Q e a w
theorem iF{P:Program}{Q:Exit->Act->World->Prop}{c:Code}{a:Act}{w:World}(p:Nat->Nat->Act->World->Prop)
 (first:c.wp P (dz (λl a w=>∃n,p l n a w) Q) a w)
 (s:∀l n a w,p l n a w->∃rest,findLabel c l=some rest/\rest.wp P (dz (λg b d=>∃h,h<n/\p g h b d) Q) a w):(Code.scope c).wp P Q a w:=by
 intro q i r;have C:∀l rest,findLabel c l=some rest->gotoIn l (.inScope c :: i)=some (.code rest :: .inScope c :: i):=λl rest t=>by simp[gotoIn,t]
 have E:∀n l a w rest,p l n a w->findLabel c l=some rest->∃j b d,Q j b d/\Arrives P (lone (q.at a (.code rest :: .inScope c :: i)) r w) q i r j b d:=by
  intro n
  induction n using Nat.strongRecOn with
  | _ n ih=>
    intro l a w rest F t;obtain⟨G,D,H⟩:=s l n a w F;obtain rfl:rest=G:=(by rw[t] at D;exact Option.some.inj D);obtain⟨j,b,d,e,f⟩:=H q (.inScope c :: i) r;cases j with
    | normal=>exact⟨.normal,b,d,e,Steps.trans f (.one step_inScope)⟩
    | exit id=>exact⟨.exit id,b,d,e,λu v=>f u (by simp[exitTo,v])⟩
    | goto g=>
      obtain⟨h,I,k⟩:=e;obtain⟨m,o,_⟩:=s g h b d k;obtain⟨x,y,z,A,B⟩:=ih h I g b d m k o;exact⟨x,y,z,A,.of_steps (f _ (C g m o)) B⟩
    | ret=>exact⟨_,b,d,e,f⟩
    | panic ch=>exact⟨_,b,d,e,f⟩
    | outgrown=>exact⟨_,b,d,e,f⟩
 obtain⟨j,b,d,e,f⟩:=first q (.inScope c :: i) r
 cases j with
 | normal=>exact⟨.normal,b,d,e,.head step_scope (Steps.trans f (.one step_inScope))⟩
 | exit id=>exact⟨.exit id,b,d,e,λu v=>.head step_scope (f u (by simp[exitTo,v]))⟩
 | goto g=>
   obtain⟨h,k⟩:=e;obtain⟨m,o,_⟩:=s g h b d k;obtain⟨x,y,z,A,B⟩:=E h g b d m k o;exact⟨x,y,z,A,.of_steps (.head step_scope (f _ (C g m o))) B⟩
 | ret=>exact⟨_,b,d,e,.of_steps (.one step_scope) f⟩
 | panic ch=>exact⟨_,b,d,e,.of_steps (.one step_scope) f⟩
 | outgrown=>exact⟨_,b,d,e,.of_steps (.one step_scope) f⟩
theorem zF{P:Program}{Q:Exit->Act->World->Prop}{a:Act}{w:World}{j rest:Code}(l m:Nat)(y:l≠m)(i:Nat->Act->World->Prop)(K:Act->World->Prop)(o:Nat)(p:Code)
 (t:findLabel (j.seq ((Code.label l).seq rest)) l=some (Code.skip.seq rest))
 (u:findLabel (j.seq ((Code.label l).seq rest)) m=some (Code.skip.seq p))
 (first:j.wp P (Exit.then (i o) (dz (λ_ _ _=>False) Q)) a w)
 (q:∀n a w,i n a w->rest.wp P (dz (λe c d=>(e=l/\∃f,f<n/\i f c d)\/(e=m/\K c d)) Q) a w)
 (v:∀a w,K a w->p.wp P (dz (λ_ _ _=>False) Q) a w):(Code.scope (j.seq ((Code.label l).seq rest))).wp P Q a w:=by
 have r:∀n (g:Exit) (c:Act) (d:World),dz (λe c d=>(e=l/\∃f,f<n/\i f c d)\/(e=m/\K c d)) Q g c d->dz (λe c d=>∃f,f<n+1/\((e=l/\∃h,f=h+1/\i h c d)\/(e=m/\f=0/\K c d))) Q g c d:=by
  intro n g c d b;cases g with
  | goto e=>
    rcases b with⟨k,f,s,x⟩ | ⟨k,s⟩
    ·exact⟨f+1,by omega,.inl ⟨k,f,rfl,x⟩⟩
    ·exact⟨0,by omega,.inr ⟨k,rfl,s⟩⟩
  | normal=>exact b
  | exit id=>exact b
  | ret=>exact b
  | panic ch=>exact b
  | outgrown=>exact b
 refine iF (λe n a w=>(e=l/\∃h,n=h+1/\i h a w)\/(e=m/\n=0/\K a w)) ?_ ?_
 ·refine wp_seq (wp_mono first ?_)
  intro g c d b;cases g with
  | normal=>
    refine wp_seq (wp_label ?_);refine wp_mono (q o c d b) ?_;intro g c d b;have:=r _ g c d b;cases g with
    | goto e=>obtain⟨f,_,k⟩:=this;exact⟨f,k⟩
    | normal=>exact b
    | exit id=>exact b
    | ret=>exact b
    | panic ch=>exact b
    | outgrown=>exact b
  | goto e=>exact b.elim
  | exit id=>exact b
  | ret=>exact b
  | panic ch=>exact b
  | outgrown=>exact b
 ·intro e n a w f
  rcases f with⟨rfl,h,rfl,f⟩ | ⟨rfl,rfl,k⟩
  ·exact⟨_,t,wp_seq (wp_skip (wp_mono (q h a w f) (r h)))⟩
  ·refine⟨_,u,wp_seq (wp_skip (wp_mono (v a w k) ?_))⟩
   intro g c d b;cases g with
   | goto e=>exact b.elim
   | normal=>exact b
   | exit id=>exact b
   | ret=>exact b
   | panic ch=>exact b
   | outgrown=>exact b
def lL(M:List PI)(col i k:Nat):Int:=match lV M col i k with | some a=>(a:Int) | none=> -1
theorem Fq(M:List PI)(col i:Nat):lL M col i 0= -1:=rfl
theorem IX{M:List PI}{col i k:Nat}(a:gt M i col≠0):lL M col i (k+1)=i:=by unfold lL;rw[lV,bg a]
theorem Fs{M:List PI}{col i k:Nat}(a:gt M i col=0):lL M col i (k+1)=lL M col (i+1) k:=by unfold lL;rw[lV,bh (λb=>b a)]
theorem Ec{a b:Int}(c:a=b):Ending.returned (int i64 a)=returned (int i64 b):=by rw[c]
theorem BH(n m b col:Nat)(M:List PI)(B:Nat)(a:PK)(c:Nat)(w:World)(h:RdM w B a m M)(K:Wf n M)(L:col<n)(Q:b<=m)(T:m<=1000000)(U:n<=1000000):
 Calls prog 333 #[slice a m c,int i64 b,int i64 col] w λe d=>e=returned (int i64 (lL M col b (m-b)))/\w=d:=by
 have N:=ae h;have R:=ae K;clear h K;go_enter func333,ntmps333;go_wp2_with fail
 refine zF 0 1 (by decide) (λC f d=>∃(i:Nat) (u8 g j k l o p q r s t u v x y z:Value),(i<=m/\m-i<C/\PH (lL M col i (m-i)=lL M col b (m-b))/\w=d)/\
  f= { tmps:=#[slice a m c,int i64 b,int i64 col,undef,undef,undef,int i64 0,int i64 i,u8,g,j,k,l,o,p,q,r,s,t,u,v,x,y,z],defers:=[] }) (λf d=>∃(i:Nat) (u8 g j k l o p q r s t u v x y z:Value),(PH ((i:Int)=lL M col b (m-b))/\w=d)/\
  f= { tmps:=#[slice a m c,int i64 b,int i64 col,undef,undef,undef,int i64 0,int i64 i,u8,g,j,k,l,o,p,q,r,s,t,u,v,x,y,z],defers:=[] }) (m-b+1) _ rfl rfl ?_ ?_ ?_
 ·go_wp2_with fail
  exact⟨b,_,_,_,_,_,_,_,_,_,_,_,_,_,_,_,_,⟨Q,by omega,ae rfl,by first | rfl | trivial⟩,rfl⟩
 ·rintro C f d ⟨i,u8,g,j,k,l,o,p,q,r,s,t,u,v,x,y,z,⟨V,W,e,rfl⟩,rfl⟩
  by_cases O:i<m
  ·obtain⟨X,Y,f,Z,rfl,hb,S,D,_⟩:=N.o.at O
   have G:=(R.o.get (i:=i) (by rw[N.o.len];exact O)).1;rw[G] at S D;obtain⟨bx,ox,rfl,aa,H⟩:=D.atB L;have P:=H col L;have E:m-i=(m-(i+1))+1:=(by omega);have I:(M.getD i []).getD col 0=gt M i col:=rfl;rw[I] at P;have ab:(i:Int)<(m:Int):=(by omega);have ac:(col:Int)<(n:Int):=(by omega);by_cases F:gt M i col=0
   ·have A:PH (lL M col (i+1) (m-(i+1))=lL M col b (m-b)):=ae (by rw[<-e.o,E,Fs F])
    rw[F] at P;clear H D G E I F e;obtain⟨J,rfl⟩:∃J,C=J+1:=⟨C-1,by omega⟩;go_wp2_with fail;go_step3;exact .inl ⟨rfl,J,by omega,i+1,_,_,_,_,_,_,_,_,_,_,_,_,_,_,_,_,⟨by omega,by omega,A,by first | rfl | trivial⟩,by rfl⟩
   ·have A:PH ((i:Int)=lL M col b (m-b)):=ae (by rw[<-e.o,E,IX F])
    generalize gt M i col=J at*;have hq:((J:Int) != 0)=true:=(by simp;omega);clear H D G E I e;go_wp2_with fail;go_step3;exact .inr ⟨rfl,i,_,_,_,_,_,_,_,_,_,_,_,_,_,_,_,_,⟨A,by first | rfl | trivial⟩,by rfl⟩
  ·obtain rfl:i=m:=by omega
   have A:PH ((-1:Int)=lL M col b (i-b)):=ae (by rw[<-e.o,Nat.sub_self,Fq]);go_wp2_with fail;simp only[dz];go_ret;exact⟨Ec A.o,rfl⟩
 ·rintro f d ⟨i,u8,g,j,k,l,o,p,q,r,s,t,u,v,x,y,z,⟨e,rfl⟩,rfl⟩
  go_wp2_with fail;simp only[dz];go_ret;exact⟨Ec e.o,rfl⟩
theorem MOwn.at2{w:World}{C g n c:Nat}{M:List PI}(a:MOwn w C (slice (some ⟨g,0,none⟩) n c) M){i:Nat}(b:i<n){r:Nat}(d:(M.getD i []).length=r):
 ∃a' c',w.cell? ⟨g,i,none⟩=some (slice a' r c')/\w.frozen? ⟨g,i,none⟩=false/\OwnB w C (slice a' r c') (M.getD i []):=by
 have:=a.at b;rw[d] at this;exact this
theorem MOwn.two{w:World}{C g n c:Nat}{M:List PI}(a:MOwn w C (slice (some ⟨g,0,none⟩) n c) M){i j:Nat}(s:i<n)(t:j<n)(l:i≠j){b d:Value}(m:w.cell? ⟨g,i,none⟩=some b)(o:w.cell? ⟨g,j,none⟩=some d):
 OwnB w C b (M.getD i [])/\∀w',w.grownBy w' d.ownBlock->OwnB w' C b (M.getD i []):=by
 have p:=a.len;obtain⟨f,a⟩:=a;have e:=a.hd;rw[p] at e;have h:f[i]? =some b:=by rw[<-e.cellAt i (by omega)];exact m
 have q:f[j]? =some d:=by rw[<-e.cellAt j (by omega)];exact o
 have k:=(a.of h).1;exact⟨k,λw' r=>k.kept r (a.apart i j b d l h q)⟩
theorem Hx{w w':World}{C a:Nat}{u:Value}{l:PI}(c:Fld w a)(d:OwnB w C u l)(e:w.grownBy w' u.ownBlock):Fld w' a:=by
 refine Blk.grown c e ?_;rcases d.2 with⟨b,_⟩ | ⟨f,h,i,b,_,g,_⟩
 ·rw[b];simp[Value.ownBlock]
 ·rw[b]
  have:a≠f:=Blk.ne (t:=337) (t':=5) c g (by decide);simpa[Value.ownBlock] using this
theorem vK{w:World}{C g n c d:Nat}{M:List PI}(b:MOwn w C (slice (some ⟨g,0,none⟩) n c) M)(e:Fld w d):d≠g:=by
 obtain⟨h,b⟩:=b;rcases b.hd.2 with⟨a,_⟩ | ⟨i,j,k,a,_,f,_⟩
 ·simp at a
 ·injection a with a
  injection a with a;injection a with a;subst a;exact Blk.ne (t:=337) (t':=30) e f (by decide)
theorem oF{w w':World}{C:Nat}{u:Value}(a:w.grownBy w' u.ownBlock)(b:∀g,u.ownBlock=some g->C<=g)(c:C<=w.heap.size):Below C w w':=(az _ _).grown a c b
theorem vM(r n m cols c C:Nat)(M:List PI)(a:PK)(w:World)(hF:Fld w r)(h:MOwn w C (slice a m c) M)(hW:Wf n M)(a1:cols<=n)(hC:C<=w.heap.size)(hm:m<=1000000)(hn:n<=1000000):
 Calls prog 272 #[pointer (some ⟨r,0,none⟩),slice a m c,int i64 cols] w λz A=>z=returned (int i64 ((dc M cols).2:Nat))/\MOwn A C (slice a m c) (dc M cols).1/\Below C w A:=by
 have HW:=ae hW;have k:PH (MOwn w C (slice a m c) (dc M 0).1):=ae h;have t:=ae hF;have ay:=ae h.len;clear hW h hF;go_enter func272,ntmps272;go_wp2_with fail;go_loopw [7,8,9,10,12] (λb _ _ _ i wr=>∃d:Nat,d<=cols/\i=int i64 d/\b=int i64 ((dc M d).2:Nat)/\PH (MOwn wr C (slice a m c) (dc M d).1)/\PH (Fld wr r)/\PH (Below C w wr)) (λ_ _ _ _ i _=>cols-(intOf i).toNat)
 case atStart=>exact⟨0,by omega,rfl,rfl,k,t,ae (az _ _)⟩
 case round=>
  clear k t;obtain⟨d,hk,rfl,rfl,k,t,R⟩:=hrel;by_cases a2:d<cols
  ·obtain⟨ls,ag⟩:=iV HW.o d
   have e:=ag.wf;have ai:=ag.le;rw[jE,ay.o] at ai;have f:(dc M d).1.length=m:=(by rw[jE];exact ay.o);have b:dc M (d+1)=jD (dc M d).1 (dc M d).2 d:=rfl;have Z:=ae b;clear b ag;generalize (dc M d).1=B at*;generalize (dc M d).2=b at*;have aa:=ae e;have u:=ae f;have S:=ae (BH n m b d B wr.heap.size a c wr k.o.rdM e (by omega) ai hm hn);clear e f;have a3:(d:Int)<(cols:Int):=(by omega);cases hf:lV B d b (m-b) with
   | none=>
     have T:lL B d b (m-b)= -1:=(by unfold lL;rw[hf]);rw[T] at S;have U:dc M (d+1)=(B,b):=(by rw[Z.o];unfold jD;rw[u.o,hf]);have H:=ae U;clear T U hf Z;go_wp2_with fail;refine S.o.mono ?_;rintro z w2 ⟨rfl,rfl⟩;go_wp2_with fail;go_roundw
     case rel=>exact⟨d+1,by omega,by go_num,by rw[H.o],by rw[H.o];exact k,t,R⟩
     case measure=>simp[intOf];omega
   | some p=>
     obtain⟨p1,p2,D,-⟩:=mO _ _ _ hf;have J:p<m:=(by omega);have l:b<m:=(by omega);have T:lL B d b (m-b)=p:=(by unfold lL;rw[hf]);rw[T] at S;have U:dc M (d+1)=(dn (jc B b d p) b d m,b+1):=(by rw[Z.o];unfold jD;rw[u.o,hf]);have H:=ae U;clear T U hf Z;obtain⟨e,rfl,V,F⟩:=k.o.form (by omega);obtain⟨o,q,K,ab,L⟩:=k.o.at2 l (aa.o.get (by rw[u.o];exact l)).1;obtain⟨N,O,f,Q,G⟩:=k.o.at2 J (aa.o.get (by rw[u.o];exact J)).1;have y:=ae (k.o.swap l J K f);have an:¬((p:Int)<0):=(by omega);have a4:(b:Int)<(m:Int):=(by omega);have ao:(p:Int)<(m:Int):=(by omega);go_wp2_with fail;refine S.o.mono ?_;rintro z w2 ⟨rfl,rfl⟩;obtain⟨j,g⟩:∃j,j=swp B b p:=⟨_,rfl⟩;have v:jc B b d p=j.set b (kE (fi (gt j b d)) (j.getD b [])):=(by rw[g];rfl);have s:j.length=m:=by rw[g,pX];exact u.o
     have x:Wf n j:=by
      rw[g];refine wQ λi hi=> ?_;rw[pX,u.o] at hi;rw[sP (by rw[u.o];exact l) (by rw[u.o];exact J)];exact aa.o.get (by rw[u.o];exact wR l J hi)
     rw[v] at H;rw[<-g] at y;have W:=ae s;have P:=ae x;clear v g s x D;go_wp2_with fail;go_cut [] (λs=>PH (Fld s r)/\PH (Below C w s)/\e<s.heap.size/\PH (MOwn s C (slice (some ⟨e,0,none⟩) m c) j))
     case first=>
      by_cases g:b=p
      ·subst g
       rw[K] at f;obtain⟨rfl,rfl⟩:o=N/\q=O:=(by simpa using f);clear f Q G L;go_region;have x:PH (Fld ((wr.setCell ⟨e,b,none⟩ (Value.slice o n q)).setCell ⟨e,b,none⟩ (Value.slice o n q)).drew r):=ae (Blk.far (w:=wr.setCell ⟨e,b,none⟩ (Value.slice o n q)) (Blk.far (w:=wr) t.o (vK k.o t.o) _) (vK k.o t.o) _);have D:PH (Below C w ((wr.setCell ⟨e,b,none⟩ (Value.slice o n q)).setCell ⟨e,b,none⟩ (Value.slice o n q)).drew):=ae (((R.o.setCell (p:=⟨e,b,none⟩) V _).setCell (p:=⟨e,b,none⟩) V _).drew);have I:e<((wr.setCell ⟨e,b,none⟩ (Value.slice o n q)).setCell ⟨e,b,none⟩ (Value.slice o n q)).drew.heap.size:=(by simpa[World.setCell] using F);have E:PH (MOwn ((wr.setCell ⟨e,b,none⟩ (Value.slice o n q)).setCell ⟨e,b,none⟩ (Value.slice o n q)).drew C (Value.slice (some ⟨e,0,none⟩) m c) j):=ae (y.o.drewN 1);go_wp2_with fail;go_meet;exact⟨x,D,I,E⟩
      ·have X:¬((b:Int)=(p:Int)):=by omega
       clear G L;go_region;have x:PH (Fld ((wr.setCell ⟨e,b,none⟩ (Value.slice N n O)).setCell ⟨e,p,none⟩ (Value.slice o n q)).drew r):=ae (Blk.far (w:=wr.setCell ⟨e,b,none⟩ (Value.slice N n O)) (Blk.far (w:=wr) t.o (vK k.o t.o) _) (vK k.o t.o) _);have D:PH (Below C w ((wr.setCell ⟨e,b,none⟩ (Value.slice N n O)).setCell ⟨e,p,none⟩ (Value.slice o n q)).drew):=ae (((R.o.setCell (p:=⟨e,b,none⟩) V _).setCell (p:=⟨e,p,none⟩) V _).drew);have I:e<((wr.setCell ⟨e,b,none⟩ (Value.slice N n O)).setCell ⟨e,p,none⟩ (Value.slice o n q)).drew.heap.size:=(by simpa[World.setCell] using F);have E:PH (MOwn ((wr.setCell ⟨e,b,none⟩ (Value.slice N n O)).setCell ⟨e,p,none⟩ (Value.slice o n q)).drew C (Value.slice (some ⟨e,0,none⟩) m c) j):=ae (y.o.drewN 1);go_wp2_with fail;go_meet;exact⟨x,D,I,E⟩
     case rest=>
     obtain⟨x,D,I,E⟩:=hcut;clear S ai F aa u y K ab f Q G L k t R;obtain⟨a7,aS,K,ab,L⟩:=E.o.at2 l (P.o.get (by rw[W.o];exact l)).1;have G:=(P.o.get (i:=b) (by rw[W.o];exact l)).2;have g:=(P.o.get (i:=b) (by rw[W.o];exact l)).1;have ac:d<n:=(by omega);obtain⟨a8,a9,v,y⟩:=L.rd;injection v with v e4 e5;subst v e5;clear e4;rw[g] at y;obtain⟨bt,ot,rfl,aq,X⟩:=y.atB ac;have Y:=X d ac;have ad:(j.getD b []).getD d 0=gt j b d:=rfl;rw[ad] at Y;have am:=P.o.lt b d
     have Q:PH (Wf n (j.set b (kE (fi (gt j b d)) (j.getD b [])))):=ae (by
      intro f hr;rcases mem_or_eq_of_mem_set hr with h | h
      ·exact P.o f h
      ·rw[h];exact⟨by rw[qE];exact g,By.sc _ _⟩)
     have CI:=ae (OB r (gt j b d) am wc.drew (Blk.drew x.o));have CS:=ae λF=>GH (some ⟨r,0,none⟩) (fi (gt j b d)) (j.getD b []) (some ⟨bt,ot,none⟩) n aS (wc.drewN F) (Fp.of (Blk.drewN x.o F)) (Ku _) y G hn;have aA:(d:Int)<(n:Int):=(by omega);clear X L y G g ad;generalize G:j.set b (kE (fi (gt j b d)) (j.getD b []))=g at*;have HQ:=ae G;clear G;generalize gt j b d=aB at*;generalize fi aB=fq at*;have au:PH (kE fq (j.getD b [])=kE fq (j.getD b [])):=ae rfl;generalize kE fq (j.getD b [])=aD at*;go_wp2_with fail;go_cut [] (λs=>PH (Fld s r)/\PH (Below C w s)/\PH (MOwn s C (slice (some ⟨e,0,none⟩) m c) g))
     case first=>
      go_region_with (first
       | (go_at_call 335;refine CI.o.mono ?_;rintro z w4 ⟨rfl,F,rfl⟩)
       | (go_at_call 334;refine(CS.o _).mono ?_;rintro z G ⟨v5,rfl,ad,s⟩;obtain⟨a5,c5,rfl,ak⟩:=ad.rd;clear ak
          have ax:=(s.frozen (p:=⟨e,b,none⟩) I).trans ab;have aE:=(s.cell (p:=⟨e,b,none⟩) I).trans K))
      all_goals(
       have ak:=MOwn.put (w0:=wc.drewN (1+F)) (E.o.drewN (1+F)) s l ad (by have:=D.o.size;show C<=wc.heap.size;omega);rw[HQ.o] at ak;have av:PH (Fld (G.setCell ⟨e,b,none⟩ (Value.slice a5 aD.length c5)) r):=ae (Blk.far (w:=G) (Blk.below (Blk.drewN x.o (1+F)) s (Blk.lt x.o)) (vK E.o x.o) _);have aw:PH (Below C w (G.setCell ⟨e,b,none⟩ (Value.slice a5 aD.length c5))):=ae (((below_drewN D.o (1+F)).trans (s.mono (by have:=D.o.size;show C<=wc.heap.size;omega))).setCell (p:=⟨e,b,none⟩) V _);have al:=ae ak;clear ak s ad;go_wp2_with fail;go_meet;exact⟨av,aw,al⟩)
     case rest=>
     obtain⟨F,G,ad⟩:=hcut;have ak:PH (g.length=m):=ae (by rw[<-HQ.o,length_set];exact W.o);clear CI CS au x D I E ab K aq aA Y am W P HQ p1 p2 J ao an;have s:PH (MOwn wc C (slice (some ⟨e,0,none⟩) m c) (dn g b d 0)):=ae (by rw[zH];exact ad.o);clear ad;go_wp2_with fail;go_loopw [10,55] (λ_ i J=>∃f:Nat,f<=m/\i=int i64 f/\PH (MOwn J C (slice (some ⟨e,0,none⟩) m c) (dn g b d f))/\PH (Fld J r)/\PH (Below C w J)) (λ_ i _=>m-(intOf i).toNat)
     case atStart=>exact⟨0,by omega,rfl,s,F,G⟩
     case round=>
      clear s F G;obtain⟨f,hr,rfl,s,F,G⟩:=hrel;by_cases J:f<m
      ·have bb:(f:Int)<(m:Int):=by omega
       have W:f<g.length:=(by rw[ak.o];exact J);have am:b<g.length:=(by rw[ak.o];exact l);by_cases y:f=b
       ·have aT:((f:Int) != (b:Int))=false:=by simp[y]
        have al:PH (MOwn wr C (slice (some ⟨e,0,none⟩) m c) (dn g b d (f+1))):=ae (by rw[rT Q.o W,bg y];exact s.o);clear y s;go_wp2_with fail;go_roundw
        case rel=>exact⟨f+1,by omega,by go_num,al,F,G⟩
        case measure=>simp[intOf];omega
       ·have aT:((f:Int) != (b:Int))=true:=by simp;omega
        have al:=qU Q.o d f am;have an:(dn g b d f).length=m:=(by rw[fN];exact ak.o);have aE:(dn g b d f).getD f []=g.getD f []:=(by rw[iG b d f W,bh (by omega)]);have aF:(dn g b d f).getD b []=g.getD b []:=(by rw[iG b d f am,bh (by omega)]);obtain⟨ar,cr,ao,-,P⟩:=s.o.at2 J (al.get (i:=f) (by rw[an];exact J)).1;obtain⟨aK,aV,aL,-,aM⟩:=s.o.at2 l (al.get (i:=b) (by rw[an];exact l)).1;obtain⟨aX,aq⟩:=s.o.two l J (λz=>y z.symm) aL ao;rw[aE] at P;rw[aF] at aq aM;have ad:=Q.o.get W;have au:=Q.o.get am;obtain⟨bc,bd,v,av⟩:=P.rd;injection v with v e4 e5;subst v e5;clear e4;rw[ad.1] at av;obtain⟨br,aw,rfl,be,X⟩:=av.atB ac;have Y:=X d ac;have aO:(g.getD f []).getD d 0=gt g f d:=rfl;rw[aO] at Y
        have hx:∀A,wr.drew.grownBy A (Value.slice (some ⟨br,aw,none⟩) n cr).ownBlock->Rd A A.heap.size aK n (bF (g.getD b [])):=λA hg=>by
         obtain⟨a6,c6,e6,h6⟩:=(aq A (grownBy_trans (iN (grownBy_refl wr _) 1) hg)).rd;injection e6 with e7 e8 e9;subst e7;rw[au.1] at h6;exact h6
        have CA:=ae (LU r (gt g f d) (g.getD b []) (g.getD f []) aK n aV C (slice (some ⟨br,aw,none⟩) n cr) wr.drew (Blk.drew F.o) (Q.o.lt f d) hx (P.drewN 1) ad.1 au.2 ad.2 hn);have A:dn g b d (f+1)=(dn g b d f).set f (lU (gt g f d) (g.getD b []) (g.getD f [])):=(by rw[rT Q.o W,bh y]);have aR:=ae A;have ax:=ae P;have aA:(d:Int)<(n:Int):=(by omega);have a0:C<=wr.heap.size:=(by have:=G.o.size;omega);clear aq P aM aX av X hx al an aE aF ad au aO A;generalize lU (gt g f d) (g.getD b []) (g.getD f [])=av at*;generalize gt g f d=aB at*;go_wp2_with fail
        go_still_tail 16,(by kernel_rfl)
        change wpList _ _ _ _ _ wr.drew;go_wp2_with fail;refine CA.o.mono ?_;rintro z A ⟨rfl,ad,al⟩;have P:wr.grownBy A (Value.slice (some ⟨br,aw,none⟩) n cr).ownBlock:=grownBy_trans (iN (grownBy_refl wr _) 1) al;have an:PH (MOwn A C (slice (some ⟨e,0,none⟩) m c) (dn g b d (f+1))):=ae (by rw[aR.o];exact s.o.wrote J ao P ad);have aq:PH (Fld A r):=ae (Hx F.o ax.o P);have au:PH (Below C w A):=ae (G.o.trans (oF P (λe hg=>(ax.o.lt e hg).1) a0));clear ad al P s F G ao aL Y CA aR ax;go_wp2_with fail;go_roundw
        case rel=>exact⟨f+1,by omega,by go_num,an,aq,au⟩
        case measure=>simp[intOf];omega
      ·obtain rfl:f=m:=by omega
       have P:PH (MOwn wr C (slice (some ⟨e,0,none⟩) f c) (dc M (d+1)).1):=ae (by rw[H.o];exact s.o);have W:PH (b+1=(dc M (d+1)).2):=ae (by rw[H.o]);have A:(b:Int)+1=(((dc M (d+1)).2:Nat):Int):=(by rw[<-W.o];omega);have ad:=ae A;clear A s H;go_wp2_with fail;go_roundw
       case rel=>exact⟨d+1,by omega,by go_num,by rw[<-ad.o],P,F,G⟩
       case measure=>simp[intOf];omega
  ·obtain rfl:d=cols:=by omega
   go_wp2_with fail;go_ret;exact⟨rfl,k.o,R.o⟩
theorem Pt{n:Nat}{M:List PI}(b:Wf n M):wid M<=n:=by
 by_cases a:M=[]
 ·subst a;exact bu _
 ·rw[lY b a];exact aj _
theorem DJ(p:PK)(n m c:Nat)(M:List PI)(a:PK)(w:World)(r:Fp w p)(h:RdM w w.heap.size a m M)(f:Wf n M)(B:n<=64)(g:m<=1000000):
 Calls prog 318 #[.pointer p,slice a m c] w λd b=>∃v,d=returned v/\MOwn b w.heap.size v (dS M)/\Below w.heap.size w b:=by
 have j:=ae (yw n m M _ a c w h f B g);have q:=ae (Eo M _ a m c w h (aj _) (λb e=>by have:=(f b e).1;omega) g);have k:=ae f;have s:=ae r;have C:=ae h.len;clear h f r;go_enter func318,ntmps318;go_wp2_with fail;refine j.o.mono ?_;rintro d t ⟨rfl,rfl⟩;go_wp2_with fail;refine q.o.mono ?_;rintro d t ⟨l,i,rfl,e,b⟩;have u:=ae e;have o:=ae b;have x:=ae (s.o.below b (aj _));clear e b j q;go_wp2_with fail;refine(z8 p t x.o).mono ?_;rintro d y ⟨D,rfl,z,b⟩;have j:=ae (u.o.new b);have q:=ae (o.o.trans (b.mono o.o.size));have E:=ae z;clear z b u o x s;go_wp2_with fail;refine(xc M _ (some ⟨l,0,none⟩) m i y j.o.rdM g).mono ?_;rintro d o ⟨rfl,rfl⟩;obtain⟨G,s⟩:=iV k.o (wid M);have u:=s.le;rw[jE,C.o] at u;have F:=j.o.caps;have x:=ae (vM D n m (wid M) i w.heap.size M (some ⟨l,0,none⟩) y E.o j.o k.o (Pt k.o) q.o.size g (by omega));have z:(dc M (wid M)).1.take (dc M (wid M)).2=dS M:=rfl;have A:=ae z;have H:(dc M (wid M)).2<=i:=by omega
 clear s z F;generalize (dc M (wid M)).1=I at*;generalize (dc M (wid M)).2=s at*;go_wp2_with fail;refine x.o.mono ?_;rintro d o ⟨rfl,e,b⟩;have z:PH (MOwn o w.heap.size (slice (some ⟨l,0,none⟩) s i) (dS M)):=ae (by rw[<-A.o];exact e.take u);have F:=ae (q.o.trans b);clear e b j q x A;go_wp2_with fail;go_ret
 trace_state
 exact⟨_,rfl,z.o,F.o⟩
theorem KW(p:PK)(n m c:Nat)(M:List PI)(a:PK)(w:World)(b:Fp w p)(h:RdM w w.heap.size a m M)(d:Wf n M)(f:n<=64)(g:m<=1000000):
 Calls prog 290 #[.pointer p,slice a m c] w λe i=>e=returned (int i64 ((dS M).length:Nat))/\Below w.heap.size w i:=by
 have i:=ae (DJ p n m c M a w b h d f g);clear b h d;go_enter func290,ntmps290;go_wp2_with fail;refine i.o.mono ?_;rintro e l ⟨o,rfl,j,k⟩;obtain⟨q,r,rfl⟩:=j.val;go_wp2_with fail;go_ret;exact⟨rfl,k⟩
theorem KI{w:World}{B:Nat}{a:PK}{b d:Nat}{xs:PI}(e:Rd w B a b (bF xs))(o:b<=d){lo n:Nat}(p:lo+n<=b):
 Rd w B (if d=lo then a else Option.map (λc=>c.add lo) a) n (bF ((xs.drop lo).take n)):=by
 have g:=e.len;rw[bG] at g;refine⟨by rw[bG,aG,length_drop];omega,λq=> ?_⟩;obtain⟨h,i,rfl,j,l⟩:=e.atB (k:=lo) (by omega);rw[bh (by omega)];refine⟨h,i+lo,by simp[Addr.add_lit],j,λf r c=> ?_⟩
 have m:f<n:=by
  have:=(List.getElem?_eq_some_iff.1 c).1;rw[bG,aG,length_drop] at this;omega
 have:=l (lo+f) (by omega);rw[<-Nat.add_assoc] at this;rw[this];rw[dQ (by rw[aG,length_drop];omega)] at c;rw[<-c];simp only[af,List.getElem?_take,bg m,List.getElem?_drop]
theorem pz{P:Program}{w:World}{ops:Array Oper}{o:Oper}{a:Act}{K:Act->World->Prop}{Q:Exit->Act->World->Prop}{E:Prop}(F:o.guard=none)(s x:Operand)(t:TypeId)
 (r:o.op=.call { callee:=.builtin .append,args:=#[s,x],argTypes:=#[t,t] })
 (i:Nat)(e:TypeId)(z:Value)(l:Nat)(y:P.underlying t=some (.slice e))(G:(P.info? e).map (λd=>(d.zero,d.size,d.bytes))=some (some z,1,l))(H:z.cells.size=1)
 (v:Value)(n:Nat)(xs:List Value)(hs:a.eval s=v)(p:w.ownsRow i e 1 v n xs)
 (B:Nat)(b:PK)(m c:Nat)(f:List Value)(A:a.eval x=slice b m c)(I:b=none->c=0)(j:Rd w B b m f)(J:∀u∈f,u.oneCell'=true)
 (L:(n+m)*l<=140737488355328)(M:n+m<=maxLen)(N:i<=w.heap.size)
 (g:∀h w',w'.ownsRow i e 1 h (n+m) (xs++f)->w.grownBy w' v.ownBlock->(h.ownBlock=v.ownBlock\/h.ownBlock=some w.heap.size)->K (a.put o.dst h) w'):
 if Region.wanted o (yielded ops a.tmps)=true then Oper.wp P o a w K Q else E:=by
 obtain⟨d,C,O,R,S⟩:=info_parts G;have T:Region.wanted o (yielded ops a.tmps)=true:=by simp[Region.wanted,F]
 rw[bg T];cases b with
 | none=>
   obtain rfl:=I rfl
   have k:m=0:=by
    rcases Nat.eq_zero_or_pos m with g | g
    ·exact g
    ·obtain⟨_,_,e,_⟩:=j.2 g;simp at e
   subst k;have D:f=[]:=eq_nil_of_length_eq_zero j.1;subst D;have q:=run_append_owned_none (P:=P) (w:=w) i t o.type e d 1 y C v n xs p;unfold Oper.wp;simp[execOp,r,resolve,invoke,builtin,hs,A,q,Result.andThen];exact g v w (by simpa using p) ⟨rfl,rfl,rfl,aj _,λ_ _ _=>rfl⟩ (.inl rfl)
 | some b=>
   have U:∀k u,f[k]? =some u->w.cell? (b.add k)=some u:=by
    intro k u D
    have Z:k<m:=by
     have:=(List.getElem?_eq_some_iff.1 D).1;rw[j.1] at this;exact this
    obtain⟨aa,ab,e,_,V⟩:=j.2 (by omega);obtain rfl:=Option.some.inj e;rw[Addr.add_lit];exact V k u D
   obtain⟨h,w',q,W,X,_,Y⟩:=run_append_own_at (P:=P) w i t o.type e d z 1 l y C O R S H (by decide) v n xs p b m c f (by rw[j.1];omega) U J M L N;unfold Oper.wp execOp;simp only[r,resolve,invoke,builtin,Sem.run_bind,Sem.run_pure,Result.andThen_ok,map_toArray,map_cons,map_nil,hs,A,q];exact g h w' W X Y
theorem RdM.drop{w:World}{B:Nat}{a:PK}{n c:Nat}{M:List PI}(g:RdM w B a n M)(r:n<=c){k:Nat}(s:k<=n):RdM w B (if c=k then a else Option.map (λb=>b.add k) a) (n-k) (M.drop k):=by
 obtain⟨t,h,b,i⟩:=g;refine⟨by rw[length_drop];omega,h.drop k,⟨by rw[length_drop,b.1],λu=> ?_⟩,λd j e=> ?_⟩
 ·obtain⟨l,m,rfl,o,p⟩:=b.2 (by omega)
  rw[bh (by omega)];refine⟨l,m+k,by simp[Addr.add_lit],o,λd q f=> ?_⟩;rw[List.getElem?_drop] at f;have:=p (k+d) q f;rw[<-Nat.add_assoc] at this;exact this
 ·rw[List.getElem?_drop] at e
  obtain⟨f,l,m,o⟩:=i _ j e;exact⟨f,l,by rw[List.getElem?_drop];exact m,o⟩
theorem nil_drop{a:PK}{c k:Nat}(d:a=none->c=0):(if c=k then a else Option.map (λb=>b.add k) a)=none->c-k=0:=by
 intro b;split at b
 ·omega
 ·cases a with
  | none=>have:=d rfl;omega
  | some a=>simp at b
theorem Nu{w:World}{B:Nat}{a:PK}{b c:Nat}{xs:PI}(d:Rd w B a b (bF xs))(e:b<=c){n:Nat}(g:n<=b):
 Rd w B (if c=n then a else Option.map (λf=>f.add n) a) (b-n) (bF (xs.drop n)):=by
 have f:=d.len;rw[bG] at f;have:=KI d e (lo:=n) (n:=b-n) (by omega)
 rwa [aJ (by rw[length_drop];omega)] at this
theorem KS{a:PK}{b n:Nat}(d:a=none->b=0)(e:1<=n)(f:n<=b):(if b=n then a else Option.map (λc=>c.add n) a)=none->b-n=0:=by
 intro c;split at c
 ·omega
 ·cases a with
  | none=>have:=d rfl;omega
  | some a=>simp at c
theorem Du{n:Nat}{b B:List PI}(d:Wf n b)(e:Wf n B):Wf n (b++B):=λc a=>by
 rcases bz.1 a with a | a
 ·exact d c a
 ·exact e c a
