import Derived.Test.YtgccllbnfngpcaaGreatDoorRows
import Derived.WalkKit
import Derived.WalkSpells
import Derived.WalkLawsBesides
import Derived.BigQuiet
import Derived.Deep.QuietTactic
import Derived.Lib.Hide
import Derived.Deep.AppendLies
import Derived.OpenShut
import Derived.Deep.RegionHeld3
import Derived.ScopeJumps
import Derived.WalkMore
import Derived.Deep.LoopGhost
import Derived.Laws.ResultCell
import Derived.Deep.MidRow
import Derived.Deep.RegionWith
set_option linter.unusedVariables false
set_option maxRecDepth 100000
set_option maxHeartbeats 400000000
namespace Go.Proofs.YtgccllbnfngpcaaGreatDoor
open Go.RowKit _root_.Go.Proofs.Tryz List
open Value (int slice pointer bool)
open IntKind (i64)
open Ending (returned)
open Obj (cells)
def PH(p:Prop):Prop:=p
theorem PH.o{p:Prop}(a:PH p):p:=a
theorem ae{p:Prop}(a:p):PH p:=a
theorem af{α:Type _}{l:List α}{i:Nat}{a:α}:l.getD i a=l[i]?.getD a:=List.getD_eq_getElem?_getD
theorem ah{α:Type _}{l:List α}{i:Nat}(a:i<l.length):l[i]? =some l[i]:=List.getElem?_eq_getElem a
theorem aj(n:Nat):n<=n:=Nat.le_refl n
theorem az(B:Nat)(w:World):Below B w w:=Below.refl B w
theorem aC{α:Type _}{β:Type _}{l:List α}(f:α->β):(List.map f l).length=l.length:=length_map f
theorem aG{α:Type _}{i:Nat}{l:List α}:(List.take i l).length=min i l.length:=length_take
theorem aH{α:Type _}{l k:List α}:(l++k).length=l.length+k.length:=length_append
theorem aI{α:Type _}{n:Nat}{a:α}:(replicate n a).length=n:=length_replicate
theorem aJ{α:Type _}{i:Nat}{l:List α}:l.length<=i->List.take i l=l:=take_of_length_le
theorem aN{α:Type _}{i:Nat}{l:List α}(a:i<l.length):List.take (i+1) l=List.take i l++[l[i]]:=take_succ_eq_append_getElem a
theorem aP{n m k:Nat}:n<=m->m<=k->n<=k:=Nat.le_trans
theorem aQ{α:Type _}{l:List α}{n:Nat}(a:n<l.length):l[n]∈l:=getElem_mem a
theorem aU{α:Type _}{β:Type _}{f:α->β}{l k:List α}:List.map f (l++k)=List.map f l++List.map f k:=map_append
theorem aW{n m k:Nat}:n<m->m<=k->n<k:=Nat.lt_of_lt_of_le
theorem aY{α:Type _}{β:Type _}{b:β}{f:α->β}{l:List α}:b∈l.map f↔∃a,a∈l/\f a=b:=mem_map
theorem aZ{n:Nat}:(range n).length=n:=length_range
theorem ba{p:Prop}[a:Decidable p](k:decide p=true):p:=of_decide_eq_true k
theorem bf{p:Prop}[a:Decidable p](k:p):decide p=true:=decide_eq_true k
theorem bg{c:Prop}{a:Decidable c}(k:c){α:Sort _}{t e:α}:ite c t e=t:=if_pos k
theorem bh{c:Prop}{a:Decidable c}(k:¬c){α:Sort _}{t e:α}:ite c t e=e:=if_neg k
theorem bn{p q m n:Nat}(a:p<=m)(k:q<=n):p*q<=m*n:=Nat.mul_le_mul a k
theorem bq(a b:Nat):a<b\/a>=b:=Nat.lt_or_ge a b
theorem bu(n:Nat):0<=n:=Nat.zero_le n
theorem bz{α:Type _}{a:α}{s t:List α}:a∈s++t↔a∈s\/a∈t:=mem_append
theorem bA{m n:Nat}:m∈range n↔m<n:=mem_range
theorem bC{α:Type _}{a:α}{l:List α}(b:a∈l):∃i,∃b:i<l.length,l[i]=a:=getElem_of_mem b
theorem bD{α:Type _}{i:Nat}{a:α}{l:List α}(b:a∈l.take i):a∈l:=mem_of_mem_take b
theorem bE(w:World)(a:Addr)(u:Value)(k:Nat)(b:k≠a.block):(w.setCell a u).heap[k]? =w.heap[k]? :=Below.heap_setCell w a u k b
abbrev PI:=List Nat
abbrev PK:=Option Addr
theorem dZ(w:World)(a:Array Value)(t:TypeId)(k:Nat):(w.alloc (.cells a t)).cell? ⟨w.heap.size,k,none⟩=a[k]? :=
 cell_of_row _ _ k a t (0,0) (heap_alloc_new w _)
theorem below_drewN{B:Nat}{a w:World}(b:Below B a w)(n:Nat):Below B a (w.drewN n):=⟨b.os,b.tape,b.output,b.size,b.block⟩
theorem Ma{P:Program}(w:World){ops:Array Oper}{rest:List Oper}{o:Oper}{a:Act}{Q:Exit->Act->World->Prop}(j:o.guard=none)(s x:Operand)(t:TypeId)
 (k:o.op=.call { callee:=.builtin .append,args:=#[s,x],argTypes:=#[t,t] })
 (d:Nat)(e:TypeId)(z:Value)(h:Nat)(l:P.underlying t=some (.slice e))(m:(P.info? e).map (λb=>(b.zero,b.size,b.bytes))=some (some z,1,h))(p:z.cells.size=1)
 (v:Value)(n:Nat)(xs:List Value)(hs:a.eval s=v)(q:w.ownsRow d e 1 v n xs)
 (g:Nat)(u:Value)(r:a.eval x=slice (some ⟨g,0,none⟩) 1 1)(y:w.cell? ⟨g,0,none⟩=some u)(i:u.oneCell'=true)
 (A:(n+1)*h<=140737488355328)(B:n+1<=maxLen)(C:d<=w.heap.size)
 (D:∀c w',w'.ownsRow d e 1 c (n+1) (xs++[u])->w.grownBy w' v.ownBlock->c≠ slice none 0 0->wpList P ops Q rest (a.put o.dst c) w'):wpList P ops Q (o :: rest) a w:=by
 obtain⟨b,E,F,G,H⟩:=info_parts m;refine wpList_append_own w j s x t k d e b z 1 h l E F G H p (by decide) v n xs hs q ⟨g,0,none⟩ 1 1 [u] r rfl ?_ (by simpa using i) B A C ?_
 ·intro I J f
  match I,f with
  | 0,f=>simp at f;subst f;simpa[Addr.add] using y
 ·intro c w' i f I
  exact D c w' i f (λe=>by have:=I.1 e;simp at this)
def At(w:World)(p:Addr)(v:Value):Prop:=w.cell? p=some v/\w.frozen? p=false
theorem At.lt{w:World}{p:Addr}{v:Value}(a:At w p v):p.block<w.heap.size:=World.block_lt_of_cell? w p a.1
theorem At.far{w:World}{p q:Addr}{v:Value}(a:At w p v)(b:p.block≠q.block)(u:Value):At (w.setCell q u) p v:=
 ⟨(World.cell?_of_block (w:=w) (bE w q u p.block b)).trans a.1,(World.frozen?_of_block (w:=w) (bE w q u p.block b)).trans a.2⟩
theorem At.put{w:World}{p:Addr}{v:Value}(h:At w p v)(u:Value):At (w.setCell p u) p u:=by
 obtain⟨a,b⟩:=h;obtain⟨e,f,c⟩:=p;have d:c=none:=World.cell?_spot a;subst d;refine⟨?_,by simpa[go_sem] using b⟩;go_simp
theorem At.below{B:Nat}{w w':World}{p:Addr}{v:Value}(a:At w p v)(b:Below B w w')(c:p.block<B):At w' p v:=
 ⟨(b.cell c).trans a.1,(b.frozen c).trans a.2⟩
theorem At.new(w:World)(v:Value)(t:TypeId):At (w.alloc (cells #[v] t)) ⟨w.heap.size,0,none⟩ v:=
 ⟨dZ w #[v] t 0,by go_simp⟩
theorem kI{w:World}{a b e c n:Nat}{v:Value}{xs:List Value}(d:w.ownsRow a e c v n xs)(l:b<=a):w.ownsRow b e c v n xs:=by
 refine⟨d.1,?_⟩;rcases d.2 with f | ⟨g,h,i,j,m,k⟩
 ·exact .inl f
 ·exact .inr ⟨g,h,i,j,by omega,k⟩
theorem FQ{w w':World}{a e b n B:Nat}{v:Value}{xs:List Value}(c:w.ownsRow a e b v n xs)(d:Below B w w')(f:∀g,v.ownBlock=some g->g<B):w'.ownsRow a e b v n xs:=by
 refine⟨c.1,?_⟩;rcases c.2 with h | ⟨g,i,j,rfl,k,l,m⟩
 ·exact .inl h
 ·exact .inr ⟨g,i,j,rfl,k,(d.block g (f g rfl)).trans l,m⟩
theorem fI{w w':World}{a e b n:Nat}{v:Value}{xs:List Value}(c:w.ownsRow a e b v n xs)(d:Below w.heap.size w w'):w'.ownsRow a e b v n xs:=
 FQ c d (λf g=>(c.lt f g).2)
theorem own_ne{w:World}{g h d e i j k l:Nat}{b f:Value}{m n:List Value}(o:w.ownsRow g d i b k m)(p:w.ownsRow h e j f l n)(q:d≠e):b.ownBlock=none\/b.ownBlock≠f.ownBlock:=by
 rcases o.2 with⟨rfl,_⟩ | ⟨t,u,v,rfl,_,r,_⟩
 ·exact .inl rfl
 ·refine .inr (λc=> ?_)
  rcases p.2 with⟨rfl,_⟩ | ⟨x,y,z,rfl,_,a,_⟩
  ·simp[Value.ownBlock] at c
  ·simp[Value.ownBlock] at c
   subst c;rw[r] at a;injection a with a;injection a with _ s;exact q s
def Rd(w:World)(B:Nat)(a:PK)(n:Nat)(xs:List Value):Prop:=
 xs.length=n/\(0<n->∃b c,a=some ⟨b,c,none⟩/\b<B/\∀d e,xs[d]? =some e->w.cell? ⟨b,c+d,none⟩=some e)
theorem qY(w:World)(B:Nat)(a:PK):Rd w B a 0 []:=⟨rfl,λb=>absurd b (by omega)⟩
theorem Rd.len{w:World}{B:Nat}{a:PK}{n:Nat}{xs:List Value}(b:Rd w B a n xs):xs.length=n:=b.1
theorem Rd.keep{w w':World}{B:Nat}{a:PK}{n:Nat}{xs:List Value}(b:Rd w B a n xs)(g:∀p:Addr,p.block<B->w'.cell? p=w.cell? p):Rd w' B a n xs:=
 ⟨b.1,λf=>by
   obtain⟨c,d,h,e,i⟩:=b.2 f;exact⟨c,d,h,e,λf j k=>(g ⟨c,d+f,none⟩ e).trans (i f j k)⟩⟩
theorem Rd.below{w w':World}{B C:Nat}{a:PK}{n:Nat}{xs:List Value}(b:Rd w B a n xs)(c:Below C w w')(d:B<=C):Rd w' B a n xs:=
 b.keep λ_ e=>c.cell (by omega)
theorem Rd.more{w:World}{B C:Nat}{a:PK}{n:Nat}{xs:List Value}(b:Rd w B a n xs)(h:B<=C):Rd w C a n xs:=
 ⟨b.1,λc=>by
   obtain⟨d,e,f,i,g⟩:=b.2 c;exact⟨d,e,f,by omega,g⟩⟩
theorem zP{P:Program}(w:World){ops:Array Oper}{rest:List Oper}{o:Oper}{a:Act}{Q:Exit->Act->World->Prop}(l:o.guard=none)(s x:Operand)(t:TypeId)
 (p:o.op=.call { callee:=.builtin .append,args:=#[s,x],argTypes:=#[t,t] })
 (d:Nat)(e:TypeId)(z:Value)(g:Nat)(q:P.underlying t=some (.slice e))(r:(P.info? e).map (λb=>(b.zero,b.size,b.bytes))=some (some z,1,g))(y:z.cells.size=1)
 (v:Value)(n:Nat)(xs:List Value)(hs:a.eval s=v)(A:w.ownsRow d e 1 v n xs)
 (B:Nat)(h:Addr)(m c:Nat)(f:List Value)(C:a.eval x=slice (some h) m c)(i:Rd w B (some h) m f)(D:∀u∈f,u.oneCell'=true)
 (E:(n+m)*g<=140737488355328)(F:n+m<=maxLen)(G:d<=w.heap.size)
 (H:∀j w',w'.ownsRow d e 1 j (n+m) (xs++f)->w.grownBy w' v.ownBlock->(j=slice none 0 0↔v=slice none 0 0/\m=0)->wpList P ops Q rest (a.put o.dst j) w'):wpList P ops Q (o :: rest) a w:=by
 obtain⟨b,I,J,K,L⟩:=info_parts r;refine wpList_append_own w l s x t p d e b z 1 g q I J K L y (by decide) v n xs hs A h m c f C (by rw[i.1];omega) ?_ D F E G H;intro j u k
 have N:j<m:=by
  have:=(List.getElem?_eq_some_iff.1 k).1;rw[i.1] at this;exact this
 obtain⟨O,R,e,_,M⟩:=i.2 (by omega);obtain rfl:=Option.some.inj e;rw[Addr.add_lit];exact M j u k
theorem mV{w:World}{i e n:Nat}{v:Value}{xs:List Value}(b:w.ownsRow i e 1 v n xs):∃a c,v=slice a n c/\Rd w w.heap.size a n xs:=by
 rcases Nat.eq_zero_or_pos n with d | d
 ·subst d
  have g:xs=[]:=eq_nil_of_length_eq_zero (by simpa using b.1);subst g;rcases b.2 with⟨rfl,_⟩ | ⟨f,j,h,rfl,_⟩
  ·exact⟨_,_,rfl,qY _ _ _⟩
  ·exact⟨_,_,rfl,qY _ _ _⟩
 ·obtain⟨f,j,rfl,_,k⟩:=b.form d
  refine⟨_,_,rfl,by simpa using b.1,λ_=>⟨f,0,rfl,k,λg m h=> ?_⟩⟩
  have l:g<n*1:=by
   have:=(List.getElem?_eq_some_iff.1 h).1;rw[b.1] at this;exact this
  rw[Nat.zero_add,b.cellAt g l,h]
theorem uy{w:World}(k:IntKind)(x:Addr)(b d:Nat)(a:List Int)(o:b<=d)(p:a.length=d)
 (e:∀i,i<a.length->w.cell? (x.add i)=some (.int k (a.getD i 0))):Rd w w.heap.size (some x) b ((a.take b).map (Value.int k)):=by
 refine⟨by simp;omega,λq=> ?_⟩;have f:=e 0 (by omega);obtain⟨g,h,j⟩:=x;have l:j=none:=by simpa[Addr.add] using World.cell?_spot f
 subst l;refine⟨g,h,rfl,World.block_lt_of_cell? w ⟨g,h,none⟩ (by simpa[Addr.add] using f),λi r c=> ?_⟩
 have m:i<b:=by
  have:=(List.getElem?_eq_some_iff.1 c).1;simp at this;omega
 have:=e i (by omega);rw[Addr.add_lit] at this;rw[this];have n:i<a.length:=by omega
 simp only[List.getElem?_map,List.getElem?_take,m,if_true] at c;simp only[af];rw[ah n] at c ⊢;simpa using c
theorem uz{P:Program}{w:World}(t e:TypeId)(n:Nat)(a:Array Value)(k b:IntKind)(i:Nat)(v:Value)(c:P.underlying t=some (.array n e))(d:P.underlying e=some (.int b))(hs:(P.info? e).map (·.size)=some 1)
 (j:i<n)(f:a[i]? =some v):(Instr.index t (.agg a) (.int k (i:Int))).run P w=.ok v w:=by
 cases hq:P.info? e with
 | none=>simp[hq] at hs
 | some g=>
   have h:g.size=1:=(by simpa[hq] using hs);have l:(0:Int)<=(i:Int)/\(i:Int)<(n:Int):=(by omega);simp[Instr.index,run_underlying c,asIntOf,part,isAgg,run_underlying d,sizeOf,typeInfo,hq,h,f];intro m;omega
def Blk(w:World)(g:Nat)(t:TypeId)(a:Array Value):Prop:=w.heap[g]? =some (.cells a t (0,0))
theorem Blk.lt{w:World}{g:Nat}{t:TypeId}{a:Array Value}(b:Blk w g t a):g<w.heap.size:=(Array.getElem?_eq_some_iff.1 b).1
theorem Blk.cell{w:World}{g:Nat}{t:TypeId}{a:Array Value}(b:Blk w g t a)(i:Nat):w.cell? ⟨g,i,none⟩=a[i]? :=cell_of_row w g i a t (0,0) b
theorem Blk.frozen{w:World}{g:Nat}{t:TypeId}{a:Array Value}(b:Blk w g t a)(i:Nat):w.frozen? ⟨g,i,none⟩=false:=frozen_of_row w g i a t b
theorem Blk.new(w:World)(t:TypeId)(a:Array Value):Blk (w.alloc (.cells a t)) w.heap.size t a:=heap_alloc_new w _
theorem Blk.alloc{w:World}{g:Nat}{t:TypeId}{a:Array Value}(b:Blk w g t a)(o:Obj):Blk (w.alloc o) g t a:=(Below.heap_alloc w o g b.lt).trans b
theorem Blk.set{w:World}{g:Nat}{t:TypeId}{a:Array Value}(b:Blk w g t a)(i:Nat)(u:Value):Blk (w.setCell ⟨g,i,none⟩ u) g t (a.setIfInBounds i u):=heap_setCell_same w g i a t u b
theorem Blk.far{w:World}{g:Nat}{t:TypeId}{a:Array Value}(b:Blk w g t a){p:Addr}(c:g≠p.block)(u:Value):Blk (w.setCell p u) g t a:=(heap_setCell_other w p g u c).trans b
theorem Blk.below{w w':World}{B g:Nat}{t:TypeId}{a:Array Value}(b:Blk w g t a)(c:Below B w w')(d:g<B):Blk w' g t a:=(c.block g d).trans b
theorem Blk.grown{w w':World}{g:Nat}{t:TypeId}{a:Array Value}{r:Option Nat}(b:Blk w g t a)(c:w.grownBy w' r)(d:some g≠r):Blk w' g t a:=(c.block g b.lt d).trans b
theorem Blk.row{w:World}{g:Nat}{t:TypeId}{b:Array Value}(c:Blk w g t b)(a:Array Value):Blk (w.setRow g a) g t a:=setRow_heap w g b a t (0,0) c
theorem Blk.drew{w:World}{g:Nat}{t:TypeId}{a:Array Value}(b:Blk w g t a):Blk w.drew g t a:=b
theorem Blk.drewN{w:World}{g:Nat}{t:TypeId}{a:Array Value}(b:Blk w g t a)(n:Nat):Blk (w.drewN n) g t a:=b
theorem bW{B:Nat}{a w:World}(c:Below B a w){g:Nat}(e:B<=g)(b:Array Value):Below B a (w.setRow g b):=
 c.trans ⟨rfl,rfl,rfl,by simp,λd f=>setRow_other w g d b (by omega)⟩
theorem yc{P:Program}{Q:Exit->Act->World->Prop}{a:Act}{w:World}{h rest:Code}(l:Nat)(d:Nat->Act->World->Prop)(j:Nat)
 (m:findLabel (h.seq ((Code.label l).seq rest)) l=some (Code.skip.seq rest))
 (first:h.wp P (Exit.then (d j) (Exit.jump l (λ_ _=>False) Q)) a w)
 (k:∀n a w,d n a w->rest.wp P (Exit.jump l (λe f=>∃c,c<n/\d c e f) Q) a w):(Code.scope (h.seq ((Code.label l).seq rest))).wp P Q a w:=by
 refine wp_scope_jumps l (λa w=>∃n,d n a w) (λa w=>leastOf (λn=>d n a w)) m ?_ ?_
 ·refine wp_seq (wp_mono first ?_)
  intro g e f b;cases g with
  | normal=>
    refine wp_seq (wp_label ?_);refine wp_mono (k j e f b) ?_;intro g e f b;cases g with
    | goto l'=>exact⟨b.1,let ⟨c,_,i⟩:=b.2;⟨c,i⟩⟩
    | normal=>exact b
    | exit id=>exact b
    | ret=>exact b
    | panic ch=>exact b
    | outgrown=>exact b
  | goto l'=>exact b.2.elim
  | exit id=>exact b
  | ret=>exact b
  | panic ch=>exact b
  | outgrown=>exact b
 ·intro a w o
  refine wp_seq (wp_skip ?_);refine wp_mono (k _ a w (leastOf_spec o).1) ?_;intro g e f b;cases g with
  | goto l'=>
    obtain⟨p,c,q,i⟩:=b;exact⟨p,⟨c,i⟩,Nat.lt_of_le_of_lt ((leastOf_spec ⟨c,i⟩).2 c i) q⟩
  | normal=>exact b
  | exit id=>exact b
  | ret=>exact b
  | panic ch=>exact b
  | outgrown=>exact b
theorem Cn(x n:Int)(a:0<n):(if x.tmod n<0 then x.tmod n+n else x.tmod n)=x%n:=by
 rw[Int.tmod_eq_emod];have b:=Int.emod_nonneg x (Int.ne_of_gt a);have c:=Int.emod_lt_of_pos x a;split <;> split <;> omega
theorem eU(x n:Int)(w:World)(d: -9223372036854775808<=x/\x<=9223372036854775807)(a:0<n)(e:n<=9223372036854775807):
 Calls prog 19 #[int i64 x,int i64 n] w λb c=>b=returned (int i64 (x%n))/\w=c:=by
 have b:=ae (Cn x n a)
 have f: -n<x.tmod n/\x.tmod n<n:=by
  rw[Int.tmod_eq_emod];have g:=Int.emod_nonneg x (Int.ne_of_gt a);have i:=Int.emod_lt_of_pos x a;split <;> omega
 go_enter func19,ntmps19;go_wp2
 all_goals
  go_ret;exact⟨congrArg (λc=>Ending.returned (int i64 c)) (by have:=b.o;split at this <;> omega),rfl⟩
theorem same_i64(xs ys:List Int)(a b:PK)(n m c d:Nat)(w:World)(l:Rd w w.heap.size a n (xs.map (Value.int .i64)))(o:Rd w w.heap.size b m (ys.map (Value.int .i64)))(G:n<=maxLen)(H:m<=maxLen):
 Calls prog 50 #[slice a n c,slice b m d] w λi e=>i=returned (bool (decide (xs=ys)))/\∃j,e=w.drewN j:=by
 unfold maxLen at G H;have p:xs.length=n:=by simpa using l.1
 have q:ys.length=m:=by simpa using o.1
 by_cases r:n=m
 ·subst r
  have t:=ae p;have u:=ae q;have I:=ae l;have J:=ae o;clear p q l o;have K:((n:Int) != (n:Int))=false:=(by simp);go_enter func50,ntmps50;go_wp2_with fail;go_loopw [5,13] (λ_ g wr=>∃e:Nat,e<=n/\g=int i64 e/\(∀f,f<e->xs[f]? =ys[f]?)/\∃j,wr=w.drewN j) (λ_ g _=>n-(intOf g).toNat)
  case atStart=>exact⟨0,bu _,rfl,λf v=>absurd v (Nat.not_lt_zero _),0,rfl⟩
  case round=>
   obtain⟨e,L,rfl,g,j,rfl⟩:=hrel;have x:=ae g;clear g;by_cases y:e<n
   ·obtain⟨M,N,rfl,_,z⟩:=I.o.2 (by omega)
    obtain⟨O,P,rfl,_,s⟩:=J.o.2 (by omega);have g:e<xs.length:=(by rw[t.o];exact y);have k:e<ys.length:=(by rw[u.o];exact y);have Q:=z e (int i64 xs[e]) (by simp[g]);have R:=s e (int i64 ys[e]) (by simp[k]);have A:xs[e]? =some xs[e]:=ah g;have B:ys[e]? =some ys[e]:=ah k;generalize xs[e]=C at*;generalize ys[e]=D at*;have E:=ae A;have F:=ae B;clear g k z s A B;go_wp2_with fail
    go_quiet (fail)
    by_cases s:C=D
    ·subst s
     go_wp2_with fail;go_roundw
     case rel=>exact⟨e+1,by omega,by go_num,λf v=>by rcases bq f e with h | h;exact x.o f h;rw[show f=e by omega,E.o,F.o],by first | exact⟨_,rfl⟩ | exact⟨_,World.drewN_drewN _ _ _⟩⟩
     case measure=>simp[intOf];omega
    ·have A:(C != D)=true:=by simpa using s
     have g:decide (xs=ys)=false:=decide_eq_false (λi=>s (by have v:=E.o;rw[i,F.o] at v;exact(Option.some.inj v).symm));have k:=ae g;clear g;go_wp2_with fail;go_ret;exact⟨by rw[k.o];rfl,by first | exact⟨_,rfl⟩ | exact⟨_,World.drewN_drewN _ _ _⟩⟩
   ·have g:decide (xs=ys)=true:=bf (ext_getElem? λf=>by
     rcases bq f e with h | h
     ·exact x.o f h
     ·rw[List.getElem?_eq_none (by rw[t.o];omega),List.getElem?_eq_none (by rw[u.o];omega)])
    have k:=ae g;clear g;go_wp2_with fail;go_ret;exact⟨by rw[k.o];rfl,by first | exact⟨_,rfl⟩ | exact⟨_,World.drewN_drewN _ _ _⟩⟩
 ·have g:decide (xs=ys)=false:=decide_eq_false (λi=>r (by rw[<-p,<-q,i]))
  have k:=ae g;have K:((n:Int) != (m:Int))=true:=(by simpa using λi=>r (by omega));clear g p q l o;go_enter func50,ntmps50;go_wp2_with fail;go_ret;exact⟨by rw[k.o];rfl,0,rfl⟩
theorem Ms(xs ys:List Int)(a b:PK)(n m c d:Nat)(w:World)(l:Rd w w.heap.size a n (xs.map (Value.int .u8)))(o:Rd w w.heap.size b m (ys.map (Value.int .u8)))(G:n<=maxLen)(H:m<=maxLen):
 Calls prog 20 #[slice a n c,slice b m d] w λi e=>i=returned (bool (decide (xs=ys)))/\∃j,e=w.drewN j:=by
 unfold maxLen at G H;have p:xs.length=n:=by simpa using l.1
 have q:ys.length=m:=by simpa using o.1
 by_cases r:n=m
 ·subst r
  have t:=ae p;have u:=ae q;have I:=ae l;have J:=ae o;clear p q l o;have K:((n:Int) != (n:Int))=false:=(by simp);go_enter func20,ntmps20;go_wp2_with fail;go_loopw [5,13] (λ_ g wr=>∃e:Nat,e<=n/\g=int i64 e/\(∀f,f<e->xs[f]? =ys[f]?)/\∃j,wr=w.drewN j) (λ_ g _=>n-(intOf g).toNat)
  case atStart=>exact⟨0,bu _,rfl,λf v=>absurd v (Nat.not_lt_zero _),0,rfl⟩
  case round=>
   obtain⟨e,L,rfl,g,j,rfl⟩:=hrel;have x:=ae g;clear g;by_cases y:e<n
   ·obtain⟨M,N,rfl,_,z⟩:=I.o.2 (by omega)
    obtain⟨O,P,rfl,_,s⟩:=J.o.2 (by omega);have g:e<xs.length:=(by rw[t.o];exact y);have k:e<ys.length:=(by rw[u.o];exact y);have Q:=z e (.int .u8 xs[e]) (by simp[g]);have R:=s e (.int .u8 ys[e]) (by simp[k]);have A:xs[e]? =some xs[e]:=ah g;have B:ys[e]? =some ys[e]:=ah k;generalize xs[e]=C at*;generalize ys[e]=D at*;have E:=ae A;have F:=ae B;clear g k z s A B;go_wp2_with fail
    go_quiet (fail)
    by_cases s:C=D
    ·subst s
     go_wp2_with fail;go_roundw
     case rel=>exact⟨e+1,by omega,by go_num,λf v=>by rcases bq f e with h | h;exact x.o f h;rw[show f=e by omega,E.o,F.o],by first | exact⟨_,rfl⟩ | exact⟨_,World.drewN_drewN _ _ _⟩⟩
     case measure=>simp[intOf];omega
    ·have A:(C != D)=true:=by simpa using s
     have g:decide (xs=ys)=false:=decide_eq_false (λi=>s (by have v:=E.o;rw[i,F.o] at v;exact(Option.some.inj v).symm));have k:=ae g;clear g;go_wp2_with fail;go_ret;exact⟨by rw[k.o];rfl,by first | exact⟨_,rfl⟩ | exact⟨_,World.drewN_drewN _ _ _⟩⟩
   ·have g:decide (xs=ys)=true:=bf (ext_getElem? λf=>by
     rcases bq f e with h | h
     ·exact x.o f h
     ·rw[List.getElem?_eq_none (by rw[t.o];omega),List.getElem?_eq_none (by rw[u.o];omega)])
    have k:=ae g;clear g;go_wp2_with fail;go_ret;exact⟨by rw[k.o];rfl,by first | exact⟨_,rfl⟩ | exact⟨_,World.drewN_drewN _ _ _⟩⟩
 ·have g:decide (xs=ys)=false:=decide_eq_false (λi=>r (by rw[<-p,<-q,i]))
  have k:=ae g;have K:((n:Int) != (m:Int))=true:=(by simpa using λi=>r (by omega));clear g p q l o;go_enter func20,ntmps20;go_wp2_with fail;go_ret;exact⟨by rw[k.o];rfl,0,rfl⟩
def dD(K H S:Int):Value:=.agg #[int i64 K,int i64 H,int i64 S]
def fB(K H S:Int):Bool:=decide (1<=K/\K<=16/\1<=H/\H<=4/\1<=S/\S<=24)
theorem yG{K H S:Int}(a:1<=K/\K<=16/\1<=H/\H<=4/\1<=S/\S<=24):fB K H S=true:=bf a
theorem O0{K H S:Int}(a:¬(1<=K/\K<=16/\1<=H/\H<=4/\1<=S/\S<=24)):fB K H S=false:=decide_eq_false a
theorem Aa{a b:Bool}(c:a=b):Ending.returned (.bool a)=returned (.bool b):=by rw[c]
theorem fK(K H S:Int)(w:World):
 Calls prog 88 #[dD K H S] w λa b=>a=returned (bool (fB K H S))/\Below w.heap.size w b:=by
 have a:=(az w.heap.size w).alloc (aj _) (cells #[int i64 K,int i64 H,int i64 S] 25);have b:=ae a;clear a;unfold dD;go_enter func88,ntmps88;go_wp2_with fail
 all_goals(
  go_ret;refine⟨Aa ?_,b.o⟩
  first
  | (simp[fB];omega)
  | (simp only[fB,decide_eq_decide];omega)
  | (simp[fB] at*;omega))
def kM(K H S:Int):Int:=if fB K H S then K+H else 0
theorem mi(K H S:Int)(w:World):
 Calls prog 232 #[dD K H S] w λe a=>e=returned (int i64 (kM K H S))/\Below w.heap.size w a:=by
 have b:=(az w.heap.size w).alloc (aj _) (cells #[int i64 K,int i64 H,int i64 S] 25);have a:=Blk.new w 25 #[int i64 K,int i64 H,int i64 S];have f:(w.alloc (cells #[int i64 K,int i64 H,int i64 S] 25)).cell? ⟨w.heap.size,0,none⟩=some (int i64 K):=a.cell 0;have g:(w.alloc (cells #[int i64 K,int i64 H,int i64 S] 25)).cell? ⟨w.heap.size,1,none⟩=some (int i64 H):=a.cell 1;have d:w.heap.size<(w.alloc (cells #[int i64 K,int i64 H,int i64 S] 25)).heap.size:=by simp
 have j:=ae f;have k:=ae g;have i:=ae b;have c:=ae λw=>fK K H S w;clear b a f g;unfold dD at c ⊢;by_cases h:1<=K/\K<=16/\1<=H/\H<=4/\1<=S/\S<=24
 ·have a:=yG h
  have f:PH (kM K H S=K+H):=ae (by unfold kM;rw[bg a]);rw[a] at c;obtain⟨n,o,q,r,-⟩:=h;clear a;go_enter func232,ntmps232;go_wp2_with fail;generalize w.alloc (cells #[int i64 K,int i64 H,int i64 S] 25)=l at*;refine(c.o _).mono ?_;rintro e m ⟨rfl,b⟩;have s:=(b.cell (p:=⟨w.heap.size,0,none⟩) d).trans j.o;have t:=(b.cell (p:=⟨w.heap.size,1,none⟩) d).trans k.o;have g:=ae (i.o.trans (b.mono (Nat.le_of_lt d)));clear b;go_wp2_with fail;go_ret;exact⟨by rw[f.o];rfl,g.o⟩
 ·have a:=O0 h
  have f:PH (kM K H S=0):=ae (by unfold kM;rw[a];rfl);rw[a] at c;clear a h;go_enter func232,ntmps232;go_wp2_with fail;generalize w.alloc (cells #[int i64 K,int i64 H,int i64 S] 25)=l at*;refine(c.o _).mono ?_;rintro e m ⟨rfl,b⟩;have g:=ae (i.o.trans (b.mono (Nat.le_of_lt d)));clear b;go_wp2_with fail;go_ret;exact⟨by rw[f.o];rfl,g.o⟩
def xt(a:Nat):Nat:=if 128<=a then (2*a)%256 ^^^ 27 else 2*a
def m3(a:Nat):Nat:=a ^^^ xt a
def ex:Nat->Nat | 0=>1 | n+1=>m3 (ex n)
def Na:Nat->Nat->PI | _,0=>[] | a,n+1=>a :: Na (m3 a) n
def lg(a:Nat):Nat:=(Na 1 255).findIdx (·== a)
theorem Nb(n:Nat):∀(i:Nat) (k:Nat),k<n->(Na (ex i) n)[k]? =some (ex (i+k)):=by
 induction n with
 | zero=>intro i k a;omega
 | succ n b=>
   intro i k a
   match k with
   | 0=>simp[Na]
   | k+1=>
     simp only[Na,List.getElem?_cons_succ];have:=b (i+1) k (by omega);rw[show i+(k+1)=i+1+k by omega];exact this
def tab1:Bool:=(Na 1 255).all λa=>0<a && a<256
theorem Nc:tab1=true:=by decide +kernel
def tab2:Bool:=(range 256).all λa=>a == 0 || (lg a<255 && (Na 1 255)[lg a]? == some a)
theorem EH:tab2=true:=by decide +kernel
def tab3:Bool:=(range 255).all λa=>(match (Na 1 255)[a]? with | some b=>lg b == a | none=>false)
theorem Nf:tab3=true:=by decide +kernel
theorem Ko:ex 255=1:=by decide +kernel
theorem Dq{i:Nat}(a:i<255):(Na 1 255)[i]? =some (ex i):=by
 have:=Nb 255 0 i a
 rwa [Nat.zero_add] at this
theorem Kr{i:Nat}(b:i<255):0<ex i/\ex i<256:=by
 have a:=all_eq_true.1 Nc (ex i) (mem_of_getElem? (Dq b));simp at a;exact a
theorem xC{a:Nat}(d:0<a)(b:a<256):lg a<255:=by
 have c:=all_eq_true.1 EH a (bA.2 b);simp at c;omega
theorem EI{a:Nat}(e:0<a)(d:a<256):ex (lg a)=a:=by
 have b:=all_eq_true.1 EH a (bA.2 d);simp only[Bool.or_eq_true,beq_iff_eq,Bool.and_eq_true,decide_eq_true_eq] at b;rcases b with b | ⟨b,c⟩
 ·omega
 ·rw[Dq b] at c
  exact Option.some.inj c
theorem Kt{i:Nat}(a:i<255):lg (ex i)=i:=by
 have b:=all_eq_true.1 Nf i (bA.2 a);rw[Dq a] at b;simpa using b
theorem Pf(i n:Nat):∀j,ex i=ex j->ex (i+n)=ex (j+n):=by
 induction n with
 | zero=>intro j a;exact a
 | succ n b=>intro j a;exact congrArg m3 (b j a)
theorem vu(n:Nat):ex n=ex (n%255):=by
 induction n using Nat.strongRecOn with
 | _ n ih=>
   rcases bq n 255 with a | a
   ·rw[Nat.mod_eq_of_lt a]
   ·have b:ex (255+(n-255))=ex (0+(n-255)):=Pf 255 (n-255) 0 Ko
    rw[show 255+(n-255)=n by omega,Nat.zero_add] at b;rw[b,ih (n-255) (by omega)];exact congrArg ex (by omega)
theorem sj(n:Nat):0<ex n/\ex n<256:=by rw[vu];exact Kr (Nat.mod_lt _ (by decide))
def fm(a b:Nat):Nat:=if a=0\/b=0 then 0 else ex ((lg a+lg b)%255)
def fi(a:Nat):Nat:=if a=0 then 0 else ex ((255-lg a)%255)
theorem iC(a b:Nat):fm a b<256:=by unfold fm;split;decide;exact(sj _).2
theorem Ku(a:Nat):fi a<256:=by unfold fi;split;decide;exact(sj _).2
theorem dE(b:Nat):fm 0 b=0:=by simp[fm]
theorem bM(a:Nat):fm a 0=0:=by simp[fm]
theorem jp(a b:Nat):fm a b=fm b a:=by
 unfold fm;by_cases c:a=0 <;> by_cases d:b=0 <;> simp[c,d,Nat.add_comm]
theorem vv(i j:Nat):fm (ex i) (ex j)=ex (i+j):=by
 have c:=sj i;have d:=sj j;unfold fm;rw[bh (by omega)];have a:lg (ex i)=i%255:=by rw[vu i];exact Kt (Nat.mod_lt _ (by decide))
 have b:lg (ex j)=j%255:=by rw[vu j];exact Kt (Nat.mod_lt _ (by decide))
 rw[a,b,vu (i+j),Nat.add_mod i j 255]
theorem AL{a:Nat}(c:a≠0)(b:a<256):∃i,i<255/\a=ex i:=⟨lg a,xC (by omega) b,(EI (by omega) b).symm⟩
theorem o6(a:Nat)(c:a<256):fm a 1=a:=by
 by_cases b:a=0
 ·subst b;exact dE 1
 ·obtain⟨d,_,rfl⟩:=AL b c
  exact vv d 0
theorem kX(a b c:Nat)(g:a<256)(h:b<256)(i:c<256):fm (fm a b) c=fm a (fm b c):=by
 by_cases d:a=0
 ·subst d;simp[dE]
 by_cases e:b=0
 ·subst e;simp[dE,bM]
 by_cases f:c=0
 ·subst f;simp[bM]
 obtain⟨j,_,rfl⟩:=AL d g;obtain⟨k,_,rfl⟩:=AL e h;obtain⟨l,_,rfl⟩:=AL f i;rw[vv,vv,vv,vv,Nat.add_assoc]
theorem Dr{a b:Nat}:fm a b=0↔a=0\/b=0:=by
 unfold fm;by_cases c:a=0\/b=0
 ·simp[c]
 ·rw[bh c]
  have:=(sj ((lg a+lg b)%255)).1;constructor
  ·intro d;omega
  ·intro d;exact absurd d c
theorem Kv{a:Nat}(c:a≠0)(b:a<256):fm a (fi a)=1:=by
 have e:=xC (by omega) b;have d:fi a=ex (255-lg a):=by unfold fi;rw[bh c,<-vu]
 rw[d]
 conv=>lhs;arg 1;rw[<-EI (by omega) b]
 rw[vv,show lg a+(255-lg a)=255 by omega,Ko]
theorem Og{a:Nat}(b:a<256):xt a<256:=by
 unfold xt;split
 ·exact Nat.xor_lt_two_pow (n:=8) (Nat.mod_lt _ (by decide)) (by decide)
 ·omega
def yU:Nat->Nat->Nat | 0,a=>a | n+1,a=>yU n (m3 a)
theorem Ng(n:Nat):∀i,yU n (ex i)=ex (i+n):=by
 induction n with
 | zero=>intro i;rfl
 | succ n a=>
   intro i;have:=a (i+1);rw[show i+(n+1)=i+1+n by omega,<-this];rfl
theorem Nh:m3 0=0:=rfl
theorem GQ(n:Nat):yU n 0=0:=by
 induction n with
 | zero=>rfl
 | succ n a=>simpa[yU,Nh] using a
theorem vw{a b:Nat}(f:a≠0)(d:a<256)(e:b<256):fm a b=yU (lg a) b:=by
 by_cases c:b=0
 ·subst c;rw[GQ,bM]
 ·obtain⟨g,_,rfl⟩:=AL c e
  rw[Ng]
  conv=>lhs;arg 1;rw[<-EI (by omega) d]
  rw[vv,Nat.add_comm]
theorem GR{a:Nat}(b:a<256):a.testBit 7=decide (128<=a):=by
 rw[Nat.testBit_eq_decide_div_mod_eq];congr 1;simp only[eq_iff_iff];omega
theorem Kw{a:Nat}(c:a<256):xt a=(2*a)%256 ^^^ (if a.testBit 7 then 27 else 0):=by
 unfold xt;rw[GR c];by_cases b:128<=a
 ·simp[b]
 ·simp only[b,if_false,decide_false,Bool.false_eq_true,Nat.xor_zero]
  omega
theorem Ni(a b:Nat):(2*(a ^^^ b))%256=(2*a)%256 ^^^ (2*b)%256:=by
 apply Nat.eq_of_testBit_eq;intro e;have f:(256:Nat)=2 ^ 8:=rfl;have c:∀d:Nat,2*d=d*2 ^ 1:=λd=>by omega
 rw[Nat.testBit_xor,f,Nat.testBit_mod_two_pow,Nat.testBit_mod_two_pow,Nat.testBit_mod_two_pow,c,c,c,Nat.testBit_mul_two_pow,Nat.testBit_mul_two_pow,Nat.testBit_mul_two_pow];by_cases d:e<8 <;> by_cases g:1<=e <;> simp[d,g,Nat.testBit_xor]
theorem Pg{a b:Nat}(d:a<256)(e:b<256):xt (a ^^^ b)=xt a ^^^ xt b:=by
 rw[Kw d,Kw e,Kw (Nat.xor_lt_two_pow (n:=8) d e),Ni,Nat.testBit_xor];generalize (2*a)%256=f;generalize (2*b)%256=c;cases a.testBit 7 <;> cases b.testBit 7
 ·simp
 ·simp[Nat.xor_assoc]
 ·simp only[Bool.true_bne,Bool.not_false,if_true,Bool.false_eq_true,if_false,Nat.xor_zero]
  rw[Nat.xor_assoc,Nat.xor_assoc,Nat.xor_comm c 27]
 ·simp only[bne_self_eq_false,Bool.false_eq_true,if_false,if_true,Nat.xor_zero]
  rw[Nat.xor_assoc,<-Nat.xor_assoc 27 c 27,Nat.xor_comm 27 c,Nat.xor_assoc c 27 27,Nat.xor_self,Nat.xor_zero]
theorem Oh{a:Nat}(b:a<256):m3 a<256:=Nat.xor_lt_two_pow (n:=8) b (Og b)
theorem xor4(a b x y:Nat):(a ^^^ b) ^^^ (x ^^^ y)=(a ^^^ x) ^^^ (b ^^^ y):=by
 rw[Nat.xor_assoc,<-Nat.xor_assoc b x y,Nat.xor_comm b x,Nat.xor_assoc x b y,<-Nat.xor_assoc]
theorem Ph{a b:Nat}(c:a<256)(d:b<256):m3 (a ^^^ b)=m3 a ^^^ m3 b:=by
 unfold m3;rw[Pg c d,xor4]
theorem Ky(n:Nat):∀ {a b:Nat},a<256->b<256->yU n (a ^^^ b)=yU n a ^^^ yU n b:=by
 induction n with
 | zero=>intro a b _ _;rfl
 | succ n e=>
   intro a b c d;simp only[yU,Ph c d];exact e (Oh c) (Oh d)
theorem rF{a b:Nat}(c:a<256)(d:b<256):a ^^^ b<256:=Nat.xor_lt_two_pow (n:=8) c d
theorem rG{a b c:Nat}(e:a<256)(f:b<256)(g:c<256):fm a (b ^^^ c)=fm a b ^^^ fm a c:=by
 by_cases d:a=0
 ·subst d;simp[dE]
 ·rw[vw d e (rF f g),vw d e f,vw d e g,Ky _ f g]
theorem mG{a b c:Nat}(d:a<256)(e:b<256)(f:c<256):fm (a ^^^ b) c=fm a c ^^^ fm b c:=by
 rw[jp,rG f d e,jp c a,jp c b]
def Pi:Nat->Nat->Nat->Nat->Nat
 | 0,out,_,_=>out
 | f+1,out,a,b=>if b=0 then out else Pi f (if b%2=1 then out ^^^ a else out) (xt a) (b/2)
theorem qH{a b:Nat}(c:a ^^^ b=0):a=b:=by
 have:(a ^^^ b) ^^^ b=0 ^^^ b:=by rw[c]
 rwa [Nat.xor_assoc,Nat.xor_self,Nat.xor_zero,Nat.zero_xor] at this
theorem Oy(x:Nat)(a:x<256):bits .and .u8 (x:Int) 128=if 128<=x then 128 else 0:=by
 have b:=u8_and_nat x 128 a (by omega);have c:∀x,x<256->x &&& 128=if 128<=x then 128 else 0:=by decide +kernel
 rw[c x a] at b;split <;> simp_all
theorem and1(x:Nat)(b:x<256):bits .and .u8 (x:Int) 1=((x%2:Nat):Int):=by
 have a:=u8_and_nat x 1 b (by omega);rw[Nat.and_one_is_mod] at a;exact a
theorem uq{a b:Nat}(c:a=b):Ending.returned (.int .u8 (a:Int))=returned (.int .u8 (b:Int)):=by rw[c]
theorem I2(a:Nat)(T:a<256)(w:World):
 Calls prog 339 #[.int .u8 a,.int .u8 3] w λb n=>b=returned (.int .u8 (m3 a:Nat))/\w=n:=by
 go_enter func339,ntmps339;go_wp2
 refine yc 0 (λm y n=>∃(b c d:Nat) (z A u8 B C D E F G H I J K L M N O P Q R:Value),(c<m/\c<256/\b<256/\d<256/\Pi m d b c=m3 a/\w=n)/\
  y= { tmps:=#[.int .u8 b,.int .u8 c,undef,undef,.int .u8 0,.int .u8 d,z,A,u8,B,C,D,E,F,G,H,I,J,K,L,M,N,O,P,Q,R],defers:=[] }) 4 rfl ?_ ?_
 ·have e:Pi 4 0 a 3=m3 a:=by simp[Pi,m3]
  have f:=ae e;clear e;go_wp2;exact⟨a,3,0,_,_,_,_,_,_,_,_,_,_,_,_,_,_,_,_,_,_,_,_,⟨by omega,by omega,T,by omega,f.o,by first | rfl | trivial⟩,rfl⟩
 ·rintro m y n ⟨b,c,d,z,A,u8,B,C,D,E,F,G,H,I,J,K,L,M,N,O,P,Q,R,⟨U,V,o,p,q,rfl⟩,rfl⟩
  obtain⟨i,rfl⟩:∃i,m=i+1:=⟨m-1,by omega⟩;by_cases u:c=0
  ·subst u
   have e:d=m3 a:=(by simpa[Pi] using q);have f:=ae e;clear q e;go_wp2;simp only[Exit.jump];go_ret;exact⟨uq f.o,rfl⟩
  ·have W:((c:Int) == 0)=false:=by simpa using u
   have e:Pi i (if c%2=1 then d ^^^ b else d) (xt b) (c/2)=m3 a:=by
    have:=q;rw[Pi,bh u] at this;exact this
   have f:=ae e;clear q e;have r:=and1 c (by omega);have s:=Oy b o;have X:=u8_xor_nat d b p o;have S:=rF p o;have t:=Og o;by_cases l:c%2=1 <;> by_cases g:128<=b
   ·have j:=u8_xor_nat (2*b%256) 27 (Nat.mod_lt _ (by omega)) (by omega)
    have e:2*b%256 ^^^ 27=xt b:=(by unfold xt;rw[bg g]);rw[bg g] at s;rw[show((2*b%256:Nat):Int)=(b:Int)*2%256 by omega,e] at j;have v:bits .xor .u8 ((b:Int)*2%256) 27=((xt b:Nat):Int):=j;clear e j;rw[l] at r;rw[bg l] at f;generalize xt b=k at*;generalize d ^^^ b=x at*;go_wp2;go_step3;exact⟨rfl,i,by omega,k,c/2,x,_,_,_,_,_,_,_,_,_,_,_,_,_,_,_,_,_,_,_,_,⟨by omega,by omega,t,S,f.o,rfl⟩,rfl⟩
   ·have e:2*b=xt b:=by unfold xt;rw[bh g]
    rw[bh g] at s;have v:(b:Int)*2=((xt b:Nat):Int):=(by rw[<-e];omega);clear e;rw[l] at r;rw[bg l] at f;generalize xt b=k at*;generalize d ^^^ b=x at*;go_wp2;go_step3;exact⟨rfl,i,by omega,k,c/2,x,_,_,_,_,_,_,_,_,_,_,_,_,_,_,_,_,_,_,_,_,⟨by omega,by omega,t,S,f.o,rfl⟩,rfl⟩
   ·have j:=u8_xor_nat (2*b%256) 27 (Nat.mod_lt _ (by omega)) (by omega)
    have e:2*b%256 ^^^ 27=xt b:=(by unfold xt;rw[bg g]);rw[bg g] at s;rw[show((2*b%256:Nat):Int)=(b:Int)*2%256 by omega,e] at j;have v:bits .xor .u8 ((b:Int)*2%256) 27=((xt b:Nat):Int):=j;clear e j;have x:c%2=0:=(by omega);rw[x] at r;rw[bh l] at f;generalize xt b=k at*;go_wp2;go_step3;exact⟨rfl,i,by omega,k,c/2,d,_,_,_,_,_,_,_,_,_,_,_,_,_,_,_,_,_,_,_,_,⟨by omega,by omega,t,p,f.o,rfl⟩,rfl⟩
   ·have e:2*b=xt b:=by unfold xt;rw[bh g]
    rw[bh g] at s;have v:(b:Int)*2=((xt b:Nat):Int):=(by rw[<-e];omega);clear e;have x:c%2=0:=(by omega);rw[x] at r;rw[bh l] at f;generalize xt b=k at*;go_wp2;go_step3;exact⟨rfl,i,by omega,k,c/2,d,_,_,_,_,_,_,_,_,_,_,_,_,_,_,_,_,_,_,_,_,⟨by omega,by omega,t,p,f.o,rfl⟩,rfl⟩
def dG(k:Nat):Array Value:=((range 255).map λa=>Value.int .u8 ((if a<k then ex a else 0:Nat):Int)).toArray
theorem fO(k:Nat):(dG k).size=255:=by simp[dG]
theorem BS:dG 0=zeroCells332:=by kernel_rfl
theorem kH(k i:Nat)(a:i<255):(dG k)[i]? =some (Value.int .u8 ((if i<k then ex i else 0:Nat):Int)):=by
 simp[dG,a]
theorem FC(k:Nat)(d:k<255):(dG k).setIfInBounds k (.int .u8 (ex k))=dG (k+1):=by
 apply Array.ext_getElem?;intro a;rw[Array.getElem?_setIfInBounds];by_cases b:a<255
 ·rw[kH _ _ b,kH _ _ b]
  by_cases c:k=a
  ·subst c
   simp[fO,d]
  ·have:(a<k+1)=(a<k):=by simp only[eq_iff_iff];omega
   simp[c,this]
 ·rw[bh (by omega),Array.getElem?_eq_none (by rw[fO];omega),Array.getElem?_eq_none (by rw[fO];omega)]
theorem FD(w:World):
 Calls prog 275 #[] w λc a=>c=returned (.agg (dG 255))/\Below w.heap.size w a:=by
 go_enter func275,ntmps275;go_wp2_with fail;rw[<-BS];have a:=Blk.new w 332 (dG 0);have f:Below w.heap.size w (w.alloc (cells (dG 0) 332)):=(az _ _).alloc (aj _) _;generalize w.alloc (cells (dG 0) 332)=k at*;have g:=ae a;clear a;go_loopw [1,3] (λd b wr=>∃a:Nat,a<=255/\b=int i64 a/\d=.int .u8 (ex a:Nat)/\PH (Blk wr w.heap.size 332 (dG a))/\Below w.heap.size w wr) (λ_ b _=>255-(intOf b).toNat)
 case atStart=>exact⟨0,by omega,rfl,rfl,g,f⟩
 case round=>
  obtain⟨a,l,rfl,rfl,b,d⟩:=hrel;by_cases e:a<255
  ·have m:=(b.o.cell a).trans (kH a a e)
   have n:=b.o.frozen a;have i:=ae (FC a e);have j:=(sj a).2;go_wp2_with fail;refine(I2 (ex a) j _).mono ?_;rintro c o ⟨rfl,rfl⟩;go_wp2_with fail;go_roundw
   case rel=>exact⟨a+1,by omega,by go_num,rfl,by have:=b.o.set a (.int .u8 (ex a:Nat));rw[i.o] at this;exact this,d.setCell (by simp) _⟩
   case measure=>simp[intOf];omega
  ·obtain rfl:a=255:=by omega
   go_wp2_with (first
    | (refine wpList_load_row rfl 332 _ rfl w.heap.size rfl 332 (dG 255) (0,0) _ b.o underlying332 rfl (by kernel_rfl) ?_)
    | (refine wpList_store_row rfl 332 _ _ rfl w.heap.size (dG 255) rfl rfl 332 (dG 255) b.o (by kernel_rfl) rfl (by kernel_rfl) ?_))
   exact bodyPost_ret (results_cell_row rfl _ _ w.heap.size 332 (dG 255) (0,0) _ rfl (b.o.row _) underlying332 rfl (by kernel_rfl)) rfl ⟨rfl,bW d (aj _) _⟩
def gK(k:Nat):Array Value:=((range 256).map λa=>Value.int .i64 ((if a≠0/\lg a<k then lg a else 0:Nat):Int)).toArray
theorem oK(k:Nat):(gK k).size=256:=by simp[gK]
theorem BU:gK 0=zeroCells334:=by kernel_rfl
theorem mQ(k i:Nat)(a:i<256):(gK k)[i]? =some (Value.int .i64 ((if i≠0/\lg i<k then lg i else 0:Nat):Int)):=by
 simp[gK,a]
theorem FE(k:Nat)(e:k<255):(gK k).setIfInBounds (ex k) (int i64 k)=gK (k+1):=by
 have i:=Kr e;have g:=Kt e;apply Array.ext_getElem?;intro a;rw[Array.getElem?_setIfInBounds];by_cases b:a<256
 ·rw[mQ _ _ b,mQ _ _ b]
  by_cases c:ex k=a
  ·subst c
   rw[bg rfl,bg (by rw[oK];exact b),bg ⟨by omega,by omega⟩,g]
  ·rw[bh c]
   have:(a≠0/\lg a<k+1)=(a≠0/\lg a<k):=by
    simp only[eq_iff_iff];constructor
    ·rintro⟨d,h⟩
     refine⟨d,?_⟩;rcases bq (lg a) k with f | f
     ·exact f
     ·have:lg a=k:=by omega
      exact absurd (by rw[<-this];exact EI (by omega) b) c
    ·rintro⟨d,h⟩;exact⟨d,by omega⟩
   simp only[this]
 ·rw[bh (by omega),Array.getElem?_eq_none (by rw[oK];omega),Array.getElem?_eq_none (by rw[oK];omega)]
theorem L6(w:World):
 Calls prog 276 #[.agg (dG 255)] w λa b=>a=returned (.agg (gK 255))/\Below w.heap.size w b:=by
 have b:∀(a:Nat),a<255->∀w:World,(Instr.index 332 (.agg (dG 255)) (int i64 a)).run prog w=.ok (.int .u8 (ex a:Nat)) w:=λa c w=>by
  have d:=kH 255 a c;rw[bg c] at d;exact uz 332 5 255 _ _ _ a _ underlying332 underlying5 (by kernel_rfl) c d
 have g:=ae b;clear b;go_enter func276,ntmps276
 go_wp2_with (refine wpList_load_row rfl 332 _ rfl w.heap.size rfl 332 (dG 255) (0,0) _ ?hb underlying332 rfl (by kernel_rfl) ?_)
 case hb=>exact(Blk.new w 332 (dG 255)).alloc _
 rw[<-BU];have i:Below w.heap.size w ((w.alloc (cells (dG 255) 332)).alloc (cells (gK 0) 334)):=((az _ _).alloc (aj _) _).alloc (by simp) _
 have j:PH (Blk ((w.alloc (cells (dG 255) 332)).alloc (cells (gK 0) 334)) (w.heap.size+1) 334 (gK 0)):=by
  have:=Blk.new (w.alloc (cells (dG 255) 332)) 334 (gK 0);rw[show(w.alloc (cells (dG 255) 332)).heap.size=w.heap.size+1 by simp] at this;exact this
 generalize (w.alloc (cells (dG 255) 332)).alloc (cells (gK 0) 334)=n at*;go_loopw [6] (λb wr=>∃a:Nat,a<=255/\b=int i64 a/\PH (Blk wr (w.heap.size+1) 334 (gK a))/\Below w.heap.size w wr) (λb _=>255-(intOf b).toNat)
 case atStart=>exact⟨0,by omega,rfl,j,i⟩
 case round=>
  obtain⟨a,c,rfl,b,hb⟩:=hrel;by_cases e:a<255
  ·have k:=(sj a).2
   have o:=(b.o.cell (ex a)).trans (mQ a (ex a) k);have p:=b.o.frozen (ex a);have l:=ae (FE a e);have q:=g.o a e;generalize f:ex a=m at*;have r:=ae f;clear f;go_wp2_with fail;go_roundw
   case rel=>exact⟨a+1,by omega,by go_num,by have:=b.o.set m (int i64 (a:Nat));rw[l.o] at this;exact this,hb.setCell (by simp) _⟩
   case measure=>simp[intOf];omega
  ·obtain rfl:a=255:=by omega
   go_wp2_with (first
    | (refine wpList_load_row rfl 334 _ rfl (w.heap.size+1) rfl 334 (gK 255) (0,0) _ b.o underlying334 rfl (by kernel_rfl) ?_)
    | (refine wpList_store_row rfl 334 _ _ rfl (w.heap.size+1) (gK 255) rfl rfl 334 (gK 255) b.o (by kernel_rfl) rfl (by kernel_rfl) ?_))
   exact bodyPost_ret (results_cell_row rfl _ _ (w.heap.size+1) 334 (gK 255) (0,0) _ rfl (b.o.row _) underlying334 rfl (by kernel_rfl)) rfl ⟨rfl,bW hb (by omega) _⟩
def oZ:Array Value:=dG 255++gK 255
theorem Gx:prog.built 337 [(0,.agg (dG 255)),(1,.agg (gK 255))]=some oZ:=by kernel_rfl
def Fld(w:World)(g:Nat):Prop:=Blk w g 337 oZ
theorem wz{w w':World}{B b o:Nat}{a:List Value}(d:Below B w w')(e:w.rangeAt b o a)(f:b<B):w'.rangeAt b o a:=
 λc g h=>(d.cell (p:=⟨b,o+c,none⟩) f).trans (e c g h)
theorem Ag{P:Program}{o:Oper}{a:Act}{w:World}{K:Act->World->Prop}{Q:Exit->Act->World->Prop}(t:TypeId)(b:Array (Nat×Operand))(f:o.op=.build t b)(cells:Array Value)
 (c:List (Nat×Value))(d:(b.map λ(e,g)=>(e,a.eval g)).toList=c)(e:P.built t c=some cells)(g:K (a.put o.dst (.agg cells)) w):o.wp P a w K Q:=by
 refine wp_build t b f (by rw[d,e];rfl) ?_;rw[d,e];exact g
theorem O3:∀v∈(dG 255).toList,v.oneCell'=true:=by
 intro v a;simp only[dG,aY] at a;obtain⟨b,_,rfl⟩:=a;rfl
theorem oV(w:World):
 Calls prog 216 #[] w λj b=>∃g,j=returned (pointer (some ⟨g,0,none⟩))/\w.heap.size<=g/\Fld b g/\Below w.heap.size w b:=by
 go_enter func216,ntmps216;go_wp2_with fail;refine(FD _).mono ?_;rintro j a ⟨rfl,k⟩
 go_wp2_with (refine wpList_store_row rfl 332 _ _ rfl a.heap.size (dG 255) rfl rfl 332 zeroCells332 ?hb (by kernel_rfl) (by kernel_rfl) (by kernel_rfl) ?_)
 case hb=>exact Blk.new _ _ _
 have t:(((a.alloc (Obj.cells zeroCells332 332)).setRow a.heap.size (dG 255))).rangeAt a.heap.size 0 (dG 255).toList:=by
  have:=World.rangeAt_of_block ((Blk.new a 332 zeroCells332).row (dG 255)) 0 255;simpa[fO,Array.extract_eq_self_of_le] using this
 have l:Below w.heap.size w ((a.alloc (Obj.cells zeroCells332 332)).setRow a.heap.size (dG 255)):=bW (k.alloc k.size _) k.size _;have u:a.heap.size<((a.alloc (Obj.cells zeroCells332 332)).setRow a.heap.size (dG 255)).heap.size:=by simp
 generalize ((a.alloc (Obj.cells zeroCells332 332)).setRow a.heap.size (dG 255))=x at*;generalize a.heap.size=e at*;have o:=Gx;have d:=λw=>L6 w;have f:=underlying332;have n:(dG 255).toList.length=255:=by simp[fO]
 have m:(prog.info? 332).map (·.size)=some (dG 255).toList.length:=by rw[n];kernel_rfl
 have r:=O3;have c:dG 255=(dG 255).toList.toArray:=by simp
 simp only[Act.put];rw[c] at o d;rw[c];clear c;generalize (dG 255).toList=c at*;have y:=ae d;clear d;have p:x.drew.rangeAt e 0 c:=t;refine wp_region_held_drew (S:=λb=>b.rangeAt e 0 c) (by kernel_rfl) p (λq=> ?_);refine wpAnyH_take (i:=0) (v:=.agg c.toArray) rfl (by kernel_rfl) (by kernel_rfl) (by kernel_rfl) (λ_ _ _ h=>h) (yieldsIf_load_mid (by rfl) _ _ rfl e 0 rfl c _ (λ_ h=>h) f rfl m) q ?_;simp only[Act.put,setIfInBounds_toArray];refine wpAnyH_take (i:=1) (v:=.agg c.toArray) rfl (by kernel_rfl) (by kernel_rfl) (by kernel_rfl) (λ_ _ _ h=>h) (yieldsIf_load_mid (by rfl) _ _ rfl e 0 rfl c _ (λ_ h=>h) f rfl m) q ?_;simp only[Act.put];clear f m n r;refine wpAnyH_ready (rs:=[2]) (by kernel_rfl) (by simp) ?_;refine AllReadyH.cons rfl (λd b=> ?_) AllReadyH.nil;go_simp;refine(y.o _).mono ?_;rintro j r ⟨rfl,m⟩;have f:r.rangeAt e 0 c:=wz m p (by simpa using u);refine b.out _ _ f (λn=> ?_);clear b d;refine wpAnyH_ready (rs:=[3]) (by kernel_rfl) (by simp) ?_;refine AllReadyH.cons rfl (λd b=> ?_) AllReadyH.nil;rw[bg (by rfl)];refine Ag _ _ rfl oZ [(0,.agg c.toArray),(1,.agg (gK 255))] (by simp[go_sem]) o ?_;refine b.out _ _ f (λn=> ?_);clear b d;refine wpAnyH_ready (rs:=[4]) (by kernel_rfl) (by simp) ?_;refine AllReadyH.cons rfl (λd b=> ?_) AllReadyH.nil;go_simp;refine b.out _ _ (World.rangeAt_alloc f _) (λn=> ?_);clear b d;refine wpAnyH_ready (rs:=[5]) (by kernel_rfl) (by simp) ?_;refine AllReadyH.cons rfl (λd b=> ?_) AllReadyH.nil;go_simp;refine b.out _ _ (World.rangeAt_alloc f _) (λn=> ?_);clear b d;refine wpAnyH_done (by kernel_rfl) ?_ _;go_wp2_with fail;go_ret;have s:w.heap.size<=r.heap.size:=aP l.size (by simpa using m.size);exact⟨_,rfl,s,Blk.new _ _ _,(l.drew.trans (m.mono (by simpa using l.size))).alloc s _⟩
theorem sQ{w:World}{g:Nat}(b:Fld w g){i:Nat}(a:i<255):w.cell? ⟨g,i,none⟩=some (.int .u8 (ex i:Nat)):=by
 rw[b.cell i];unfold oZ;rw[Array.getElem?_append,bg (by rw[fO];exact a),kH 255 i a,bg a]
theorem xZ{w:World}{g:Nat}(c:Fld w g){a:Nat}(d:a≠0)(b:a<256):w.cell? ⟨g,255+a,none⟩=some (int i64 (lg a:Nat)):=by
 rw[c.cell (255+a)];unfold oZ;rw[Array.getElem?_append,bh (by rw[fO];omega),fO,show 255+a-255=a by omega,mQ 255 a b,bg ⟨d,xC (by omega) b⟩]
theorem Fld.below{w w':World}{g B:Nat}(a:Fld w g)(b:Below B w w')(c:g<B):Fld w' g:=Blk.below a b c
theorem x8(g:Nat)(w:World):
 Calls prog 362 #[pointer (some ⟨g,0,none⟩)] w λa b=>a=returned (pointer (some ⟨g,0,none⟩))/\w=b:=by
 go_enter func362,ntmps362;go_wp2_with fail;go_ret;exact⟨rfl,rfl⟩
theorem OA(w:World):
 Calls prog 362 #[pointer none] w λa b=>∃g,a=returned (pointer (some ⟨g,0,none⟩))/\w.heap.size<=g/\Fld b g/\Below w.heap.size w b:=by
 go_enter func362,ntmps362;go_wp2_with fail;refine(oV _).mono ?_;rintro a e ⟨g,rfl,b,c,d⟩;go_wp2_with fail;go_ret;exact⟨g,rfl,b,c,d⟩
theorem fm_ne{a b:Nat}(c:a≠0)(d:b≠0):fm a b=ex ((lg a+lg b)%255):=by unfold fm;rw[bh (by omega)]
theorem fi_ne{a:Nat}(b:a≠0):fi a=ex ((255-lg a)%255):=by unfold fi;rw[bh b]
def Fp(w:World)(p:PK):Prop:=p=none\/∃a,p=some ⟨a,0,none⟩/\Fld w a
theorem ut(g a b:Nat)(k:a<256)(l:b<256)(w:World)(i:Fld w g):
 Calls prog 307 #[pointer (some ⟨g,0,none⟩),.int .u8 a,.int .u8 b] w λm c=>m=returned (.int .u8 (fm a b:Nat))/\∃j,c=w.drewN j:=by
 by_cases e:a=0
 ·subst e
  have c:=ae (dE b);go_enter func307,ntmps307;go_wp2_with fail;go_ret;exact⟨uq c.o.symm,0,rfl⟩
 ·have u:((a:Int) == 0)=false:=by simpa using e
  by_cases f:b=0
  ·subst f
   have c:=ae (bM a);go_enter func307,ntmps307;go_wp2_with fail;go_ret;exact⟨uq c.o.symm,0,rfl⟩
  ·have v:((b:Int) == 0)=false:=by simpa using f
   have n:=ae (fm_ne e f);have x:=xZ i e k;have y:=xZ i f l;have z:=xC (by omega) k;have A:=xC (by omega) l;have B:=sQ i (Nat.mod_lt (lg a+lg b) (by omega:255>0));generalize lg a=c at*;generalize lg b=d at*;have o:IntKind.i64.wrap ((c:Int)+d)=c+d:=(by rw[IntKind.wrap_i64];omega);have p:((c:Int)+d).tmod 255=(c+d)%255:=(by rw[Int.tmod_eq_emod_of_nonneg (by omega)]);have q:(((c:Int)+d)%255).toNat=(c+d)%255:=(by omega);have r:(0:Int)<=((c:Int)+d)%255:=(by omega);have s:((c:Int)+d)%255<255:=(by omega);have t:IntKind.i64.wrap (((c:Int)+d)%255)=((c:Int)+d)%255:=(by rw[IntKind.wrap_i64];omega);go_enter func307,ntmps307;go_wp2_with fail;refine(x8 g _).mono ?_;rintro m C ⟨rfl,rfl⟩;go_wp2_with fail
   go_quiet (fail)
   clear o p q r s t;go_wp2_with fail;go_ret;exact⟨uq n.o.symm,by first | exact⟨_,rfl⟩ | exact⟨_,World.drewN_drewN _ _ _⟩⟩
theorem OB(g a:Nat)(d:a<256)(w:World)(e:Fld w g):
 Calls prog 335 #[pointer (some ⟨g,0,none⟩),.int .u8 a] w λf b=>f=returned (.int .u8 (fi a:Nat))/\∃j,b=w.drewN j:=by
 by_cases c:a=0
 ·subst c
  go_enter func335,ntmps335;go_wp2_with fail;go_ret;exact⟨rfl,0,rfl⟩
 ·have o:((a:Int) == 0)=false:=by simpa using c
  have k:=ae (fi_ne c);have p:=xC (by omega) d;go_enter func335,ntmps335;go_wp2_with fail;refine(x8 g _).mono ?_;rintro f q ⟨rfl,rfl⟩;have r:=xZ e c d;have s:=sQ e (Nat.mod_lt (255-lg a) (by omega:255>0));generalize lg a=b at*;have t:(255-b)%255<255:=Nat.mod_lt _ (by omega);have l:(255-(b:Int)).tmod 255=((255-b)%255:Nat):=(by rw[Int.tmod_eq_emod_of_nonneg (by omega)];omega);generalize (255-b)%255=i at*;have m:IntKind.i64.wrap (255-(b:Int))=255-b:=(by rw[IntKind.wrap_i64];omega);have n:IntKind.i64.wrap (i:Int)=i:=(by rw[IntKind.wrap_i64];omega);go_wp2_with fail
  go_quiet (fail)
  clear m l n;go_wp2_with fail;go_ret;exact⟨uq k.o.symm,by first | exact⟨_,rfl⟩ | exact⟨_,World.drewN_drewN _ _ _⟩⟩
def exI(n:Int):Nat:=ex (n%255).toNat
theorem I5(n:Int):(if n.tmod 255<0 then n.tmod 255+255 else n.tmod 255)=n%255:=by
 rw[Int.tmod_eq_emod];have a:=Int.emod_nonneg n (show(255:Int)≠0 by omega);have b:=Int.emod_lt_of_pos n (show(0:Int)<255 by omega);split <;> split <;> omega
theorem OC(g:Nat)(n:Int)(r: -9223372036854775808<=n/\n<=9223372036854775807)(w:World)(i:Fld w g):
 Calls prog 316 #[pointer (some ⟨g,0,none⟩),int i64 n] w λd a=>d=returned (.int .u8 (exI n:Nat))/\∃j,a=w.drewN j:=by
 have e:=Int.emod_nonneg n (show(255:Int)≠0 by omega);have m:=Int.emod_lt_of_pos n (show(0:Int)<255 by omega);have a:=ae (I5 n);have f:exI n=ex (n%255).toNat:=rfl;obtain⟨b,c⟩:=Int.eq_ofNat_of_zero_le e;rw[c] at m a;rw[f,c,Int.toNat_natCast];have k:b<255:=by omega
 clear f c e;by_cases e:n.tmod 255<0
 ·obtain⟨f,o⟩:∃f,f=n.tmod 255:=⟨_,rfl⟩
  have c:=a.o;rw[bg e] at c;have l:f=(b:Int)-255:=(by omega);subst o;go_enter func316,ntmps316;rw[show n.tmod 255=(b:Int)-255 from l] at e;have s:n.tmod 255=(b:Int)-255:=l;clear a c;go_wp2_with fail;refine(x8 g _).mono ?_;rintro d p ⟨rfl,rfl⟩;have q:=sQ i k;go_wp2_with fail;go_ret;exact⟨rfl,0,rfl⟩
 ·have c:=a.o
  rw[bh e] at c;clear a;go_enter func316,ntmps316;go_wp2_with fail;refine(x8 g _).mono ?_;rintro d p ⟨rfl,rfl⟩;have q:=sQ i k;go_wp2_with fail;go_ret;exact⟨rfl,0,rfl⟩
theorem Fp.of{w:World}{g:Nat}(a:Fld w g):Fp w (some ⟨g,0,none⟩):=.inr ⟨g,rfl,a⟩
theorem Fp.below{w w':World}{p:PK}{B:Nat}(a:Fp w p)(b:Below B w w')(c:w.heap.size<=B):Fp w' p:=by
 rcases a with rfl | ⟨g,rfl,hF⟩
 ·exact .inl rfl
 ·exact .inr ⟨g,rfl,hF.below b (aW (Blk.lt hF) c)⟩
def jP(c:Nat)(a b:Nat->Nat):Nat->Nat:=λd=>b d ^^^ fm c (a d)
def vz:Nat->Nat:=λ_=>0
def Vb(v:Nat->Nat):Prop:=∀a,v a<256
theorem Pj:Vb vz:=λ_=>(by decide:(0:Nat)<256)
theorem Oi{c:Nat}{a b:Nat->Nat}(d:Vb b):Vb (jP c a b):=λe=>rF (d e) (iC _ _)
inductive Spn (M:List (Nat->Nat)):(Nat->Nat)->Prop where
 | zero:Spn M vz
 | add (c:Nat) (r v:Nat->Nat):c<256->r∈M->Spn M v->Spn M (jP c r v)
theorem Dt(a b:Nat):a ^^^ b ^^^ b=a:=by rw[Nat.xor_assoc,Nat.xor_self,Nat.xor_zero]
theorem Kz(a b c:Nat):a ^^^ b ^^^ c=a ^^^ c ^^^ b:=by rw[Nat.xor_assoc,Nat.xor_comm b c,<-Nat.xor_assoc]
theorem iP(a:Nat)(b:a<256):fm 1 a=a:=by rw[jp,o6 a b]
theorem KA{c:Nat}{a b:Nat->Nat}:jP c a (jP c a b)=b:=funext λd=>Dt _ _
theorem AO{a b:Nat->Nat}:jP 0 a b=b:=funext λc=>by unfold jP;rw[dE,Nat.xor_zero]
theorem Pk{c d:Nat}{a b v:Nat->Nat}(f:c<256)(g:d<256)(h:Vb a)(i:Vb b):jP c (jP d a b) v=jP c b (jP (fm c d) a v):=funext λe=>by
 unfold jP;rw[rG f (i e) (iC _ _),<-kX c d (a e) f g (h e),<-Nat.xor_assoc,Kz]
theorem Spn.vb{M:List (Nat->Nat)}{v:Nat->Nat}(a:Spn M v):Vb v:=by
 induction a with
 | zero=>exact Pj
 | add c r v hc hr _ ih=>exact Oi ih
theorem Spn.ax{M:List (Nat->Nat)}(b:∀r∈M,Vb r){u v:Nat->Nat}{c:Nat}(e:c<256)(f:Spn M u)(a:Spn M v):Spn M (jP c u v):=by
 induction f generalizing v with
 | zero=>
   have:jP c vz v=v:=funext λg=>(by unfold jP vz;rw[bM,Nat.xor_zero]);rw[this];exact a
 | add d r u hd hr hs ih=>
   rw[Pk e hd (b r hr) hs.vb];exact ih (Spn.add _ r v (iC _ _) hr a)
theorem Spn.mem{M:List (Nat->Nat)}(b:∀r∈M,Vb r){r:Nat->Nat}(a:r∈M):Spn M r:=by
 have:jP 1 r vz=r:=funext λc=>by unfold jP vz;rw[Nat.zero_xor,iP _ (b r a c)]
 rw[<-this];exact Spn.add 1 r vz (by decide) a .zero
theorem Spn.trans{M a:List (Nat->Nat)}(b:∀r∈a,Vb r)(d:∀r∈M,Spn a r){v:Nat->Nat}(e:Spn M v):Spn a v:=by
 induction e with
 | zero=>exact .zero
 | add c r v hc hr _ ih=>exact Spn.ax b hc (d r hr) ih
theorem Spn.sub{M a:List (Nat->Nat)}(b:∀r∈M,r∈a){v:Nat->Nat}(d:Spn M v):Spn a v:=by
 induction d with
 | zero=>exact .zero
 | add c r v hc hr _ ih=>exact .add c r v hc (b r hr) ih
structure RedV (M:List (Nat->Nat)) (ls:PI):Prop where
 len:M.length=ls.length
 up:ls.Pairwise (·< ·)
 one:∀(i:Nat) r l,M[i]? =some r->ls[i]? =some l->r l=1
 zero:∀(i k:Nat) r l,M[k]? =some r->ls[i]? =some l->k≠i->r l=0
 low:∀(i:Nat) r l,M[i]? =some r->ls[i]? =some l->∀j,j<l->r j=0
 byt:∀r∈M,Vb r
def oD:List (Nat->Nat)->PI->(Nat->Nat)->Nat->Nat
 | r :: M,l :: ls,w=>jP (w l) r (oD M ls w)
 | _,_,_=>vz
theorem Pm(M:List (Nat->Nat)):∀(ls:PI) (c:Nat) (u v:Nat->Nat),c<256->Vb u->Vb v->(∀r∈M,Vb r)->oD M ls (jP c u v)=jP c (oD M ls u) (oD M ls v):=by
 have j:∀c,jP c vz vz=vz:=λc=>funext λa=>by unfold jP vz;rw[bM];rfl
 induction M with
 | nil=>intro ls c u v d g h i;simp only[oD,j]
 | cons r M e=>
   intro ls c u v d g h i;cases ls with
   | nil=>simp only[oD,j]
   | cons b ls=>
     simp only[oD];rw[e ls c u v d g h λr f=>i r (mem_cons_of_mem _ f)];funext a;have f:=i r mem_cons_self a
     have k:Vb (oD M ls u):=by
      clear e
      have:∀(M:List (Nat->Nat)) ls,Vb (oD M ls u):=by
       intro M
       induction M with
       | nil=>intro ls;exact Pj
       | cons r M e=>intro ls;cases ls with
         | nil=>exact Pj
         | cons b ls=>exact Oi (e ls)
      exact this M ls
     show oD M ls v a ^^^ fm c (oD M ls u a) ^^^ fm (v b ^^^ fm c (u b)) (r a)=(oD M ls v a ^^^ fm (v b) (r a)) ^^^ fm c (oD M ls u a ^^^ fm (u b) (r a));rw[mG (h b) (iC _ _) f,rG d (k a) (iC _ _),kX c (u b) (r a) d (g b) f]
     ac_rfl
theorem vA(M:List (Nat->Nat)):∀(ls:PI) (w:Nat->Nat),(∀l∈ls,w l=0)->oD M ls w=vz:=by
 induction M with
 | nil=>intro ls w a;rfl
 | cons e M b=>
   intro ls w a;cases ls with
   | nil=>rfl
   | cons l ls=>
     simp only[oD];rw[b ls w λc d=>a c (mem_cons_of_mem _ d),a l mem_cons_self,AO]
theorem AP(M:List (Nat->Nat)):∀(ls:PI) (w:Nat->Nat) (i:Nat) (r:Nat->Nat),(∀r∈M,Vb r)->M.length=ls.length->M[i]? =some r->(∀(k:Nat) l,ls[k]? =some l->w l=if k=i then 1 else 0)->oD M ls w=r:=by
 induction M with
 | nil=>intro ls w i r _ _ b;simp at b
 | cons f M j=>
   intro ls w i r g h b c;cases ls with
   | nil=>simp at h
   | cons l ls=>
     simp only[oD];cases i with
     | zero=>
       obtain rfl:f=r:=(by simpa using b);have a:=c 0 l rfl;simp at a
       rw[a,vA M ls w λd m=>by
        obtain⟨k,e⟩:=List.getElem?_of_mem m;have:=c (k+1) d (by simpa using e);simpa using this]
       funext m;unfold jP vz;rw[Nat.zero_xor,iP _ (g f mem_cons_self m)]
     | succ i=>
       have a:=c 0 l rfl;simp at a;rw[a,AO];refine j ls w i r (λr m=>g r (mem_cons_of_mem _ m)) (by simpa using h) (by simpa using b) λk d e=> ?_;have:=c (k+1) d (by simpa using e);simpa using this
theorem RedV.unit{M:List (Nat->Nat)}{ls:PI}(b:RedV M ls){i:Nat}{r:Nat->Nat}(c:M[i]? =some r):∀(k:Nat) l,ls[k]? =some l->r l=if k=i then 1 else 0:=by
 intro k l d;split
 ·rename_i a;subst a;exact b.one k r l c d
 ·rename_i a;exact b.zero k i r l c d (λe=>a e.symm)
theorem RedV.eq_lco{M:List (Nat->Nat)}{ls:PI}(a:RedV M ls){v:Nat->Nat}(d:Spn M v):oD M ls v=v:=by
 induction d with
 | zero=>exact vA M ls vz λ_ _=>rfl
 | add c r v hc hr hs ih=>
   obtain⟨e,b⟩:=List.getElem?_of_mem hr;rw[Pm M ls c r v hc (a.byt r hr) hs.vb a.byt,ih,AP M ls r e r a.byt a.len b (a.unit b)]
theorem RedV.eq_zero{M:List (Nat->Nat)}{ls:PI}(a:RedV M ls){v:Nat->Nat}(b:Spn M v)(c:∀l∈ls,v l=0):v=vz:=by
 rw[<-a.eq_lco b,vA M ls v c]
theorem KC(M:List (Nat->Nat)):∀(ls:PI) (w:Nat->Nat) (j:Nat),(∀(i:Nat) r l,M[i]? =some r->ls[i]? =some l->w l=0\/r j=0)->oD M ls w j=0:=by
 induction M with
 | nil=>intro ls w j _;rfl
 | cons r M b=>
   intro ls w j a;cases ls with
   | nil=>rfl
   | cons l ls=>
     simp only[oD,jP];rw[b ls w j λi c d e f=>a (i+1) c d (by simpa using e) (by simpa using f)];have:fm (w l) (r j)=0:=Dr.2 (a 0 r l rfl rfl);rw[this];rfl
theorem RedV.row{M:List (Nat->Nat)}{ls:PI}(a:RedV M ls){i l:Nat}(b:ls[i]? =some l):∃r,M[i]? =some r:=by
 have:=(List.getElem?_eq_some_iff.1 b).1;exact⟨_,ah (by rw[a.len];exact this)⟩
theorem RedV.first{M:List (Nat->Nat)}{ls:PI}(c:RedV M ls){v:Nat->Nat}(e:Spn M v){j:Nat}(f:v j≠0)(g:∀i,i<j->v i=0):j∈ls:=by
 apply Classical.byContradiction;intro h;apply f;rw[<-c.eq_lco e];refine KC M ls v j λi k b l d=> ?_;rcases Nat.lt_trichotomy b j with a | a | a
 ·exact .inl (g b a)
 ·exact absurd (by rw[<-a];exact mem_of_getElem? d) h
 ·exact .inr (c.low i k b l d j a)
theorem RedV.leads{M d:List (Nat->Nat)}{ls e:PI}(a:RedV M ls)(g:RedV d e)(h:∀r∈M,Spn d r):∀l∈ls,l∈e:=by
 intro l i;obtain⟨f,b⟩:=List.getElem?_of_mem i;obtain⟨r,c⟩:=a.row b;refine g.first (h r (mem_of_getElem? c)) (j:=l) (by rw[a.one f r l c b];decide) λj k=>a.low f r l c b j k
theorem qI{ls:PI}(a:ls.Pairwise (·< ·)):ls.Nodup:=a.imp λa=>Nat.ne_of_lt a
theorem KD(ls:PI):∀a:PI,ls.Pairwise (·< ·)->a.Pairwise (·< ·)->(∀x,x∈ls↔x∈a)->ls=a:=by
 induction ls with
 | nil=>
   intro a _ _ c;cases a with
   | nil=>rfl
   | cons d a=>have:=(c d).2 mem_cons_self;simp at this
 | cons h ls k=>
   intro a i j c;cases a with
   | nil=>have:=(c h).1 mem_cons_self;simp at this
   | cons d a=>
     rw[pairwise_cons] at i j
     have b:h=d:=by
      have e:=(c h).1 mem_cons_self;have f:=(c d).2 mem_cons_self;rcases mem_cons.1 e with e | e
      ·exact e
      ·rcases mem_cons.1 f with f | f
       ·exact f.symm
       ·have:=j.1 h e
        have:=i.1 d f;omega
     subst b;congr 1;refine k a i.2 j.2 λx=> ?_;constructor
     ·intro g
      rcases mem_cons.1 ((c x).1 (mem_cons_of_mem _ g)) with b | b
      ·subst b;exact absurd (i.1 x g) (Nat.lt_irrefl _)
      ·exact b
     ·intro g
      rcases mem_cons.1 ((c x).2 (mem_cons_of_mem _ g)) with b | b
      ·subst b;exact absurd (j.1 x g) (Nat.lt_irrefl _)
      ·exact b
theorem RedV.leads_eq{M a:List (Nat->Nat)}{ls b:PI}(c:RedV M ls)(d:RedV a b)(f:∀r∈M,Spn a r)(g:∀r∈a,Spn M r):ls=b:=
 KD ls b c.up d.up λe=>⟨c.leads d f e,d.leads c g e⟩
theorem RedV.unique{M a:List (Nat->Nat)}{ls g:PI}(c:RedV M ls)(b:RedV a g)(f:∀r∈M,Spn a r)(h:∀r∈a,Spn M r):M=a:=by
 have i:=c.leads_eq b f h;subst i;apply ext_getElem?;intro d;cases hm:M[d]? with
 | none=>
   rw[List.getElem?_eq_none_iff,c.len,<-b.len] at hm;rw[List.getElem?_eq_none hm]
 | some r=>
   have e:=(List.getElem?_eq_some_iff.1 hm).1;rw[ah (by rw[b.len,<-c.len];exact e)];have j:a[d]? =some (a[d]'(by rw[b.len,<-c.len];exact e)):=ah _;generalize a[d]'(by rw[b.len,<-c.len];exact e)=s at*;congr 1;rw[<-b.eq_lco (f r (mem_of_getElem? hm))];exact AP a ls r d s b.byt b.len j (c.unit hm)
theorem RedV.le{M a:List (Nat->Nat)}{ls d:PI}(b:RedV M ls)(c:RedV a d)(e:∀r∈M,Spn a r):M.length<=a.length:=by
 rw[b.len,c.len];exact(qI b.up).length_le_of_subset λf g=>b.leads c e f g
theorem RedV.whole{M m:List (Nat->Nat)}{ls t:PI}(e:RedV M ls)(n:RedV m t)(x:∀r∈M,Spn m r)(D:m.length<=M.length){v:Nat->Nat}(i:Spn m v):Spn M v:=by
 have y:=e.leads n x
 have z:∀a∈t,a∈ls:=by
  intro a u;apply Classical.byContradiction;intro A;have c:(a :: ls).Nodup:=nodup_cons.2 ⟨A,qI e.up⟩
  have h:=c.length_le_of_subset (l₂:=t) λj b=>by
   rcases mem_cons.1 b with f | f
   ·subst f;exact u
   ·exact y j f
  have:=e.len;have:=n.len;simp at h;omega
 have B:∀(M:List (Nat->Nat)) ls,(∀r∈M,Vb r)->∀v:Nat->Nat,Vb v->Spn M (oD M ls v):=by
  intro M
  induction M with
  | nil=>intro ls _ v _;exact .zero
  | cons r M w=>
    intro ls b v i;cases ls with
    | nil=>exact .zero
    | cons a ls=>exact .add _ r _ (i a) mem_cons_self ((w ls (λr o=>b r (mem_cons_of_mem _ o)) v i).sub λr o=>mem_cons_of_mem _ o)
 have c:=B M ls e.byt v i.vb;have h:Spn m (jP 1 (oD M ls v) v):=Spn.ax n.byt (by decide) (c.trans n.byt x) i
 have p:jP 1 (oD M ls v) v=vz:=by
  refine n.eq_zero h λa u=> ?_;obtain⟨d,q⟩:=List.getElem?_of_mem (z a u)
  have f:oD M ls v a=v a:=by
   obtain⟨r,o⟩:=e.row q;have E:=e.unit o
   have:∀(M:List (Nat->Nat)) (b:PI) (d:Nat),M.length=b.length->b[d]? =some a->(∀(g:Nat) r,M[g]? =some r->r a=if g=d then 1 else 0)->oD M b v a=v a:=by
    intro M
    induction M with
    | nil=>intro b d c h _;cases b with
      | nil=>simp at h
      | cons j C=>simp at c
    | cons r M w=>
      intro b d c h p;cases b with
      | nil=>simp at c
      | cons j b=>
        have s:=p 0 r rfl;cases d with
        | zero=>
          obtain rfl:j=a:=(by simpa using h);simp at s;have:oD M b v j=0:=KC M b v j λg k C l F=>.inr (by have:=p (g+1) k (by simpa using l);simpa using this);simp only[oD,jP];rw[this,s,Nat.zero_xor,o6 _ (i.vb j)]
        | succ d=>
          simp at s;simp only[oD,jP];rw[s,bM,Nat.xor_zero];exact w b d (by simpa using c) (by simpa using h) λg k l=>by have:=p (g+1) k (by simpa using l);simpa using this
   refine this M ls d e.len q λg k l=> ?_;split
   ·rename_i f;subst f;exact e.one g k a l q
   ·rename_i f;exact e.zero d g k a l q f
  unfold jP;rw[f,iP _ (i.vb a),Nat.xor_self]
 have j:v=oD M ls v:=by
  funext b;have:=congrFun p b;unfold jP vz at this;rw[iP _ (c.vb b)] at this;exact qH this
 rw[j];exact c
def gt(M:List PI)(i j:Nat):Nat:=(M.getD i []).getD j 0
def lU(c:Nat)(a b:PI):PI:=zipWith (λd e=>e ^^^ fm c d) a b
def kE(c:Nat)(a:PI):PI:=a.map λb=>fm c b
def vO(r:PI):Nat->Nat:=λa=>r.getD a 0
def swp(M:List PI)(i j:Nat):List PI:=(M.set i (M.getD j [])).set j (M.getD i [])
def dn(M:List PI)(b col k:Nat):List PI:=M.mapIdx λc a=>if c<k/\c≠b then lU (a.getD col 0) (M.getD b []) a else a
def lV(M:List PI)(col:Nat):Nat->Nat->Option Nat
 | _,0=>none
 | i,n+1=>if gt M i col≠0 then some i else lV M col (i+1) n
def jc(M:List PI)(a col p:Nat):List PI:=(swp M a p).set a (kE (fi (gt (swp M a p) a col)) ((swp M a p).getD a []))
def jD(M:List PI)(a col:Nat):List PI×Nat:=
 match lV M col a (M.length-a) with
 | none=>(M,a)
 | some b=>(dn (jc M a col b) a col M.length,a+1)
def dc(M:List PI):Nat->List PI×Nat
 | 0=>(M,0)
 | col+1=>jD (dc M col).1 (dc M col).2 col
def wid(M:List PI):Nat:=(M.getD 0 []).length
def dS(M:List PI):List PI:=(dc M (wid M)).1.take (dc M (wid M)).2
def Wf(n:Nat)(M:List PI):Prop:=∀a∈M,a.length=n/\∀b∈a,b<256
theorem getD_lt{r:PI}(b:∀x∈r,x<256)(j:Nat):r.getD j 0<256:=by
 rcases bq j r.length with a | a
 ·rw[af,ah a];exact b _ (aQ a)
 ·rw[af,List.getElem?_eq_none a];decide
theorem gV{r:PI}(a:∀x∈r,x<256):Vb (vO r):=λb=>getD_lt a b
theorem Wf.row{n:Nat}{M:List PI}(b:Wf n M)(i:Nat):(M.getD i []=[]/\M.length<=i)\/((M.getD i []).length=n/\(∀x∈M.getD i [],x<256)/\i<M.length/\M.getD i []∈M):=by
 rcases bq i M.length with a | a
 ·rw[af,ah a]
  have:=b _ (aQ a);exact .inr ⟨this.1,this.2,a,aQ a⟩
 ·rw[af,List.getElem?_eq_none a];exact .inl ⟨rfl,a⟩
theorem Wf.lt{n:Nat}{M:List PI}(b:Wf n M)(i j:Nat):gt M i j<256:=by
 unfold gt;rcases b.row i with⟨a,_⟩ | ⟨_,a,_⟩
 ·rw[a];simp
 ·exact getD_lt a j
theorem uh{M:List PI}{i:Nat}(a:M.length<=i)(j:Nat):gt M i j=0:=by
 unfold gt;rw[af (l:=M),List.getElem?_eq_none a];simp
theorem gS{c:Nat}{a b:PI}(d:a.length=b.length):(lU c a b).length=b.length:=by unfold lU;rw[length_zipWith];omega
theorem mN{c:Nat}{a b:PI}(e:a.length=b.length)(j:Nat):(lU c a b).getD j 0=b.getD j 0 ^^^ fm c (a.getD j 0):=by
 unfold lU;rcases bq j b.length with d | d
 ·simp only[af,List.getElem?_zipWith,ah d,ah (show j<a.length by omega),Option.getD_some]
 ·simp only[af,List.getElem?_zipWith,List.getElem?_eq_none d,List.getElem?_eq_none (show a.length<=j by omega),Option.getD_none,bM];rfl
theorem pW{c:Nat}{a b:PI}(g:∀x∈b,x<256):∀x∈lU c a b,x<256:=by
 intro x e;unfold lU at e;obtain⟨f,d⟩:=List.getElem?_of_mem e;rw[List.getElem?_zipWith] at d;cases ha:a[f]? with
 | none=>simp[ha] at d
 | some i=>
   cases hb:b[f]? with
   | none=>simp[ha,hb] at d
   | some h=>
     simp[ha,hb] at d;rw[<-d];exact rF (g h (mem_of_getElem? hb)) (iC _ _)
theorem jl(c:Nat)(a:PI)(j:Nat):(kE c a).getD j 0=fm c (a.getD j 0):=by
 unfold kE;simp only[af,List.getElem?_map];cases a[j]? with
 | none=>simp[bM]
 | some b=>simp
theorem IY{a b:PI}(e:a.length=b.length):lU 0 a b=b:=by
 refine ext_getElem? λc=> ?_;unfold lU;rw[List.getElem?_zipWith];rcases bq c b.length with d | d
 ·simp only[ah d,ah (show c<a.length by omega),dE,Nat.xor_zero]
 ·simp only[List.getElem?_eq_none d,List.getElem?_eq_none (show a.length<=c by omega)]
theorem NT{c:Nat}{a b:PI}(d:a.length=b.length):vO (lU c a b)=jP c (vO a) (vO b):=funext λe=>mN d e
theorem xV{n:Nat}{a b:PI}(g:a.length=n)(h:b.length=n)(c:vO a=vO b):a=b:=by
 refine ext_getElem (by omega) λd e f=> ?_;have:=congrFun c d;simpa[vO,e,f] using this
theorem Ef{n:Nat}{a:PI}(d:a.length=n)(c:∀j,j<n->a.getD j 0=0):vO a=vz:=funext λj=>by
 rcases bq j n with b | b
 ·exact c j b
 ·unfold vO vz;rw[af,List.getElem?_eq_none (by omega)];rfl
theorem mO{M:List PI}{col:Nat}:∀(n i p:Nat),lV M col i n=some p->i<=p/\p<i+n/\gt M p col≠0/\∀k,i<=k->k<p->gt M k col=0:=by
 intro n
 induction n with
 | zero=>intro i p a;simp[lV] at a
 | succ n c=>
   intro i p a;rw[lV] at a;split at a
   ·rename_i b
    obtain rfl:i=p:=(by simpa using a);exact⟨aj _,by omega,b,λk d e=>by omega⟩
   ·rename_i b
    obtain⟨d,e,f,g⟩:=c (i+1) p a;refine⟨by omega,by omega,f,λk l h=> ?_⟩;by_cases j:k=i
    ·subst j;exact Classical.byContradiction λa=>b a
    ·exact g k (by omega) h
theorem Fw{M:List PI}{col:Nat}:∀(n i:Nat),lV M col i n=none->∀k,i<=k->k<i+n->gt M k col=0:=by
 intro n
 induction n with
 | zero=>intro i a k b c;omega
 | succ n d=>
   intro i a k b c;rw[lV] at a;split at a
   ·simp at a
   ·rename_i e
    by_cases f:k=i
    ·subst f;exact Classical.byContradiction λa=>e a
    ·exact d (i+1) a k (by omega) (by omega)
def sg(a b k:Nat):Nat:=if k=a then b else if k=b then a else k
theorem pX(M:List PI)(i j:Nat):(swp M i j).length=M.length:=by simp[swp]
theorem sP{M:List PI}{i j:Nat}(d:i<M.length)(e:j<M.length)(k:Nat):(swp M i j).getD k []=M.getD (sg i j k) []:=by
 unfold swp sg;simp only[af,List.getElem?_set,length_set];by_cases b:k=i
 ·subst b
  by_cases a:j=k
  ·subst a;simp[d]
  ·simp[d,a]
 ·by_cases a:k=j
  ·subst a;simp[e,b]
  ·rw[bh (λc=>a c.symm),bh (λc=>b c.symm),bh b,bh a]
theorem fM(M:List PI)(a col p:Nat):(jc M a col p).length=M.length:=by simp[jc,pX]
theorem lW{M:List PI}{a col p:Nat}(b:a<M.length)(e:p<M.length)(k:Nat):(jc M a col p).getD k []=if k=a then kE (fi (gt M p col)) (M.getD p []) else M.getD (sg a p k) []:=by
 have c:=sP b e a;have f:sg a p a=p:=by unfold sg;simp
 rw[f] at c;unfold jc;have g:gt (swp M a p) a col=gt M p col:=by unfold gt;rw[c]
 rw[g,c];by_cases d:k=a
 ·subst d;simp[pX,b]
 ·rw[bh d,<-sP b e k]
  simp only[af,List.getElem?_set,bh (λh:a=k=>d h.symm)]
theorem fN(M:List PI)(a col k:Nat):(dn M a col k).length=M.length:=by simp[dn]
theorem iG{M:List PI}(a col k:Nat){i:Nat}(b:i<M.length):(dn M a col k).getD i []=if i<k/\i≠a then lU (gt M i col) (M.getD a []) (M.getD i []) else M.getD i []:=by
 unfold dn gt;simp only[af,List.getElem?_mapIdx,ah b,Option.map_some,Option.getD_some]
theorem zH(M:List PI)(a col:Nat):dn M a col 0=M:=by
 refine ext_getElem? λb=> ?_;unfold dn;rw[List.getElem?_mapIdx];cases M[b]? <;> simp
theorem rT{n:Nat}{M:List PI}(h:Wf n M){b col k:Nat}(f:k<M.length):dn M b col (k+1)=if k=b then dn M b col k else (dn M b col k).set k (lU (gt M k col) (M.getD b []) (M.getD k [])):=by
 split
 ·rename_i e
  subst e;refine ext_getElem? λa=> ?_;unfold dn;simp only[List.getElem?_mapIdx];cases M[a]? with
  | none=>rfl
  | some g=>
    simp only[Option.map_some];by_cases d:a=k
    ·subst d;simp
    ·by_cases c:a<k
     ·simp[c,show a<k+1 by omega]
     ·simp[c,show ¬a<k+1 by omega]
 ·rename_i e
  refine ext_getElem? λa=> ?_;rw[List.getElem?_set];by_cases d:k=a
  ·subst d
   rw[bg rfl,bg (by rw[fN];exact f)];unfold dn gt;simp only[List.getElem?_mapIdx,af,ah f,Option.map_some,Option.getD_some];rw[bg ⟨by omega,e⟩]
  ·rw[bh d]
   unfold dn;simp only[List.getElem?_mapIdx];cases M[a]? with
   | none=>rfl
   | some g=>
     simp only[Option.map_some];by_cases c:a<k
     ·simp[c,show a<k+1 by omega]
     ·simp[c,show ¬a<k+1 by omega]
theorem mP{M:List PI}{i:Nat}(a:i<M.length):M.getD i []∈M:=by
 rw[af,ah a];exact aQ a
theorem wQ{n:Nat}{M:List PI}(b:∀i,i<M.length->(M.getD i []).length=n/\∀x∈M.getD i [],x<256):Wf n M:=by
 intro d c;obtain⟨i,a,rfl⟩:=bC c;have:=b i a;rw[af,ah a] at this;exact this
theorem Wf.get{n:Nat}{M:List PI}(a:Wf n M){i:Nat}(b:i<M.length):(M.getD i []).length=n/\∀x∈M.getD i [],x<256:=a _ (mP b)
theorem wR{a b k m:Nat}(c:a<m)(d:b<m)(e:k<m):sg a b k<m:=by unfold sg;split;exact d;split;exact c;exact e
theorem IZ(a b k:Nat):sg a b (sg a b k)=k:=by
 unfold sg;by_cases d:k=a
 ·subst d
  by_cases c:b=k
  ·simp[c]
  ·simp[c]
 ·by_cases c:k=b
  ·subst c;simp[d]
  ·simp[d,c]
theorem xW{n:Nat}{M:List PI}(b:Wf n M){c col p:Nat}(d:c<M.length)(a:p<M.length):Wf n (jc M c col p):=by
 refine wQ λg e=> ?_;rw[fM] at e;rw[lW d a g];split
 ·have:=b.get a
  exact⟨by rw[kE,aC];exact this.1,λh f=>by
   simp only[kE,aY] at f;obtain⟨h,_,rfl⟩:=f;exact iC _ _⟩
 ·exact b.get (wR d a e)
theorem qU{n:Nat}{M:List PI}(d:Wf n M){a:Nat}(col k:Nat)(e:a<M.length):Wf n (dn M a col k):=by
 refine wQ λf b=> ?_;rw[fN] at b;rw[iG a col k b];have c:=d.get b;have g:=d.get e;split
 ·exact⟨by rw[gS (by omega)];exact c.1,pW c.2⟩
 ·exact c
structure Inv (n:Nat) (M:List PI) (col top:Nat) (ls:PI):Prop where
 wf:Wf n M
 cnt:ls.length=top
 le:top<=M.length
 up:ls.Pairwise (·< ·)
 lt:∀l∈ls,l<col
 piv:∀(i:Nat) l,ls[i]? =some l->∀k,k<M.length->gt M k l=if k=i then 1 else 0
 low:∀(i:Nat) l,ls[i]? =some l->∀j,j<l->gt M i j=0
 rest:∀i,top<=i->∀j,j<col->gt M i j=0
theorem zI{n:Nat}{M:List PI}(e:Wf n M){a col p:Nat}(c:a<M.length)(b:p<M.length){k:Nat}(f:k<M.length)(j:Nat):
 gt (dn (jc M a col p) a col M.length) k j=if k=a then fm (fi (gt M p col)) (gt M p j) else gt M (sg a p k) j ^^^ fm (gt M (sg a p k) col) (fm (fi (gt M p col)) (gt M p j)):=by
 have m:=xW (col:=col) e c b;have i:k<(jc M a col p).length:=by rw[fM];exact f
 have g:(jc M a col p).getD a []=kE (fi (gt M p col)) (M.getD p []):=by rw[lW c b a,bg rfl]
 conv=>lhs;unfold gt
 rw[iG a col _ i];by_cases d:k=a
 ·subst d
  rw[bh (by simp),bg rfl,g,jl];rfl
 ·have h:(jc M a col p).getD k []=M.getD (sg a p k) []:=by rw[lW c b k,bh d]
  have l:gt (jc M a col p) k col=gt M (sg a p k) col:=(by unfold gt;rw[h]);have o:=e.get (wR c b f);have q:=e.get b;rw[bg ⟨f,d⟩,bh d,l,h,g,mN (by simp only[kE,aC];omega),jl];rfl
theorem Inv.step{n:Nat}{M:List PI}{col e:Nat}{ls:PI}(b:Inv n M col e ls):∃a,Inv n (jD M e col).1 (col+1) (jD M e col).2 a:=by
 unfold jD;cases hf:lV M col e (M.length-e) with
 | none=>
   refine⟨ls,b.wf,b.cnt,b.le,b.up,λg a=>by have:=b.lt g a;omega,b.piv,b.low,λc i d k=> ?_⟩;by_cases p:d=col
   ·subst p
    rcases bq c M.length with a | a
    ·exact Fw _ _ hf c i (by omega)
    ·exact uh a d
   ·exact b.rest c i d (by omega)
 | some h=>
   dsimp only
   obtain⟨q,B,y,-⟩:=mO _ _ _ hf;have u:h<M.length:=(by omega);have l:e<M.length:=(by omega);have m:=λf (j:f<M.length) d=>zI (col:=col) b.wf l u j d;have r:(dn (jc M e col h) e col M.length).length=M.length:=(by rw[fN,fM]);have o:∀d,d<col->fm (fi (gt M h col)) (gt M h d)=0:=λd k=>(by rw[b.rest h q d k,bM]);have z:fm (fi (gt M h col)) (gt M h col)=1:=by rw[jp];exact Kv y (b.wf.lt h col)
   have v:∀f d,e<=f->d<col->gt M (sg e h f) d=0:=λf d j k=>by
    refine b.rest _ ?_ d k;unfold sg;split
    ·exact q
    ·split <;> omega
   have w:∀f,f<M.length->gt (dn (jc M e col h) e col M.length) f col=if f=e then 1 else 0:=λf j=>by
    rw[m f j,z];split
    ·rfl
    ·rw[o6 _ (b.wf.lt _ _),Nat.xor_self]
   refine⟨ls++[col],qU (xW b.wf l u) _ _ (by rw[fM];exact l),by simp[b.cnt],by rw[r];exact l,?_,?_,?_,?_,?_⟩
   ·rw[pairwise_append]
    exact⟨b.up,pairwise_singleton _ _,λs t x A=>by
     obtain rfl:x=col:=(by simpa using A);exact b.lt s t⟩
   ·intro g a
    rcases bz.1 a with a | a
    ·have:=b.lt g a;omega
    ·obtain rfl:g=col:=by simpa using a
     omega
   ·intro c g a f j
    rw[r] at j;rcases bq c ls.length with i | i
    ·rw[List.getElem?_append_left i] at a
     have s:=b.lt g (mem_of_getElem? a);have A:c<e:=(by have:=b.cnt;omega);rw[m f j,o g s];split
     ·rename_i t;subst t;rw[bh (by omega)]
     ·rename_i t
      rw[bM,Nat.xor_zero];by_cases x:f=h
      ·subst x
       rw[v f g q s,bh (by omega)]
      ·have:sg e h f=f:=by unfold sg;rw[bh t,bh x]
       rw[this];exact b.piv c g a f j
    ·rw[List.getElem?_append_right i] at a
     have t:c-ls.length=0:=by
      have:=(List.getElem?_eq_some_iff.1 a).1;simp at this;omega
     rw[t] at a;obtain rfl:col=g:=(by simpa using a);rw[w f j];have:c=e:=(by have:=b.cnt;omega);rw[this]
   ·intro c g a d k
    rcases bq c ls.length with i | i
    ·rw[List.getElem?_append_left i] at a
     have s:=b.lt g (mem_of_getElem? a);have A:c<e:=(by have:=b.cnt;omega);rw[m c (by omega),bh (by omega),o d (by omega),bM,Nat.xor_zero];have:sg e h c=c:=(by unfold sg;rw[bh (by omega),bh (by omega)]);rw[this];exact b.low c g a d k
    ·rw[List.getElem?_append_right i] at a
     have t:c-ls.length=0:=by
      have:=(List.getElem?_eq_some_iff.1 a).1;simp at this;omega
     rw[t] at a;obtain rfl:col=g:=(by simpa using a);have:c=e:=(by have:=b.cnt;omega);subst this;rw[m c l,bg rfl,o d k]
   ·intro c i d k
    rcases bq c M.length with a | a
    ·by_cases p:d=col
     ·subst p
      rw[w c a,bh (by omega)]
     ·rw[m c a,bh (by omega),o d (by omega),bM,Nat.xor_zero]
      exact v c d (by omega) (by omega)
    ·exact uh (by rw[r];exact a) d
theorem Fx{n:Nat}{M:List PI}(a:Wf n M):Inv n M 0 0 []:=
 ⟨a,rfl,bu _,List.Pairwise.nil,by simp,by simp,by simp,λb _ c d=>by omega⟩
theorem iV{n:Nat}{M:List PI}(a:Wf n M)(col:Nat):∃ls,Inv n (dc M col).1 col (dc M col).2 ls:=by
 induction col with
 | zero=>exact⟨[],Fx a⟩
 | succ col b=>
   obtain⟨ls,c⟩:=b;exact c.step
theorem Fy(M:List PI)(a col:Nat):(jD M a col).1.length=M.length:=by
 unfold jD;split
 ·rfl
 ·rw[fN,fM]
theorem jE(M:List PI)(col:Nat):(dc M col).1.length=M.length:=by
 induction col with
 | zero=>rfl
 | succ col a=>rw[dc,Fy,a]
def SpEq(M b:List PI):Prop:=∀a,Spn (M.map vO) a↔Spn (b.map vO) a
theorem SpEq.refl(M:List PI):SpEq M M:=λ_=>Iff.rfl
theorem SpEq.symm{M a:List PI}(b:SpEq M a):SpEq a M:=λc=>(b c).symm
theorem SpEq.trans{M a L:List PI}(c:SpEq M a)(d:SpEq a L):SpEq M L:=λb=>(c b).trans (d b)
theorem Wf.vb{n:Nat}{M:List PI}(a:Wf n M):∀r∈M.map vO,Vb r:=by
 intro r b;obtain⟨c,d,rfl⟩:=aY.1 b;exact gV (a c d).2
theorem Wf.spn{n:Nat}{M:List PI}(a:Wf n M){i:Nat}(b:i<M.length):Spn (M.map vO) (vO (M.getD i [])):=Spn.mem a.vb (mem_map_of_mem (mP b))
theorem lX{n m:Nat}{M a:List PI}(h:Wf n M)(c:Wf m a)(d:∀i,i<M.length->Spn (a.map vO) (vO (M.getD i []))){v:Nat->Nat}(e:Spn (M.map vO) v):Spn (a.map vO) v:=by
 refine e.trans c.vb λj f=> ?_;obtain⟨k,g,rfl⟩:=aY.1 f;obtain⟨i,b,rfl⟩:=bC g;have:=d i b;rw[af,ah b] at this;exact this
theorem FA{n:Nat}{M:List PI}(d:Wf n M)(a col:Nat):SpEq M (jD M a col).1:=by
 unfold jD;cases hf:lV M col a (M.length-a) with
 | none=>exact SpEq.refl M
 | some c=>
   dsimp only
   obtain⟨x,y,v,-⟩:=mO _ _ _ hf;have i:c<M.length:=(by omega);have g:a<M.length:=(by omega);have h:=qU (xW (col:=col) d g i) col M.length (by rw[fM];exact g);have k:(dn (jc M a col c) a col M.length).length=M.length:=(by rw[fN,fM]);have o:=λb (e:b<M.length) f=>zI (col:=col) d g i e f;have l:=d.lt c col;have p:=gV (d.get i).2
   have m:vO ((dn (jc M a col c) a col M.length).getD a [])=jP (fi (gt M c col)) (vO (M.getD c [])) vz:=funext λf=>by
    have:=o a g f;rw[bg rfl] at this;unfold jP vz;rw[Nat.zero_xor];exact this
   have q:∀b,b<M.length->b≠a->vO ((dn (jc M a col c) a col M.length).getD b [])=jP (gt M (sg a c b) col) (vO ((dn (jc M a col c) a col M.length).getD a [])) (vO (M.getD (sg a c b) [])):=λb e j=>by
    rw[m];funext f;have:=o b e f;rw[bh j] at this;unfold jP vz;rw[Nat.zero_xor];exact this
   generalize dn (jc M a col c) a col M.length=j at*
   have stop:Spn (M.map vO) (vO (j.getD a [])):=by
    rw[m];exact Spn.ax d.vb (Ku _) (d.spn i) .zero
   intro z;constructor
   ·refine lX d h λb e=> ?_
    have r:a<j.length:=(by rw[k];exact g);by_cases s:b=c
    ·subst s
     have:vO (M.getD b [])=jP (gt M b col) (vO (j.getD a [])) vz:=by
      rw[m];funext f;unfold jP vz;rw[Nat.zero_xor,Nat.zero_xor,<-kX _ _ _ l (Ku _) (p f),Kv v l,iP _ (p f)]
     rw[this];exact Spn.ax h.vb l (h.spn r) .zero
    ·have t:sg a c b<M.length:=wR g i e
     have w:sg a c b≠a:=(by unfold sg;split;omega;first | assumption | (rw[bh s];assumption));have u:=q _ t w;rw[IZ] at u;have:vO (M.getD b [])=jP (gt M b col) (vO (j.getD a [])) (vO (j.getD (sg a c b) [])):=(by rw[u,KA]);rw[this];exact Spn.ax h.vb (d.lt b col) (h.spn r) (h.spn (by rw[k];exact t))
   ·refine lX h d λb e=> ?_
    rw[k] at e;by_cases r:b=a
    ·subst r;exact stop
    ·rw[q b e r]
     exact Spn.ax d.vb (d.lt _ _) stop (d.spn (wR g i e))
theorem qV{n:Nat}{M:List PI}(a:Wf n M)(col:Nat):SpEq M (dc M col).1:=by
 induction col with
 | zero=>exact SpEq.refl M
 | succ col b=>
   obtain⟨d,c⟩:=iV a col;exact b.trans (FA c.wf _ _)
structure Red (n:Nat) (R:List PI) (ls:PI):Prop where
 wf:Wf n R
 red:RedV (R.map vO) ls
 lt:∀l∈ls,l<n
theorem Inv.red{n:Nat}{M:List PI}{c:Nat}{ls:PI}(e:Inv n M n c ls):Red n (M.take c) ls/\SpEq M (M.take c):=by
 have p:=e.le;have l:∀a,a<c->(M.take c).getD a []=M.getD a []:=λa f=>by simp[f]
 have i:Wf n (M.take c):=λd b=>e.wf d (bD b);have m:(M.take c).length=c:=by rw[aG];omega
 have j:∀(a:Nat) d,((M.take c).map vO)[a]? =some d->a<c/\d=vO (M.getD a []):=λa d b=>by
  rw[List.getElem?_map] at b;rcases bq a c with f | f
  ·rw[List.getElem?_take,bg f,ah (by omega)] at b
   refine⟨f,?_⟩;rw[af,ah (by omega)];simpa using b.symm
  ·rw[List.getElem?_eq_none (by omega)] at b;simp at b
 refine⟨⟨i,⟨by rw[aC,m,e.cnt],e.up,?_,?_,?_,i.vb⟩,e.lt⟩,λg=>⟨lX e.wf i λa f=> ?_,λg=>g.sub λd b=> ?_⟩⟩
 ·intro a d g b h
  obtain⟨f,rfl⟩:=j a d b;have:=e.piv a g h a (by omega);rw[bg rfl] at this;exact this
 ·intro a k d g b h o
  obtain⟨q,rfl⟩:=j k d b;have:=e.piv a g h k (by omega);rw[bh o] at this;exact this
 ·intro a d g b h k o
  obtain⟨f,rfl⟩:=j a d b;exact e.low a g h k o
 ·rcases bq a c with g | g
  ·rw[<-l a g];exact i.spn (by omega)
  ·rw[Ef (e.wf.get f).1 (e.rest a g)];exact .zero
 ·obtain⟨h,g,rfl⟩:=aY.1 b
  exact mem_map_of_mem (bD g)
theorem lY{n:Nat}{M:List PI}(a:Wf n M)(b:M≠[]):wid M=n:=by
 unfold wid;exact(a.get (by cases M with | nil=>exact absurd rfl b | cons c d=>simp)).1
theorem fF{n:Nat}{M:List PI}(a:Wf n M):∃ls,Red n (dS M) ls/\SpEq M (dS M):=by
 by_cases b:M=[]
 ·subst b
  exact⟨[],⟨by intro d c;simp[dS,dc,wid] at c,⟨rfl,.nil,by simp,by simp,by simp,by simp[dS,dc,wid]⟩,by simp⟩,SpEq.refl _⟩
 ·have c:=lY a b
  obtain⟨ls,d⟩:=iV a n;have:=d.red;unfold dS;rw[c];exact⟨ls,this.1,(qV a n).trans this.2⟩
theorem BK{n:Nat}{a B:List PI}(g:Wf n a)(h:Wf n B)(b:a.map vO=B.map vO):a=B:=by
 have i:a.length=B.length:=by simpa using congrArg List.length b
 refine ext_getElem i λc d e=> ?_;have f:(a.map vO)[c]? =(B.map vO)[c]? :=by rw[b]
 simp only[List.getElem?_map,ah d,ah e,Option.map_some,Option.some.injEq] at f;exact xV (g _ (aQ d)).1 (h _ (aQ e)).1 f
theorem Red.spn{n:Nat}{R:List PI}{ls:PI}(a:Red n R ls){r:Nat->Nat}(b:r∈R.map vO):Spn (R.map vO) r:=Spn.mem a.wf.vb b
theorem Red.unique{n:Nat}{a B:List PI}{ls g:PI}(b:Red n a ls)(c:Red n B g)(f:SpEq a B):a=B:=
 BK b.wf c.wf (b.red.unique c.red (λd e=>(f d).1 (b.spn e)) (λd e=>(f d).2 (c.spn e)))
theorem LV{n:Nat}{a B:List PI}(b:Wf n a)(c:Wf n B)(d:SpEq a B):dS a=dS B:=by
 obtain⟨i,e,f⟩:=fF b;obtain⟨j,g,h⟩:=fF c;exact e.unique g ((f.symm.trans d).trans h)
theorem xX{n:Nat}{a B:List PI}(d:Wf n a)(e:Wf n B)(f:∀v,Spn (a.map vO) v->Spn (B.map vO) v):(dS a).length<=(dS B).length:=by
 obtain⟨k,c,g⟩:=fF d;obtain⟨l,h,i⟩:=fF e;have:=c.red.le h.red λb j=>(i b).1 (f b ((g b).2 (c.spn j)));simpa using this
theorem um{n:Nat}{a B:List PI}(g:Wf n a)(h:Wf n B)(c:∀v,Spn (a.map vO) v->Spn (B.map vO) v)(i:(dS B).length<=(dS a).length):SpEq a B:=by
 obtain⟨m,d,e⟩:=fF g;obtain⟨o,j,f⟩:=fF h;refine λv=>⟨c v,λk=>(e v).2 (d.red.whole j.red (λb l=>(f b).1 (c b ((e b).2 (d.spn l)))) (by simpa using i) ((f v).1 k))⟩
theorem NU{n:Nat}{ls:PI}(a:ls.Pairwise (·< ·))(b:∀l∈ls,l<n):ls.length<=n:=by
 have:=(qI a).length_le_of_subset (l₂:=range n) λl c=>bA.2 (b l c);simpa using this
theorem kF{n:Nat}{M:List PI}(c:Wf n M):(dS M).length<=n/\(dS M).length<=M.length:=by
 obtain⟨d,a,_⟩:=fF c;have b:=a.red.len;rw[aC] at b;refine⟨by rw[b];exact NU a.red.up a.lt,?_⟩;unfold dS;rw[aG,jE];omega
