import Derived.Test.YtgccllbnfngpcaaGreatDoorRows
import Derived.WalkKit
import Derived.WalkSpells
import Derived.WalkLawsBesides
import Derived.BigQuiet
import Derived.Deep.QuietTactic
import Derived.Lib.Hide
import Derived.Deep.AppendLies
import Derived.OpenShut
import Derived.Deep.RegionHeld3
import Derived.ScopeJumps
import Derived.WalkMore
import Derived.Deep.LoopGhost
import Derived.Deep.MidRow
import Derived.Deep.RegionWith
set_option linter.unusedVariables false
set_option maxRecDepth 100000
set_option maxHeartbeats 400000000
namespace Go.Proofs.YtgccllbnfngpcaaGreatDoor
open Go.RowKit _root_.Go.Proofs.Tryz List
open Value (int slice pointer bool)
open IntKind (i64)
open Ending (returned)
open Obj (cells)
def Sz(p:Prop):Prop:=p
theorem Sz.o{p:Prop}(a:Sz p):p:=a
theorem ae{p:Prop}(a:p):Sz p:=a
theorem af{b:Type _}{l:List b}{i:Nat}{a:b}:l.getD i a=l[i]?.getD a:=List.getD_eq_getElem?_getD
theorem ah{a:Type _}{l:List a}{i:Nat}(b:i<l.length):l[i]? =some l[i]:=List.getElem?_eq_getElem b
theorem aj(n:Nat):n<=n:=Nat.le_refl n
theorem aC(B:Nat)(w:World):Below B w w:=Below.refl B w
theorem aG{a:Type _}{b:Type _}{l:List a}(f:a->b):(List.map f l).length=l.length:=length_map f
theorem aH{a:Type _}{i:Nat}{l:List a}:(List.take i l).length=min i l.length:=length_take
theorem aI{a:Type _}{l k:List a}:(l++k).length=l.length+k.length:=length_append
theorem aJ{b:Type _}{n:Nat}{a:b}:(replicate n a).length=n:=length_replicate
theorem aN{a:Type _}{i:Nat}{l:List a}:l.length<=i->List.take i l=l:=take_of_length_le
theorem aO{a:Type _}{i:Nat}{l:List a}(b:i<l.length):List.take (i+1) l=List.take i l++[l[i]]:=take_succ_eq_append_getElem b
theorem aP{n m k:Nat}:n<=m->m<=k->n<=k:=Nat.le_trans
theorem aQ{a:Type _}{l:List a}{n:Nat}(b:n<l.length):l[n]∈l:=getElem_mem b
theorem aU{a:Type _}{b:Type _}{f:a->b}{l k:List a}:List.map f (l++k)=List.map f l++List.map f k:=map_append
theorem aW{n m k:Nat}:n<m->m<=k->n<k:=Nat.lt_of_lt_of_le
theorem aZ{c:Type _}{d:Type _}{b:d}{f:c->d}{l:List c}:b∈l.map f↔∃a,a∈l/\f a=b:=mem_map
theorem bg{n:Nat}:(range n).length=n:=length_range
theorem bn{p:Prop}[a:Decidable p](k:decide p=true):p:=of_decide_eq_true k
theorem bq{p:Prop}[a:Decidable p](k:p):decide p=true:=decide_eq_true k
theorem bu{c:Prop}{b:Decidable c}(k:c){a:Sort _}{t e:a}:ite c t e=t:=if_pos k
theorem bA{c:Prop}{b:Decidable c}(k:¬c){a:Sort _}{t e:a}:ite c t e=e:=if_neg k
theorem bC{p q m n:Nat}(a:p<=m)(k:q<=n):p*q<=m*n:=Nat.mul_le_mul a k
theorem bD(a b:Nat):a<b\/a>=b:=Nat.lt_or_ge a b
theorem bE(n:Nat):0<=n:=Nat.zero_le n
theorem bF{b:Type _}{a:b}{s t:List b}:a∈s++t↔a∈s\/a∈t:=mem_append
theorem bG{m n:Nat}:m∈range n↔m<n:=mem_range
theorem bH{b:Type _}{a:b}{l:List b}(c:a∈l):∃i,∃c:i<l.length,l[i]=a:=getElem_of_mem c
theorem bI{b:Type _}{i:Nat}{a:b}{l:List b}(c:a∈l.take i):a∈l:=mem_of_mem_take c
theorem bJ(w:World)(a:Addr)(u:Value)(k:Nat)(b:k≠a.block):(w.setCell a u).heap[k]? =w.heap[k]? :=Below.heap_setCell w a u k b
abbrev SC:=List Nat
abbrev SE:=Option Addr
theorem fe(w:World)(a:Array Value)(t:TypeId)(k:Nat):(w.alloc (.cells a t)).cell? ⟨w.heap.size,k,none⟩=a[k]? :=
 cell_of_row _ _ k a t (0,0) (heap_alloc_new w _)
theorem below_drewN{B:Nat}{a w:World}(b:Below B a w)(n:Nat):Below B a (w.drewN n):=⟨b.os,b.tape,b.output,b.size,b.block⟩
theorem OU{P:Program}(w:World){ops:Array Oper}{rest:List Oper}{o:Oper}{a:Act}{Q:Exit->Act->World->Prop}(j:o.guard=none)(s x:Operand)(t:TypeId)
 (k:o.op=.call { callee:=.builtin .append,args:=#[s,x],argTypes:=#[t,t] })
 (d:Nat)(e:TypeId)(z:Value)(h:Nat)(l:P.underlying t=some (.slice e))(m:(P.info? e).map (λb=>(b.zero,b.size,b.bytes))=some (some z,1,h))(p:z.cells.size=1)
 (v:Value)(n:Nat)(xs:List Value)(hs:a.eval s=v)(q:w.ownsRow d e 1 v n xs)
 (g:Nat)(u:Value)(r:a.eval x=slice (some ⟨g,0,none⟩) 1 1)(y:w.cell? ⟨g,0,none⟩=some u)(i:u.oneCell'=true)
 (A:(n+1)*h<=140737488355328)(B:n+1<=maxLen)(C:d<=w.heap.size)
 (D:∀c w',w'.ownsRow d e 1 c (n+1) (xs++[u])->w.grownBy w' v.ownBlock->c≠ slice none 0 0->wpList P ops Q rest (a.put o.dst c) w'):wpList P ops Q (o :: rest) a w:=by
 obtain⟨b,E,F,G,H⟩:=info_parts m;refine wpList_append_own w j s x t k d e b z 1 h l E F G H p (by decide) v n xs hs q ⟨g,0,none⟩ 1 1 [u] r rfl ?_ (by simpa using i) B A C ?_
 ·intro I J f
  match I,f with
  | 0,f=>simp at f;subst f;simpa[Addr.add] using y
 ·intro c w' i f I
  exact D c w' i f (λe=>by have:=I.1 e;simp at this)
def At(w:World)(p:Addr)(v:Value):Prop:=w.cell? p=some v/\w.frozen? p=false
theorem At.lt{w:World}{p:Addr}{v:Value}(a:At w p v):p.block<w.heap.size:=World.block_lt_of_cell? w p a.1
theorem At.far{w:World}{p q:Addr}{v:Value}(a:At w p v)(b:p.block≠q.block)(u:Value):At (w.setCell q u) p v:=
 ⟨(World.cell?_of_block (w:=w) (bJ w q u p.block b)).trans a.1,(World.frozen?_of_block (w:=w) (bJ w q u p.block b)).trans a.2⟩
theorem At.put{w:World}{p:Addr}{v:Value}(h:At w p v)(u:Value):At (w.setCell p u) p u:=by
 obtain⟨a,b⟩:=h;obtain⟨e,f,c⟩:=p;have d:c=none:=World.cell?_spot a;subst d;refine⟨?_,by simpa[go_sem] using b⟩;go_simp
theorem At.below{B:Nat}{w w':World}{p:Addr}{v:Value}(a:At w p v)(b:Below B w w')(c:p.block<B):At w' p v:=
 ⟨(b.cell c).trans a.1,(b.frozen c).trans a.2⟩
theorem At.new(w:World)(v:Value)(t:TypeId):At (w.alloc (cells #[v] t)) ⟨w.heap.size,0,none⟩ v:=
 ⟨fe w #[v] t 0,by go_simp⟩
theorem lT{w:World}{a b e c n:Nat}{v:Value}{xs:List Value}(d:w.ownsRow a e c v n xs)(l:b<=a):w.ownsRow b e c v n xs:=by
 refine⟨d.1,?_⟩;rcases d.2 with f | ⟨g,h,i,j,m,k⟩
 ·exact .inl f
 ·exact .inr ⟨g,h,i,j,by omega,k⟩
theorem own_below{w w':World}{a e b n B:Nat}{v:Value}{xs:List Value}(c:w.ownsRow a e b v n xs)(d:Below B w w')(f:∀g,v.ownBlock=some g->g<B):w'.ownsRow a e b v n xs:=by
 refine⟨c.1,?_⟩;rcases c.2 with h | ⟨g,i,j,rfl,k,l,m⟩
 ·exact .inl h
 ·exact .inr ⟨g,i,j,rfl,k,(d.block g (f g rfl)).trans l,m⟩
theorem gQ{w w':World}{a e b n:Nat}{v:Value}{xs:List Value}(c:w.ownsRow a e b v n xs)(d:Below w.heap.size w w'):w'.ownsRow a e b v n xs:=
 own_below c d (λf g=>(c.lt f g).2)
theorem own_ne{w:World}{g h d e s1 i j k:Nat}{b f:Value}{l m:List Value}(n:w.ownsRow g d s1 b j l)(o:w.ownsRow h e i f k m)(p:d≠e):b.ownBlock=none\/b.ownBlock≠f.ownBlock:=by
 rcases n.2 with⟨rfl,_⟩ | ⟨s,t,u,rfl,_,q,_⟩
 ·exact .inl rfl
 ·refine .inr (λc=> ?_)
  rcases o.2 with⟨rfl,_⟩ | ⟨v,x,y,rfl,_,a,_⟩
  ·simp[Value.ownBlock] at c
  ·simp[Value.ownBlock] at c
   subst c;rw[q] at a;injection a with a;injection a with _ r;exact p r
def Rd(w:World)(B:Nat)(a:SE)(n:Nat)(xs:List Value):Prop:=
 xs.length=n/\(0<n->∃b c,a=some ⟨b,c,none⟩/\b<B/\∀d e,xs[d]? =some e->w.cell? ⟨b,c+d,none⟩=some e)
theorem qI(w:World)(B:Nat)(a:SE):Rd w B a 0 []:=⟨rfl,λb=>absurd b (by omega)⟩
theorem Rd.len{w:World}{B:Nat}{a:SE}{n:Nat}{xs:List Value}(b:Rd w B a n xs):xs.length=n:=b.1
theorem Rd.keep{w w':World}{B:Nat}{a:SE}{n:Nat}{xs:List Value}(b:Rd w B a n xs)(g:∀p:Addr,p.block<B->w'.cell? p=w.cell? p):Rd w' B a n xs:=
 ⟨b.1,λf=>by
   obtain⟨c,d,h,e,i⟩:=b.2 f;exact⟨c,d,h,e,λf j k=>(g ⟨c,d+f,none⟩ e).trans (i f j k)⟩⟩
theorem Rd.below{w w':World}{B C:Nat}{a:SE}{n:Nat}{xs:List Value}(b:Rd w B a n xs)(c:Below C w w')(d:B<=C):Rd w' B a n xs:=
 b.keep λ_ e=>c.cell (by omega)
theorem Rd.more{w:World}{B C:Nat}{a:SE}{n:Nat}{xs:List Value}(b:Rd w B a n xs)(h:B<=C):Rd w C a n xs:=
 ⟨b.1,λc=>by
   obtain⟨d,e,f,i,g⟩:=b.2 c;exact⟨d,e,f,by omega,g⟩⟩
theorem Bz{P:Program}(w:World){ops:Array Oper}{rest:List Oper}{o:Oper}{a:Act}{Q:Exit->Act->World->Prop}(k:o.guard=none)(s x:Operand)(t:TypeId)
 (l:o.op=.call { callee:=.builtin .append,args:=#[s,x],argTypes:=#[t,t] })
 (d:Nat)(e:TypeId)(z:Value)(g:Nat)(p:P.underlying t=some (.slice e))(q:(P.info? e).map (λb=>(b.zero,b.size,b.bytes))=some (some z,1,g))(r:z.cells.size=1)
 (v:Value)(n:Nat)(xs:List Value)(hs:a.eval s=v)(y:w.ownsRow d e 1 v n xs)
 (B:Nat)(ad:Addr)(m c:Nat)(f:List Value)(A:a.eval x=slice (some ad) m c)(h:Rd w B (some ad) m f)(C:∀u∈f,u.oneCell'=true)
 (D:(n+m)*g<=140737488355328)(E:n+m<=maxLen)(F:d<=w.heap.size)
 (G:∀i w',w'.ownsRow d e 1 i (n+m) (xs++f)->w.grownBy w' v.ownBlock->(i=slice none 0 0↔v=slice none 0 0/\m=0)->wpList P ops Q rest (a.put o.dst i) w'):wpList P ops Q (o :: rest) a w:=by
 obtain⟨b,H,I,J,K⟩:=info_parts q;refine wpList_append_own w k s x t l d e b z 1 g p H I J K r (by decide) v n xs hs y ad m c f A (by rw[h.1];omega) ?_ C E D F G;intro i u j
 have M:i<m:=by
  have:=(List.getElem?_eq_some_iff.1 j).1;rw[h.1] at this;exact this
 obtain⟨N,O,e,_,L⟩:=h.2 (by omega);obtain rfl:=Option.some.inj e;rw[Addr.add_lit];exact L i u j
theorem oW{w:World}{i e n:Nat}{v:Value}{xs:List Value}(b:w.ownsRow i e 1 v n xs):∃a c,v=slice a n c/\Rd w w.heap.size a n xs:=by
 rcases Nat.eq_zero_or_pos n with d | d
 ·subst d
  have g:xs=[]:=eq_nil_of_length_eq_zero (by simpa using b.1);subst g;rcases b.2 with⟨rfl,_⟩ | ⟨f,j,h,rfl,_⟩
  ·exact⟨_,_,rfl,qI _ _ _⟩
  ·exact⟨_,_,rfl,qI _ _ _⟩
 ·obtain⟨f,j,rfl,_,k⟩:=b.form d
  refine⟨_,_,rfl,by simpa using b.1,λ_=>⟨f,0,rfl,k,λg m h=> ?_⟩⟩
  have l:g<n*1:=by
   have:=(List.getElem?_eq_some_iff.1 h).1;rw[b.1] at this;exact this
  rw[Nat.zero_add,b.cellAt g l,h]
theorem qJ{w:World}(k:IntKind)(x:Addr)(b d:Nat)(a:List Int)(o:b<=d)(p:a.length=d)
 (e:∀i,i<a.length->w.cell? (x.add i)=some (.int k (a.getD i 0))):Rd w w.heap.size (some x) b ((a.take b).map (Value.int k)):=by
 refine⟨by simp;omega,λq=> ?_⟩;have f:=e 0 (by omega);obtain⟨g,h,j⟩:=x;have l:j=none:=by simpa[Addr.add] using World.cell?_spot f
 subst l;refine⟨g,h,rfl,World.block_lt_of_cell? w ⟨g,h,none⟩ (by simpa[Addr.add] using f),λi r c=> ?_⟩
 have m:i<b:=by
  have:=(List.getElem?_eq_some_iff.1 c).1;simp at this;omega
 have:=e i (by omega);rw[Addr.add_lit] at this;rw[this];have n:i<a.length:=by omega
 simp only[List.getElem?_map,List.getElem?_take,m,if_true] at c;simp only[af];rw[ah n] at c ⊢;simpa using c
theorem wM{P:Program}{w:World}(t e:TypeId)(n:Nat)(a:Array Value)(k b:IntKind)(i:Nat)(v:Value)(c:P.underlying t=some (.array n e))(d:P.underlying e=some (.int b))(hs:(P.info? e).map (·.size)=some 1)
 (j:i<n)(f:a[i]? =some v):(Instr.index t (.agg a) (.int k (i:Int))).run P w=.ok v w:=by
 cases hq:P.info? e with
 | none=>simp[hq] at hs
 | some g=>
   have h:g.size=1:=(by simpa[hq] using hs);have l:(0:Int)<=(i:Int)/\(i:Int)<(n:Int):=(by omega);simp[Instr.index,run_underlying c,asIntOf,part,isAgg,run_underlying d,sizeOf,typeInfo,hq,h,f];intro m;omega
def Blk(w:World)(g:Nat)(t:TypeId)(a:Array Value):Prop:=w.heap[g]? =some (.cells a t (0,0))
theorem Blk.lt{w:World}{g:Nat}{t:TypeId}{a:Array Value}(b:Blk w g t a):g<w.heap.size:=(Array.getElem?_eq_some_iff.1 b).1
theorem Blk.cell{w:World}{g:Nat}{t:TypeId}{a:Array Value}(b:Blk w g t a)(i:Nat):w.cell? ⟨g,i,none⟩=a[i]? :=cell_of_row w g i a t (0,0) b
theorem Blk.frozen{w:World}{g:Nat}{t:TypeId}{a:Array Value}(b:Blk w g t a)(i:Nat):w.frozen? ⟨g,i,none⟩=false:=frozen_of_row w g i a t b
theorem Blk.new(w:World)(t:TypeId)(a:Array Value):Blk (w.alloc (.cells a t)) w.heap.size t a:=heap_alloc_new w _
theorem Blk.alloc{w:World}{g:Nat}{t:TypeId}{a:Array Value}(b:Blk w g t a)(o:Obj):Blk (w.alloc o) g t a:=(Below.heap_alloc w o g b.lt).trans b
theorem Blk.set{w:World}{g:Nat}{t:TypeId}{a:Array Value}(b:Blk w g t a)(i:Nat)(u:Value):Blk (w.setCell ⟨g,i,none⟩ u) g t (a.setIfInBounds i u):=heap_setCell_same w g i a t u b
theorem Blk.far{w:World}{g:Nat}{t:TypeId}{a:Array Value}(b:Blk w g t a){p:Addr}(c:g≠p.block)(u:Value):Blk (w.setCell p u) g t a:=(heap_setCell_other w p g u c).trans b
theorem Blk.below{w w':World}{B g:Nat}{t:TypeId}{a:Array Value}(b:Blk w g t a)(c:Below B w w')(d:g<B):Blk w' g t a:=(c.block g d).trans b
theorem Blk.grown{w w':World}{g:Nat}{t:TypeId}{a:Array Value}{r:Option Nat}(b:Blk w g t a)(c:w.grownBy w' r)(d:some g≠r):Blk w' g t a:=(c.block g b.lt d).trans b
theorem Blk.row{w:World}{g:Nat}{t:TypeId}{b:Array Value}(c:Blk w g t b)(a:Array Value):Blk (w.setRow g a) g t a:=setRow_heap w g b a t (0,0) c
theorem Blk.drew{w:World}{g:Nat}{t:TypeId}{a:Array Value}(b:Blk w g t a):Blk w.drew g t a:=b
theorem Blk.drewN{w:World}{g:Nat}{t:TypeId}{a:Array Value}(b:Blk w g t a)(n:Nat):Blk (w.drewN n) g t a:=b
theorem bS{B:Nat}{a w:World}(c:Below B a w){g:Nat}(e:B<=g)(b:Array Value):Below B a (w.setRow g b):=
 c.trans ⟨rfl,rfl,rfl,by simp,λd f=>setRow_other w g d b (by omega)⟩
theorem zS{P:Program}{Q:Exit->Act->World->Prop}{a:Act}{w:World}{h rest:Code}(l:Nat)(d:Nat->Act->World->Prop)(j:Nat)
 (m:findLabel (h.seq ((Code.label l).seq rest)) l=some (Code.skip.seq rest))
 (first:h.wp P (Exit.then (d j) (Exit.jump l (λ_ _=>False) Q)) a w)
 (k:∀n a w,d n a w->rest.wp P (Exit.jump l (λe f=>∃c,c<n/\d c e f) Q) a w):(Code.scope (h.seq ((Code.label l).seq rest))).wp P Q a w:=by
 refine wp_scope_jumps l (λa w=>∃n,d n a w) (λa w=>leastOf (λn=>d n a w)) m ?_ ?_
 ·refine wp_seq (wp_mono first ?_)
  intro g e f b;cases g with
  | normal=>
    refine wp_seq (wp_label ?_);refine wp_mono (k j e f b) ?_;intro g e f b;cases g with
    | goto l'=>exact⟨b.1,let ⟨c,_,i⟩:=b.2;⟨c,i⟩⟩
    | normal=>exact b
    | exit id=>exact b
    | ret=>exact b
    | panic ch=>exact b
    | outgrown=>exact b
  | goto l'=>exact b.2.elim
  | exit id=>exact b
  | ret=>exact b
  | panic ch=>exact b
  | outgrown=>exact b
 ·intro a w o
  refine wp_seq (wp_skip ?_);refine wp_mono (k _ a w (leastOf_spec o).1) ?_;intro g e f b;cases g with
  | goto l'=>
    obtain⟨p,c,q,i⟩:=b;exact⟨p,⟨c,i⟩,Nat.lt_of_le_of_lt ((leastOf_spec ⟨c,i⟩).2 c i) q⟩
  | normal=>exact b
  | exit id=>exact b
  | ret=>exact b
  | panic ch=>exact b
  | outgrown=>exact b
def xt(a:Nat):Nat:=if 128<=a then (2*a)%256 ^^^ 27 else 2*a
def m3(a:Nat):Nat:=a ^^^ xt a
def ex:Nat->Nat | 0=>1 | n+1=>m3 (ex n)
def P5:Nat->Nat->SC | _,0=>[] | a,n+1=>a :: P5 (m3 a) n
def lg(a:Nat):Nat:=(P5 1 255).findIdx (·== a)
theorem P6(n:Nat):∀(i:Nat) (k:Nat),k<n->(P5 (ex i) n)[k]? =some (ex (i+k)):=by
 induction n with
 | zero=>intro i k a;omega
 | succ n b=>
   intro i k a
   match k with
   | 0=>simp[P5]
   | k+1=>
     simp only[P5,List.getElem?_cons_succ];have:=b (i+1) k (by omega);rw[show i+(k+1)=i+1+k by omega];exact this
def tab1:Bool:=(P5 1 255).all λa=>0<a && a<256
theorem P7:tab1=true:=by decide +kernel
def tab2:Bool:=(range 256).all λa=>a == 0 || (lg a<255 && (P5 1 255)[lg a]? == some a)
theorem GA:tab2=true:=by decide +kernel
def tab3:Bool:=(range 255).all λa=>(match (P5 1 255)[a]? with | some b=>lg b == a | none=>false)
theorem P8:tab3=true:=by decide +kernel
theorem Nk:ex 255=1:=by decide +kernel
theorem E9{i:Nat}(a:i<255):(P5 1 255)[i]? =some (ex i):=by
 have:=P6 255 0 i a
 rwa [Nat.zero_add] at this
theorem Nl{i:Nat}(b:i<255):0<ex i/\ex i<256:=by
 have a:=all_eq_true.1 P7 (ex i) (mem_of_getElem? (E9 b));simp at a;exact a
theorem zn{a:Nat}(d:0<a)(b:a<256):lg a<255:=by
 have c:=all_eq_true.1 GA a (bG.2 b);simp at c;omega
theorem GD{a:Nat}(e:0<a)(d:a<256):ex (lg a)=a:=by
 have b:=all_eq_true.1 GA a (bG.2 d);simp only[Bool.or_eq_true,beq_iff_eq,Bool.and_eq_true,decide_eq_true_eq] at b;rcases b with b | ⟨b,c⟩
 ·omega
 ·rw[E9 b] at c
  exact Option.some.inj c
theorem Nn{i:Nat}(a:i<255):lg (ex i)=i:=by
 have b:=all_eq_true.1 P8 i (bG.2 a);rw[E9 a] at b;simpa using b
theorem RV(i n:Nat):∀j,ex i=ex j->ex (i+n)=ex (j+n):=by
 induction n with
 | zero=>intro j a;exact a
 | succ n b=>intro j a;exact congrArg m3 (b j a)
theorem xH(n:Nat):ex n=ex (n%255):=by
 induction n using Nat.strongRecOn with
 | _ n ih=>
   rcases bD n 255 with a | a
   ·rw[Nat.mod_eq_of_lt a]
   ·have b:ex (255+(n-255))=ex (0+(n-255)):=RV 255 (n-255) 0 Nk
    rw[show 255+(n-255)=n by omega,Nat.zero_add] at b;rw[b,ih (n-255) (by omega)];exact congrArg ex (by omega)
theorem uN(n:Nat):0<ex n/\ex n<256:=by rw[xH];exact Nl (Nat.mod_lt _ (by decide))
def fm(a b:Nat):Nat:=if a=0\/b=0 then 0 else ex ((lg a+lg b)%255)
def fi(a:Nat):Nat:=if a=0 then 0 else ex ((255-lg a)%255)
theorem jq(a b:Nat):fm a b<256:=by unfold fm;split;decide;exact(uN _).2
theorem Np(a:Nat):fi a<256:=by unfold fi;split;decide;exact(uN _).2
theorem dR(b:Nat):fm 0 b=0:=by simp[fm]
theorem bU(a:Nat):fm a 0=0:=by simp[fm]
theorem ku(a b:Nat):fm a b=fm b a:=by
 unfold fm;by_cases c:a=0 <;> by_cases d:b=0 <;> simp[c,d,Nat.add_comm]
theorem xI(i j:Nat):fm (ex i) (ex j)=ex (i+j):=by
 have c:=uN i;have d:=uN j;unfold fm;rw[bA (by omega)];have a:lg (ex i)=i%255:=by rw[xH i];exact Nn (Nat.mod_lt _ (by decide))
 have b:lg (ex j)=j%255:=by rw[xH j];exact Nn (Nat.mod_lt _ (by decide))
 rw[a,b,xH (i+j),Nat.add_mod i j 255]
theorem CV{a:Nat}(c:a≠0)(b:a<256):∃i,i<255/\a=ex i:=⟨lg a,zn (by omega) b,(GD (by omega) b).symm⟩
theorem qY(a:Nat)(c:a<256):fm a 1=a:=by
 by_cases b:a=0
 ·subst b;exact dR 1
 ·obtain⟨d,_,rfl⟩:=CV b c
  exact xI d 0
theorem mh(a b c:Nat)(g:a<256)(h:b<256)(i:c<256):fm (fm a b) c=fm a (fm b c):=by
 by_cases d:a=0
 ·subst d;simp[dR]
 by_cases e:b=0
 ·subst e;simp[dR,bU]
 by_cases f:c=0
 ·subst f;simp[bU]
 obtain⟨j,_,rfl⟩:=CV d g;obtain⟨k,_,rfl⟩:=CV e h;obtain⟨l,_,rfl⟩:=CV f i;rw[xI,xI,xI,xI,Nat.add_assoc]
theorem Fa{a b:Nat}:fm a b=0↔a=0\/b=0:=by
 unfold fm;by_cases c:a=0\/b=0
 ·simp[c]
 ·rw[bA c]
  have:=(uN ((lg a+lg b)%255)).1;constructor
  ·intro d;omega
  ·intro d;exact absurd d c
theorem Nq{a:Nat}(c:a≠0)(b:a<256):fm a (fi a)=1:=by
 have e:=zn (by omega) b;have d:fi a=ex (255-lg a):=by unfold fi;rw[bA c,<-xH]
 rw[d]
 conv=>lhs;arg 1;rw[<-GD (by omega) b]
 rw[xI,show lg a+(255-lg a)=255 by omega,Nk]
theorem QU{a:Nat}(b:a<256):xt a<256:=by
 unfold xt;split
 ·exact Nat.xor_lt_two_pow (n:=8) (Nat.mod_lt _ (by decide)) (by decide)
 ·omega
def AJ:Nat->Nat->Nat | 0,a=>a | n+1,a=>AJ n (m3 a)
theorem P9(n:Nat):∀i,AJ n (ex i)=ex (i+n):=by
 induction n with
 | zero=>intro i;rfl
 | succ n a=>
   intro i;have:=a (i+1);rw[show i+(n+1)=i+1+n by omega,<-this];rfl
theorem Qa:m3 0=0:=rfl
theorem JF(n:Nat):AJ n 0=0:=by
 induction n with
 | zero=>rfl
 | succ n a=>simpa[AJ,Qa] using a
theorem xJ{a b:Nat}(f:a≠0)(d:a<256)(e:b<256):fm a b=AJ (lg a) b:=by
 by_cases c:b=0
 ·subst c;rw[JF,bU]
 ·obtain⟨g,_,rfl⟩:=CV c e
  rw[P9]
  conv=>lhs;arg 1;rw[<-GD (by omega) d]
  rw[xI,Nat.add_comm]
theorem JG{a:Nat}(b:a<256):a.testBit 7=decide (128<=a):=by
 rw[Nat.testBit_eq_decide_div_mod_eq];congr 1;simp only[eq_iff_iff];omega
theorem Nr{a:Nat}(c:a<256):xt a=(2*a)%256 ^^^ (if a.testBit 7 then 27 else 0):=by
 unfold xt;rw[JG c];by_cases b:128<=a
 ·simp[b]
 ·simp only[b,if_false,decide_false,Bool.false_eq_true,Nat.xor_zero]
  omega
theorem Qb(a b:Nat):(2*(a ^^^ b))%256=(2*a)%256 ^^^ (2*b)%256:=by
 apply Nat.eq_of_testBit_eq;intro e;have f:(256:Nat)=2 ^ 8:=rfl;have c:∀d:Nat,2*d=d*2 ^ 1:=λd=>by omega
 rw[Nat.testBit_xor,f,Nat.testBit_mod_two_pow,Nat.testBit_mod_two_pow,Nat.testBit_mod_two_pow,c,c,c,Nat.testBit_mul_two_pow,Nat.testBit_mul_two_pow,Nat.testBit_mul_two_pow];by_cases d:e<8 <;> by_cases g:1<=e <;> simp[d,g,Nat.testBit_xor]
theorem RZ{a b:Nat}(d:a<256)(e:b<256):xt (a ^^^ b)=xt a ^^^ xt b:=by
 rw[Nr d,Nr e,Nr (Nat.xor_lt_two_pow (n:=8) d e),Qb,Nat.testBit_xor];generalize (2*a)%256=f;generalize (2*b)%256=c;cases a.testBit 7 <;> cases b.testBit 7
 ·simp
 ·simp[Nat.xor_assoc]
 ·simp only[Bool.true_bne,Bool.not_false,if_true,Bool.false_eq_true,if_false,Nat.xor_zero]
  rw[Nat.xor_assoc,Nat.xor_assoc,Nat.xor_comm c 27]
 ·simp only[bne_self_eq_false,Bool.false_eq_true,if_false,if_true,Nat.xor_zero]
  rw[Nat.xor_assoc,<-Nat.xor_assoc 27 c 27,Nat.xor_comm 27 c,Nat.xor_assoc c 27 27,Nat.xor_self,Nat.xor_zero]
theorem QV{a:Nat}(b:a<256):m3 a<256:=Nat.xor_lt_two_pow (n:=8) b (QU b)
theorem xor4(a b x y:Nat):(a ^^^ b) ^^^ (x ^^^ y)=(a ^^^ x) ^^^ (b ^^^ y):=by
 rw[Nat.xor_assoc,<-Nat.xor_assoc b x y,Nat.xor_comm b x,Nat.xor_assoc x b y,<-Nat.xor_assoc]
theorem R3{a b:Nat}(c:a<256)(d:b<256):m3 (a ^^^ b)=m3 a ^^^ m3 b:=by
 unfold m3;rw[RZ c d,xor4]
theorem Ns(n:Nat):∀ {a b:Nat},a<256->b<256->AJ n (a ^^^ b)=AJ n a ^^^ AJ n b:=by
 induction n with
 | zero=>intro a b _ _;rfl
 | succ n e=>
   intro a b c d;simp only[AJ,R3 c d];exact e (QV c) (QV d)
theorem uy{a b:Nat}(c:a<256)(d:b<256):a ^^^ b<256:=Nat.xor_lt_two_pow (n:=8) c d
theorem uz{a b c:Nat}(e:a<256)(f:b<256)(g:c<256):fm a (b ^^^ c)=fm a b ^^^ fm a c:=by
 by_cases d:a=0
 ·subst d;simp[dR]
 ·rw[xJ d e (uy f g),xJ d e f,xJ d e g,Ns _ f g]
theorem oD{a b c:Nat}(d:a<256)(e:b<256)(f:c<256):fm (a ^^^ b) c=fm a c ^^^ fm b c:=by
 rw[ku,uz f d e,ku c a,ku c b]
def R4:Nat->Nat->Nat->Nat->Nat
 | 0,out,_,_=>out
 | f+1,out,a,b=>if b=0 then out else R4 f (if b%2=1 then out ^^^ a else out) (xt a) (b/2)
theorem sM{a b:Nat}(c:a ^^^ b=0):a=b:=by
 have:(a ^^^ b) ^^^ b=0 ^^^ b:=by rw[c]
 rwa [Nat.xor_assoc,Nat.xor_self,Nat.xor_zero,Nat.zero_xor] at this
theorem Rb(x:Nat)(a:x<256):bits .and .u8 (x:Int) 128=if 128<=x then 128 else 0:=by
 have b:=u8_and_nat x 128 a (by omega);have c:∀x,x<256->x &&& 128=if 128<=x then 128 else 0:=by decide +kernel
 rw[c x a] at b;split <;> simp_all
theorem and1(x:Nat)(b:x<256):bits .and .u8 (x:Int) 1=((x%2:Nat):Int):=by
 have a:=u8_and_nat x 1 b (by omega);rw[Nat.and_one_is_mod] at a;exact a
theorem wI{a b:Nat}(c:a=b):Ending.returned (.int .u8 (a:Int))=returned (.int .u8 (b:Int)):=by rw[c]
theorem Ld(a:Nat)(T:a<256)(w:World):
 Calls prog 339 #[.int .u8 a,.int .u8 3] w λb n=>b=returned (.int .u8 (m3 a:Nat))/\w=n:=by
 go_enter func339,ntmps339;go_wp2
 refine zS 0 (λm y n=>∃(b c d:Nat) (z A u8 B C D E F G H I J K L M N O P Q R:Value),(c<m/\c<256/\b<256/\d<256/\R4 m d b c=m3 a/\w=n)/\
  y= { tmps:=#[.int .u8 b,.int .u8 c,undef,undef,.int .u8 0,.int .u8 d,z,A,u8,B,C,D,E,F,G,H,I,J,K,L,M,N,O,P,Q,R],defers:=[] }) 4 rfl ?_ ?_
 ·have e:R4 4 0 a 3=m3 a:=by simp[R4,m3]
  have f:=ae e;clear e;go_wp2;exact⟨a,3,0,_,_,_,_,_,_,_,_,_,_,_,_,_,_,_,_,_,_,_,_,⟨by omega,by omega,T,by omega,f.o,by first | rfl | trivial⟩,rfl⟩
 ·rintro m y n ⟨b,c,d,z,A,u8,B,C,D,E,F,G,H,I,J,K,L,M,N,O,P,Q,R,⟨U,V,o,p,q,rfl⟩,rfl⟩
  obtain⟨i,rfl⟩:∃i,m=i+1:=⟨m-1,by omega⟩;by_cases u:c=0
  ·subst u
   have e:d=m3 a:=(by simpa[R4] using q);have f:=ae e;clear q e;go_wp2;simp only[Exit.jump];go_ret;exact⟨wI f.o,rfl⟩
  ·have W:((c:Int) == 0)=false:=by simpa using u
   have e:R4 i (if c%2=1 then d ^^^ b else d) (xt b) (c/2)=m3 a:=by
    have:=q;rw[R4,bA u] at this;exact this
   have f:=ae e;clear q e;have r:=and1 c (by omega);have s:=Rb b o;have X:=u8_xor_nat d b p o;have S:=uy p o;have t:=QU o;by_cases l:c%2=1 <;> by_cases g:128<=b
   ·have j:=u8_xor_nat (2*b%256) 27 (Nat.mod_lt _ (by omega)) (by omega)
    have e:2*b%256 ^^^ 27=xt b:=(by unfold xt;rw[bu g]);rw[bu g] at s;rw[show((2*b%256:Nat):Int)=(b:Int)*2%256 by omega,e] at j;have v:bits .xor .u8 ((b:Int)*2%256) 27=((xt b:Nat):Int):=j;clear e j;rw[l] at r;rw[bu l] at f;generalize xt b=k at*;generalize d ^^^ b=x at*;go_wp2;go_step3;exact⟨rfl,i,by omega,k,c/2,x,_,_,_,_,_,_,_,_,_,_,_,_,_,_,_,_,_,_,_,_,⟨by omega,by omega,t,S,f.o,rfl⟩,rfl⟩
   ·have e:2*b=xt b:=by unfold xt;rw[bA g]
    rw[bA g] at s;have v:(b:Int)*2=((xt b:Nat):Int):=(by rw[<-e];omega);clear e;rw[l] at r;rw[bu l] at f;generalize xt b=k at*;generalize d ^^^ b=x at*;go_wp2;go_step3;exact⟨rfl,i,by omega,k,c/2,x,_,_,_,_,_,_,_,_,_,_,_,_,_,_,_,_,_,_,_,_,⟨by omega,by omega,t,S,f.o,rfl⟩,rfl⟩
   ·have j:=u8_xor_nat (2*b%256) 27 (Nat.mod_lt _ (by omega)) (by omega)
    have e:2*b%256 ^^^ 27=xt b:=(by unfold xt;rw[bu g]);rw[bu g] at s;rw[show((2*b%256:Nat):Int)=(b:Int)*2%256 by omega,e] at j;have v:bits .xor .u8 ((b:Int)*2%256) 27=((xt b:Nat):Int):=j;clear e j;have x:c%2=0:=(by omega);rw[x] at r;rw[bA l] at f;generalize xt b=k at*;go_wp2;go_step3;exact⟨rfl,i,by omega,k,c/2,d,_,_,_,_,_,_,_,_,_,_,_,_,_,_,_,_,_,_,_,_,⟨by omega,by omega,t,p,f.o,rfl⟩,rfl⟩
   ·have e:2*b=xt b:=by unfold xt;rw[bA g]
    rw[bA g] at s;have v:(b:Int)*2=((xt b:Nat):Int):=(by rw[<-e];omega);clear e;have x:c%2=0:=(by omega);rw[x] at r;rw[bA l] at f;generalize xt b=k at*;go_wp2;go_step3;exact⟨rfl,i,by omega,k,c/2,d,_,_,_,_,_,_,_,_,_,_,_,_,_,_,_,_,_,_,_,_,⟨by omega,by omega,t,p,f.o,rfl⟩,rfl⟩
def dV(k:Nat):Array Value:=((range 255).map λa=>Value.int .u8 ((if a<k then ex a else 0:Nat):Int)).toArray
theorem gY(k:Nat):(dV k).size=255:=by simp[dV]
theorem Eg:dV 0=zeroCells332:=by kernel_rfl
theorem lS(k i:Nat)(a:i<255):(dV k)[i]? =some (Value.int .u8 ((if i<k then ex i else 0:Nat):Int)):=by
 simp[dV,a]
theorem Ij(k:Nat)(d:k<255):(dV k).setIfInBounds k (.int .u8 (ex k))=dV (k+1):=by
 apply Array.ext_getElem?;intro a;rw[Array.getElem?_setIfInBounds];by_cases b:a<255
 ·rw[lS _ _ b,lS _ _ b]
  by_cases c:k=a
  ·subst c
   simp[gY,d]
  ·have:(a<k+1)=(a<k):=by simp only[eq_iff_iff];omega
   simp[c,this]
 ·rw[bA (by omega),Array.getElem?_eq_none (by rw[gY];omega),Array.getElem?_eq_none (by rw[gY];omega)]
theorem Ik(w:World):
 Calls prog 275 #[] w λc a=>c=returned (.agg (dV 255))/\Below w.heap.size w a:=by
 go_enter func275,ntmps275;go_wp2_with fail;rw[<-Eg];have a:=Blk.new w 332 (dV 0);have f:Below w.heap.size w (w.alloc (cells (dV 0) 332)):=(aC _ _).alloc (aj _) _;generalize w.alloc (cells (dV 0) 332)=k at*;have g:=ae a;clear a;go_loopw [1,3] (λd b wr=>∃a:Nat,a<=255/\b=int i64 a/\d=.int .u8 (ex a:Nat)/\Sz (Blk wr w.heap.size 332 (dV a))/\Below w.heap.size w wr) (λ_ b _=>255-(intOf b).toNat)
 case atStart=>exact⟨0,by omega,rfl,rfl,g,f⟩
 case round=>
  obtain⟨a,l,rfl,rfl,b,d⟩:=hrel;by_cases e:a<255
  ·have m:=(b.o.cell a).trans (lS a a e)
   have n:=b.o.frozen a;have i:=ae (Ij a e);have j:=(uN a).2;go_wp2_with fail;refine(Ld (ex a) j _).mono ?_;rintro c o ⟨rfl,rfl⟩;go_wp2_with fail;go_roundw
   case rel=>exact⟨a+1,by omega,by go_num,rfl,by have:=b.o.set a (.int .u8 (ex a:Nat));rw[i.o] at this;exact this,d.setCell (by simp) _⟩
   case measure=>simp[intOf];omega
  ·obtain rfl:a=255:=by omega
   go_wp2_with (first
    | (refine wpList_load_row rfl 332 _ rfl w.heap.size rfl 332 (dV 255) (0,0) _ b.o underlying332 rfl (by kernel_rfl) ?_)
    | (refine wpList_store_row rfl 332 _ _ rfl w.heap.size (dV 255) rfl rfl 332 (dV 255) b.o (by kernel_rfl) rfl (by kernel_rfl) ?_))
   exact bodyPost_ret (results_cell_row rfl _ _ w.heap.size 332 (dV 255) (0,0) _ rfl (b.o.row _) underlying332 rfl (by kernel_rfl)) rfl ⟨rfl,bS d (aj _) _⟩
def iK(k:Nat):Array Value:=((range 256).map λa=>Value.int .i64 ((if a≠0/\lg a<k then lg a else 0:Nat):Int)).toArray
theorem qG(k:Nat):(iK k).size=256:=by simp[iK]
theorem Eh:iK 0=zeroCells334:=by kernel_rfl
theorem oP(k i:Nat)(a:i<256):(iK k)[i]? =some (Value.int .i64 ((if i≠0/\lg i<k then lg i else 0:Nat):Int)):=by
 simp[iK,a]
theorem Il(k:Nat)(e:k<255):(iK k).setIfInBounds (ex k) (int i64 k)=iK (k+1):=by
 have i:=Nl e;have g:=Nn e;apply Array.ext_getElem?;intro a;rw[Array.getElem?_setIfInBounds];by_cases b:a<256
 ·rw[oP _ _ b,oP _ _ b]
  by_cases c:ex k=a
  ·subst c
   rw[bu rfl,bu (by rw[qG];exact b),bu ⟨by omega,by omega⟩,g]
  ·rw[bA c]
   have:(a≠0/\lg a<k+1)=(a≠0/\lg a<k):=by
    simp only[eq_iff_iff];constructor
    ·rintro⟨d,h⟩
     refine⟨d,?_⟩;rcases bD (lg a) k with f | f
     ·exact f
     ·have:lg a=k:=by omega
      exact absurd (by rw[<-this];exact GD (by omega) b) c
    ·rintro⟨d,h⟩;exact⟨d,by omega⟩
   simp only[this]
 ·rw[bA (by omega),Array.getElem?_eq_none (by rw[qG];omega),Array.getElem?_eq_none (by rw[qG];omega)]
theorem OQ(w:World):
 Calls prog 276 #[.agg (dV 255)] w λa b=>a=returned (.agg (iK 255))/\Below w.heap.size w b:=by
 have b:∀(a:Nat),a<255->∀w:World,(Instr.index 332 (.agg (dV 255)) (int i64 a)).run prog w=.ok (.int .u8 (ex a:Nat)) w:=λa c w=>by
  have d:=lS 255 a c;rw[bu c] at d;exact wM 332 5 255 _ _ _ a _ underlying332 underlying5 (by kernel_rfl) c d
 have g:=ae b;clear b;go_enter func276,ntmps276
 go_wp2_with (refine wpList_load_row rfl 332 _ rfl w.heap.size rfl 332 (dV 255) (0,0) _ ?hb underlying332 rfl (by kernel_rfl) ?_)
 case hb=>exact(Blk.new w 332 (dV 255)).alloc _
 rw[<-Eh];have i:Below w.heap.size w ((w.alloc (cells (dV 255) 332)).alloc (cells (iK 0) 334)):=((aC _ _).alloc (aj _) _).alloc (by simp) _
 have j:Sz (Blk ((w.alloc (cells (dV 255) 332)).alloc (cells (iK 0) 334)) (w.heap.size+1) 334 (iK 0)):=by
  have:=Blk.new (w.alloc (cells (dV 255) 332)) 334 (iK 0);rw[show(w.alloc (cells (dV 255) 332)).heap.size=w.heap.size+1 by simp] at this;exact this
 generalize (w.alloc (cells (dV 255) 332)).alloc (cells (iK 0) 334)=n at*;go_loopw [6] (λb wr=>∃a:Nat,a<=255/\b=int i64 a/\Sz (Blk wr (w.heap.size+1) 334 (iK a))/\Below w.heap.size w wr) (λb _=>255-(intOf b).toNat)
 case atStart=>exact⟨0,by omega,rfl,j,i⟩
 case round=>
  obtain⟨a,c,rfl,b,hb⟩:=hrel;by_cases e:a<255
  ·have k:=(uN a).2
   have o:=(b.o.cell (ex a)).trans (oP a (ex a) k);have p:=b.o.frozen (ex a);have l:=ae (Il a e);have q:=g.o a e;generalize f:ex a=m at*;have r:=ae f;clear f;go_wp2_with fail;go_roundw
   case rel=>exact⟨a+1,by omega,by go_num,by have:=b.o.set m (int i64 (a:Nat));rw[l.o] at this;exact this,hb.setCell (by simp) _⟩
   case measure=>simp[intOf];omega
  ·obtain rfl:a=255:=by omega
   go_wp2_with (first
    | (refine wpList_load_row rfl 334 _ rfl (w.heap.size+1) rfl 334 (iK 255) (0,0) _ b.o underlying334 rfl (by kernel_rfl) ?_)
    | (refine wpList_store_row rfl 334 _ _ rfl (w.heap.size+1) (iK 255) rfl rfl 334 (iK 255) b.o (by kernel_rfl) rfl (by kernel_rfl) ?_))
   exact bodyPost_ret (results_cell_row rfl _ _ (w.heap.size+1) 334 (iK 255) (0,0) _ rfl (b.o.row _) underlying334 rfl (by kernel_rfl)) rfl ⟨rfl,bS hb (by omega) _⟩
def qX:Array Value:=dV 255++iK 255
theorem Js:prog.built 337 [(0,.agg (dV 255)),(1,.agg (iK 255))]=some qX:=by kernel_rfl
def Fld(w:World)(g:Nat):Prop:=Blk w g 337 qX
theorem yg{w w':World}{B b o:Nat}{a:List Value}(d:Below B w w')(e:w.rangeAt b o a)(f:b<B):w'.rangeAt b o a:=
 λc g h=>(d.cell (p:=⟨b,o+c,none⟩) f).trans (e c g h)
theorem BS{P:Program}{o:Oper}{a:Act}{w:World}{K:Act->World->Prop}{Q:Exit->Act->World->Prop}(t:TypeId)(b:Array (Nat×Operand))(f:o.op=.build t b)(cells:Array Value)
 (c:List (Nat×Value))(d:(b.map λ(e,g)=>(e,a.eval g)).toList=c)(e:P.built t c=some cells)(g:K (a.put o.dst (.agg cells)) w):o.wp P a w K Q:=by
 refine wp_build t b f (by rw[d,e];rfl) ?_;rw[d,e];exact g
theorem RB:∀v∈(dV 255).toList,v.oneCell'=true:=by
 intro v a;simp only[dV,aZ] at a;obtain⟨b,_,rfl⟩:=a;rfl
theorem qU(w:World):
 Calls prog 216 #[] w λj b=>∃g,j=returned (pointer (some ⟨g,0,none⟩))/\w.heap.size<=g/\Fld b g/\Below w.heap.size w b:=by
 go_enter func216,ntmps216;go_wp2_with fail;refine(Ik _).mono ?_;rintro j a ⟨rfl,k⟩
 go_wp2_with (refine wpList_store_row rfl 332 _ _ rfl a.heap.size (dV 255) rfl rfl 332 zeroCells332 ?hb (by kernel_rfl) (by kernel_rfl) (by kernel_rfl) ?_)
 case hb=>exact Blk.new _ _ _
 have t:(((a.alloc (Obj.cells zeroCells332 332)).setRow a.heap.size (dV 255))).rangeAt a.heap.size 0 (dV 255).toList:=by
  have:=World.rangeAt_of_block ((Blk.new a 332 zeroCells332).row (dV 255)) 0 255;simpa[gY,Array.extract_eq_self_of_le] using this
 have l:Below w.heap.size w ((a.alloc (Obj.cells zeroCells332 332)).setRow a.heap.size (dV 255)):=bS (k.alloc k.size _) k.size _;have u:a.heap.size<((a.alloc (Obj.cells zeroCells332 332)).setRow a.heap.size (dV 255)).heap.size:=by simp
 generalize ((a.alloc (Obj.cells zeroCells332 332)).setRow a.heap.size (dV 255))=x at*;generalize a.heap.size=e at*;have o:=Js;have d:=λw=>OQ w;have f:=underlying332;have n:(dV 255).toList.length=255:=by simp[gY]
 have m:(prog.info? 332).map (·.size)=some (dV 255).toList.length:=by rw[n];kernel_rfl
 have r:=RB;have c:dV 255=(dV 255).toList.toArray:=by simp
 simp only[Act.put];rw[c] at o d;rw[c];clear c;generalize (dV 255).toList=c at*;have y:=ae d;clear d;have p:x.drew.rangeAt e 0 c:=t;refine wp_region_held_drew (S:=λb=>b.rangeAt e 0 c) (by kernel_rfl) p (λq=> ?_);refine wpAnyH_take (i:=0) (v:=.agg c.toArray) rfl (by kernel_rfl) (by kernel_rfl) (by kernel_rfl) (λ_ _ _ h=>h) (yieldsIf_load_mid (by rfl) _ _ rfl e 0 rfl c _ (λ_ h=>h) f rfl m) q ?_;simp only[Act.put,setIfInBounds_toArray];refine wpAnyH_take (i:=1) (v:=.agg c.toArray) rfl (by kernel_rfl) (by kernel_rfl) (by kernel_rfl) (λ_ _ _ h=>h) (yieldsIf_load_mid (by rfl) _ _ rfl e 0 rfl c _ (λ_ h=>h) f rfl m) q ?_;simp only[Act.put];clear f m n r;refine wpAnyH_ready (rs:=[2]) (by kernel_rfl) (by simp) ?_;refine AllReadyH.cons rfl (λd b=> ?_) AllReadyH.nil;go_simp;refine(y.o _).mono ?_;rintro j r ⟨rfl,m⟩;have f:r.rangeAt e 0 c:=yg m p (by simpa using u);refine b.out _ _ f (λn=> ?_);clear b d;refine wpAnyH_ready (rs:=[3]) (by kernel_rfl) (by simp) ?_;refine AllReadyH.cons rfl (λd b=> ?_) AllReadyH.nil;rw[bu (by rfl)];refine BS _ _ rfl qX [(0,.agg c.toArray),(1,.agg (iK 255))] (by simp[go_sem]) o ?_;refine b.out _ _ f (λn=> ?_);clear b d;refine wpAnyH_ready (rs:=[4]) (by kernel_rfl) (by simp) ?_;refine AllReadyH.cons rfl (λd b=> ?_) AllReadyH.nil;go_simp;refine b.out _ _ (World.rangeAt_alloc f _) (λn=> ?_);clear b d;refine wpAnyH_ready (rs:=[5]) (by kernel_rfl) (by simp) ?_;refine AllReadyH.cons rfl (λd b=> ?_) AllReadyH.nil;go_simp;refine b.out _ _ (World.rangeAt_alloc f _) (λn=> ?_);clear b d;refine wpAnyH_done (by kernel_rfl) ?_ _;go_wp2_with fail;go_ret;have s:w.heap.size<=r.heap.size:=aP l.size (by simpa using m.size);exact⟨_,rfl,s,Blk.new _ _ _,(l.drew.trans (m.mono (by simpa using l.size))).alloc s _⟩
theorem vg{w:World}{g:Nat}(b:Fld w g){i:Nat}(a:i<255):w.cell? ⟨g,i,none⟩=some (.int .u8 (ex i:Nat)):=by
 rw[b.cell i];unfold qX;rw[Array.getElem?_append,bu (by rw[gY];exact a),lS 255 i a,bu a]
theorem zP{w:World}{g:Nat}(c:Fld w g){a:Nat}(d:a≠0)(b:a<256):w.cell? ⟨g,255+a,none⟩=some (int i64 (lg a:Nat)):=by
 rw[c.cell (255+a)];unfold qX;rw[Array.getElem?_append,bA (by rw[gY];omega),gY,show 255+a-255=a by omega,oP 255 a b,bu ⟨d,zn (by omega) b⟩]
theorem Fld.below{w w':World}{g B:Nat}(a:Fld w g)(b:Below B w w')(c:g<B):Fld w' g:=Blk.below a b c
theorem zQ(g:Nat)(w:World):
 Calls prog 362 #[pointer (some ⟨g,0,none⟩)] w λa b=>a=returned (pointer (some ⟨g,0,none⟩))/\w=b:=by
 go_enter func362,ntmps362;go_wp2_with fail;go_ret;exact⟨rfl,rfl⟩
theorem Re(w:World):
 Calls prog 362 #[pointer none] w λa b=>∃g,a=returned (pointer (some ⟨g,0,none⟩))/\w.heap.size<=g/\Fld b g/\Below w.heap.size w b:=by
 go_enter func362,ntmps362;go_wp2_with fail;refine(qU _).mono ?_;rintro a e ⟨g,rfl,b,c,d⟩;go_wp2_with fail;go_ret;exact⟨g,rfl,b,c,d⟩
theorem fm_ne{a b:Nat}(c:a≠0)(d:b≠0):fm a b=ex ((lg a+lg b)%255):=by unfold fm;rw[bA (by omega)]
theorem fi_ne{a:Nat}(b:a≠0):fi a=ex ((255-lg a)%255):=by unfold fi;rw[bA b]
def Fp(w:World)(p:SE):Prop:=p=none\/∃a,p=some ⟨a,0,none⟩/\Fld w a
theorem wJ(g a b:Nat)(k:a<256)(l:b<256)(w:World)(i:Fld w g):
 Calls prog 307 #[pointer (some ⟨g,0,none⟩),.int .u8 a,.int .u8 b] w λm c=>m=returned (.int .u8 (fm a b:Nat))/\∃j,c=w.drewN j:=by
 by_cases e:a=0
 ·subst e
  have c:=ae (dR b);go_enter func307,ntmps307;go_wp2_with fail;go_ret;exact⟨wI c.o.symm,0,rfl⟩
 ·have u:((a:Int) == 0)=false:=by simpa using e
  by_cases f:b=0
  ·subst f
   have c:=ae (bU a);go_enter func307,ntmps307;go_wp2_with fail;go_ret;exact⟨wI c.o.symm,0,rfl⟩
  ·have v:((b:Int) == 0)=false:=by simpa using f
   have n:=ae (fm_ne e f);have x:=zP i e k;have y:=zP i f l;have z:=zn (by omega) k;have A:=zn (by omega) l;have B:=vg i (Nat.mod_lt (lg a+lg b) (by omega:255>0));generalize lg a=c at*;generalize lg b=d at*;have o:IntKind.i64.wrap ((c:Int)+d)=c+d:=(by rw[IntKind.wrap_i64];omega);have p:((c:Int)+d).tmod 255=(c+d)%255:=(by rw[Int.tmod_eq_emod_of_nonneg (by omega)]);have q:(((c:Int)+d)%255).toNat=(c+d)%255:=(by omega);have r:(0:Int)<=((c:Int)+d)%255:=(by omega);have s:((c:Int)+d)%255<255:=(by omega);have t:IntKind.i64.wrap (((c:Int)+d)%255)=((c:Int)+d)%255:=(by rw[IntKind.wrap_i64];omega);go_enter func307,ntmps307;go_wp2_with fail;refine(zQ g _).mono ?_;rintro m C ⟨rfl,rfl⟩;go_wp2_with fail
   go_quiet (fail)
   clear o p q r s t;go_wp2_with fail;go_ret;exact⟨wI n.o.symm,by first | exact⟨_,rfl⟩ | exact⟨_,World.drewN_drewN _ _ _⟩⟩
theorem Rf(g a:Nat)(d:a<256)(w:World)(e:Fld w g):
 Calls prog 335 #[pointer (some ⟨g,0,none⟩),.int .u8 a] w λf b=>f=returned (.int .u8 (fi a:Nat))/\∃j,b=w.drewN j:=by
 by_cases c:a=0
 ·subst c
  go_enter func335,ntmps335;go_wp2_with fail;go_ret;exact⟨rfl,0,rfl⟩
 ·have o:((a:Int) == 0)=false:=by simpa using c
  have k:=ae (fi_ne c);have p:=zn (by omega) d;go_enter func335,ntmps335;go_wp2_with fail;refine(zQ g _).mono ?_;rintro f q ⟨rfl,rfl⟩;have r:=zP e c d;have s:=vg e (Nat.mod_lt (255-lg a) (by omega:255>0));generalize lg a=b at*;have t:(255-b)%255<255:=Nat.mod_lt _ (by omega);have l:(255-(b:Int)).tmod 255=((255-b)%255:Nat):=(by rw[Int.tmod_eq_emod_of_nonneg (by omega)];omega);generalize (255-b)%255=i at*;have m:IntKind.i64.wrap (255-(b:Int))=255-b:=(by rw[IntKind.wrap_i64];omega);have n:IntKind.i64.wrap (i:Int)=i:=(by rw[IntKind.wrap_i64];omega);go_wp2_with fail
  go_quiet (fail)
  clear m l n;go_wp2_with fail;go_ret;exact⟨wI k.o.symm,by first | exact⟨_,rfl⟩ | exact⟨_,World.drewN_drewN _ _ _⟩⟩
def exI(n:Int):Nat:=ex (n%255).toNat
theorem Lg(n:Int):(if n.tmod 255<0 then n.tmod 255+255 else n.tmod 255)=n%255:=by
 rw[Int.tmod_eq_emod];have a:=Int.emod_nonneg n (show(255:Int)≠0 by omega);have b:=Int.emod_lt_of_pos n (show(0:Int)<255 by omega);split <;> split <;> omega
theorem Rh(g:Nat)(n:Int)(r: -9223372036854775808<=n/\n<=9223372036854775807)(w:World)(i:Fld w g):
 Calls prog 316 #[pointer (some ⟨g,0,none⟩),int i64 n] w λd a=>d=returned (.int .u8 (exI n:Nat))/\∃j,a=w.drewN j:=by
 have e:=Int.emod_nonneg n (show(255:Int)≠0 by omega);have m:=Int.emod_lt_of_pos n (show(0:Int)<255 by omega);have a:=ae (Lg n);have f:exI n=ex (n%255).toNat:=rfl;obtain⟨b,c⟩:=Int.eq_ofNat_of_zero_le e;rw[c] at m a;rw[f,c,Int.toNat_natCast];have k:b<255:=by omega
 clear f c e;by_cases e:n.tmod 255<0
 ·obtain⟨f,o⟩:∃f,f=n.tmod 255:=⟨_,rfl⟩
  have c:=a.o;rw[bu e] at c;have l:f=(b:Int)-255:=(by omega);subst o;go_enter func316,ntmps316;rw[show n.tmod 255=(b:Int)-255 from l] at e;have s:n.tmod 255=(b:Int)-255:=l;clear a c;go_wp2_with fail;refine(zQ g _).mono ?_;rintro d p ⟨rfl,rfl⟩;have q:=vg i k;go_wp2_with fail;go_ret;exact⟨rfl,0,rfl⟩
 ·have c:=a.o
  rw[bA e] at c;clear a;go_enter func316,ntmps316;go_wp2_with fail;refine(zQ g _).mono ?_;rintro d p ⟨rfl,rfl⟩;have q:=vg i k;go_wp2_with fail;go_ret;exact⟨rfl,0,rfl⟩
theorem Fp.of{w:World}{g:Nat}(a:Fld w g):Fp w (some ⟨g,0,none⟩):=.inr ⟨g,rfl,a⟩
theorem Fp.below{w w':World}{p:SE}{B:Nat}(a:Fp w p)(b:Below B w w')(c:w.heap.size<=B):Fp w' p:=by
 rcases a with rfl | ⟨g,rfl,hF⟩
 ·exact .inl rfl
 ·exact .inr ⟨g,rfl,hF.below b (aW (Blk.lt hF) c)⟩
def kW(c:Nat)(a b:Nat->Nat):Nat->Nat:=λd=>b d ^^^ fm c (a d)
def vz:Nat->Nat:=λ_=>0
def Vb(v:Nat->Nat):Prop:=∀a,v a<256
theorem R5:Vb vz:=λ_=>(by decide:(0:Nat)<256)
theorem QW{c:Nat}{a b:Nat->Nat}(d:Vb b):Vb (kW c a b):=λe=>uy (d e) (jq _ _)
inductive Spn (M:List (Nat->Nat)):(Nat->Nat)->Prop where
 | zero:Spn M vz
 | add (c:Nat) (r v:Nat->Nat):c<256->r∈M->Spn M v->Spn M (kW c r v)
theorem Fb(a b:Nat):a ^^^ b ^^^ b=a:=by rw[Nat.xor_assoc,Nat.xor_self,Nat.xor_zero]
theorem Nt(a b c:Nat):a ^^^ b ^^^ c=a ^^^ c ^^^ b:=by rw[Nat.xor_assoc,Nat.xor_comm b c,<-Nat.xor_assoc]
theorem jL(a:Nat)(b:a<256):fm 1 a=a:=by rw[ku,qY a b]
theorem Nu{c:Nat}{a b:Nat->Nat}:kW c a (kW c a b)=b:=funext λd=>Fb _ _
theorem C8{a b:Nat->Nat}:kW 0 a b=b:=funext λc=>by unfold kW;rw[dR,Nat.xor_zero]
theorem R6{c d:Nat}{a b v:Nat->Nat}(f:c<256)(g:d<256)(h:Vb a)(i:Vb b):kW c (kW d a b) v=kW c b (kW (fm c d) a v):=funext λe=>by
 unfold kW;rw[uz f (i e) (jq _ _),<-mh c d (a e) f g (h e),<-Nat.xor_assoc,Nt]
theorem Spn.vb{M:List (Nat->Nat)}{v:Nat->Nat}(a:Spn M v):Vb v:=by
 induction a with
 | zero=>exact R5
 | add c r v hc hr _ ih=>exact QW ih
theorem Spn.ax{M:List (Nat->Nat)}(b:∀r∈M,Vb r){u v:Nat->Nat}{c:Nat}(e:c<256)(f:Spn M u)(a:Spn M v):Spn M (kW c u v):=by
 induction f generalizing v with
 | zero=>
   have:kW c vz v=v:=funext λg=>(by unfold kW vz;rw[bU,Nat.xor_zero]);rw[this];exact a
 | add d r u hd hr hs ih=>
   rw[R6 e hd (b r hr) hs.vb];exact ih (Spn.add _ r v (jq _ _) hr a)
theorem Spn.mem{M:List (Nat->Nat)}(b:∀r∈M,Vb r){r:Nat->Nat}(a:r∈M):Spn M r:=by
 have:kW 1 r vz=r:=funext λc=>by unfold kW vz;rw[Nat.zero_xor,jL _ (b r a c)]
 rw[<-this];exact Spn.add 1 r vz (by decide) a .zero
theorem Spn.trans{M N:List (Nat->Nat)}(a:∀r∈N,Vb r)(b:∀r∈M,Spn N r){v:Nat->Nat}(d:Spn M v):Spn N v:=by
 induction d with
 | zero=>exact .zero
 | add c r v hc hr _ ih=>exact Spn.ax a hc (b r hr) ih
theorem Spn.sub{M N:List (Nat->Nat)}(a:∀r∈M,r∈N){v:Nat->Nat}(b:Spn M v):Spn N v:=by
 induction b with
 | zero=>exact .zero
 | add c r v hc hr _ ih=>exact .add c r v hc (a r hr) ih
structure RedV (M:List (Nat->Nat)) (ls:SC):Prop where
 len:M.length=ls.length
 up:ls.Pairwise (·< ·)
 one:∀(i:Nat) r l,M[i]? =some r->ls[i]? =some l->r l=1
 zero:∀(i k:Nat) r l,M[k]? =some r->ls[i]? =some l->k≠i->r l=0
 low:∀(i:Nat) r l,M[i]? =some r->ls[i]? =some l->∀j,j<l->r j=0
 byt:∀r∈M,Vb r
def qA:List (Nat->Nat)->SC->(Nat->Nat)->Nat->Nat
 | r :: M,l :: ls,w=>kW (w l) r (qA M ls w)
 | _,_,_=>vz
theorem R7(M:List (Nat->Nat)):∀(ls:SC) (c:Nat) (u v:Nat->Nat),c<256->Vb u->Vb v->(∀r∈M,Vb r)->qA M ls (kW c u v)=kW c (qA M ls u) (qA M ls v):=by
 have j:∀c,kW c vz vz=vz:=λc=>funext λa=>by unfold kW vz;rw[bU];rfl
 induction M with
 | nil=>intro ls c u v d g h i;simp only[qA,j]
 | cons r M e=>
   intro ls c u v d g h i;cases ls with
   | nil=>simp only[qA,j]
   | cons b ls=>
     simp only[qA];rw[e ls c u v d g h λr f=>i r (mem_cons_of_mem _ f)];funext a;have f:=i r mem_cons_self a
     have k:Vb (qA M ls u):=by
      clear e
      have:∀(M:List (Nat->Nat)) ls,Vb (qA M ls u):=by
       intro M
       induction M with
       | nil=>intro ls;exact R5
       | cons r M e=>intro ls;cases ls with
         | nil=>exact R5
         | cons b ls=>exact QW (e ls)
      exact this M ls
     show qA M ls v a ^^^ fm c (qA M ls u a) ^^^ fm (v b ^^^ fm c (u b)) (r a)=(qA M ls v a ^^^ fm (v b) (r a)) ^^^ fm c (qA M ls u a ^^^ fm (u b) (r a));rw[oD (h b) (jq _ _) f,uz d (k a) (jq _ _),mh c (u b) (r a) d (g b) f]
     ac_rfl
theorem xK(M:List (Nat->Nat)):∀(ls:SC) (w:Nat->Nat),(∀l∈ls,w l=0)->qA M ls w=vz:=by
 induction M with
 | nil=>intro ls w a;rfl
 | cons e M b=>
   intro ls w a;cases ls with
   | nil=>rfl
   | cons l ls=>
     simp only[qA];rw[b ls w λc d=>a c (mem_cons_of_mem _ d),a l mem_cons_self,C8]
theorem C9(M:List (Nat->Nat)):∀(ls:SC) (w:Nat->Nat) (i:Nat) (r:Nat->Nat),(∀r∈M,Vb r)->M.length=ls.length->M[i]? =some r->(∀(k:Nat) l,ls[k]? =some l->w l=if k=i then 1 else 0)->qA M ls w=r:=by
 induction M with
 | nil=>intro ls w i r _ _ b;simp at b
 | cons f M j=>
   intro ls w i r g h b c;cases ls with
   | nil=>simp at h
   | cons l ls=>
     simp only[qA];cases i with
     | zero=>
       obtain rfl:f=r:=(by simpa using b);have a:=c 0 l rfl;simp at a
       rw[a,xK M ls w λd m=>by
        obtain⟨k,e⟩:=List.getElem?_of_mem m;have:=c (k+1) d (by simpa using e);simpa using this]
       funext m;unfold kW vz;rw[Nat.zero_xor,jL _ (g f mem_cons_self m)]
     | succ i=>
       have a:=c 0 l rfl;simp at a;rw[a,C8];refine j ls w i r (λr m=>g r (mem_cons_of_mem _ m)) (by simpa using h) (by simpa using b) λk d e=> ?_;have:=c (k+1) d (by simpa using e);simpa using this
theorem RedV.unit{M:List (Nat->Nat)}{ls:SC}(b:RedV M ls){i:Nat}{r:Nat->Nat}(c:M[i]? =some r):∀(k:Nat) l,ls[k]? =some l->r l=if k=i then 1 else 0:=by
 intro k l d;split
 ·rename_i a;subst a;exact b.one k r l c d
 ·rename_i a;exact b.zero k i r l c d (λe=>a e.symm)
theorem RedV.eq_lco{M:List (Nat->Nat)}{ls:SC}(a:RedV M ls){v:Nat->Nat}(d:Spn M v):qA M ls v=v:=by
 induction d with
 | zero=>exact xK M ls vz λ_ _=>rfl
 | add c r v hc hr hs ih=>
   obtain⟨e,b⟩:=List.getElem?_of_mem hr;rw[R7 M ls c r v hc (a.byt r hr) hs.vb a.byt,ih,C9 M ls r e r a.byt a.len b (a.unit b)]
theorem RedV.eq_zero{M:List (Nat->Nat)}{ls:SC}(a:RedV M ls){v:Nat->Nat}(b:Spn M v)(c:∀l∈ls,v l=0):v=vz:=by
 rw[<-a.eq_lco b,xK M ls v c]
theorem Nv(M:List (Nat->Nat)):∀(ls:SC) (w:Nat->Nat) (j:Nat),(∀(i:Nat) r l,M[i]? =some r->ls[i]? =some l->w l=0\/r j=0)->qA M ls w j=0:=by
 induction M with
 | nil=>intro ls w j _;rfl
 | cons r M b=>
   intro ls w j a;cases ls with
   | nil=>rfl
   | cons l ls=>
     simp only[qA,kW];rw[b ls w j λi c d e f=>a (i+1) c d (by simpa using e) (by simpa using f)];have:fm (w l) (r j)=0:=Fa.2 (a 0 r l rfl rfl);rw[this];rfl
theorem RedV.row{M:List (Nat->Nat)}{ls:SC}(a:RedV M ls){i l:Nat}(b:ls[i]? =some l):∃r,M[i]? =some r:=by
 have:=(List.getElem?_eq_some_iff.1 b).1;exact⟨_,ah (by rw[a.len];exact this)⟩
theorem RedV.first{M:List (Nat->Nat)}{ls:SC}(c:RedV M ls){v:Nat->Nat}(e:Spn M v){j:Nat}(f:v j≠0)(g:∀i,i<j->v i=0):j∈ls:=by
 apply Classical.byContradiction;intro h;apply f;rw[<-c.eq_lco e];refine Nv M ls v j λi k b l d=> ?_;rcases Nat.lt_trichotomy b j with a | a | a
 ·exact .inl (g b a)
 ·exact absurd (by rw[<-a];exact mem_of_getElem? d) h
 ·exact .inr (c.low i k b l d j a)
theorem RedV.leads{M N:List (Nat->Nat)}{ls d:SC}(a:RedV M ls)(f:RedV N d)(g:∀r∈M,Spn N r):∀l∈ls,l∈d:=by
 intro l h;obtain⟨e,b⟩:=List.getElem?_of_mem h;obtain⟨r,c⟩:=a.row b;refine f.first (g r (mem_of_getElem? c)) (j:=l) (by rw[a.one e r l c b];decide) λj i=>a.low e r l c b j i
theorem sO{ls:SC}(a:ls.Pairwise (·< ·)):ls.Nodup:=a.imp λa=>Nat.ne_of_lt a
theorem Nw(ls:SC):∀a:SC,ls.Pairwise (·< ·)->a.Pairwise (·< ·)->(∀x,x∈ls↔x∈a)->ls=a:=by
 induction ls with
 | nil=>
   intro a _ _ c;cases a with
   | nil=>rfl
   | cons d a=>have:=(c d).2 mem_cons_self;simp at this
 | cons h ls k=>
   intro a i j c;cases a with
   | nil=>have:=(c h).1 mem_cons_self;simp at this
   | cons d a=>
     rw[pairwise_cons] at i j
     have b:h=d:=by
      have e:=(c h).1 mem_cons_self;have f:=(c d).2 mem_cons_self;rcases mem_cons.1 e with e | e
      ·exact e
      ·rcases mem_cons.1 f with f | f
       ·exact f.symm
       ·have:=j.1 h e
        have:=i.1 d f;omega
     subst b;congr 1;refine k a i.2 j.2 λx=> ?_;constructor
     ·intro g
      rcases mem_cons.1 ((c x).1 (mem_cons_of_mem _ g)) with b | b
      ·subst b;exact absurd (i.1 x g) (Nat.lt_irrefl _)
      ·exact b
     ·intro g
      rcases mem_cons.1 ((c x).2 (mem_cons_of_mem _ g)) with b | b
      ·subst b;exact absurd (j.1 x g) (Nat.lt_irrefl _)
      ·exact b
theorem RedV.leads_eq{M N:List (Nat->Nat)}{ls a:SC}(b:RedV M ls)(c:RedV N a)(e:∀r∈M,Spn N r)(f:∀r∈N,Spn M r):ls=a:=
 Nw ls a b.up c.up λd=>⟨b.leads c e d,c.leads b f d⟩
theorem RedV.unique{M N:List (Nat->Nat)}{ls f:SC}(b:RedV M ls)(a:RedV N f)(e:∀r∈M,Spn N r)(g:∀r∈N,Spn M r):M=N:=by
 have h:=b.leads_eq a e g;subst h;apply ext_getElem?;intro c;cases hm:M[c]? with
 | none=>
   rw[List.getElem?_eq_none_iff,b.len,<-a.len] at hm;rw[List.getElem?_eq_none hm]
 | some r=>
   have d:=(List.getElem?_eq_some_iff.1 hm).1;rw[ah (by rw[a.len,<-b.len];exact d)];have i:N[c]? =some (N[c]'(by rw[a.len,<-b.len];exact d)):=ah _;generalize N[c]'(by rw[a.len,<-b.len];exact d)=s at*;congr 1;rw[<-a.eq_lco (e r (mem_of_getElem? hm))];exact C9 N ls r c s a.byt a.len i (b.unit hm)
theorem RedV.le{M N:List (Nat->Nat)}{ls c:SC}(a:RedV M ls)(b:RedV N c)(d:∀r∈M,Spn N r):M.length<=N.length:=by
 rw[a.len,b.len];exact(sO a.up).length_le_of_subset λe f=>a.leads b d e f
theorem RedV.whole{M N:List (Nat->Nat)}{ls s:SC}(e:RedV M ls)(m:RedV N s)(w:∀r∈M,Spn N r)(C:N.length<=M.length){v:Nat->Nat}(i:Spn N v):Spn M v:=by
 have x:=e.leads m w
 have y:∀a∈s,a∈ls:=by
  intro a t;apply Classical.byContradiction;intro z;have c:(a :: ls).Nodup:=nodup_cons.2 ⟨z,sO e.up⟩
  have h:=c.length_le_of_subset (l₂:=s) λj b=>by
   rcases mem_cons.1 b with f | f
   ·subst f;exact t
   ·exact x j f
  have:=e.len;have:=m.len;simp at h;omega
 have A:∀(M:List (Nat->Nat)) ls,(∀r∈M,Vb r)->∀v:Nat->Nat,Vb v->Spn M (qA M ls v):=by
  intro M
  induction M with
  | nil=>intro ls _ v _;exact .zero
  | cons r M u=>
    intro ls b v i;cases ls with
    | nil=>exact .zero
    | cons a ls=>exact .add _ r _ (i a) mem_cons_self ((u ls (λr n=>b r (mem_cons_of_mem _ n)) v i).sub λr n=>mem_cons_of_mem _ n)
 have c:=A M ls e.byt v i.vb;have h:Spn N (kW 1 (qA M ls v) v):=Spn.ax m.byt (by decide) (c.trans m.byt w) i
 have o:kW 1 (qA M ls v) v=vz:=by
  refine m.eq_zero h λa t=> ?_;obtain⟨d,p⟩:=List.getElem?_of_mem (y a t)
  have f:qA M ls v a=v a:=by
   obtain⟨r,n⟩:=e.row p;have D:=e.unit n
   have:∀(M:List (Nat->Nat)) (b:SC) (d:Nat),M.length=b.length->b[d]? =some a->(∀(g:Nat) r,M[g]? =some r->r a=if g=d then 1 else 0)->qA M b v a=v a:=by
    intro M
    induction M with
    | nil=>intro b d c h _;cases b with
      | nil=>simp at h
      | cons j B=>simp at c
    | cons r M u=>
      intro b d c h o;cases b with
      | nil=>simp at c
      | cons j b=>
        have q:=o 0 r rfl;cases d with
        | zero=>
          obtain rfl:j=a:=(by simpa using h);simp at q;have:qA M b v j=0:=Nv M b v j λg k B l E=>.inr (by have:=o (g+1) k (by simpa using l);simpa using this);simp only[qA,kW];rw[this,q,Nat.zero_xor,qY _ (i.vb j)]
        | succ d=>
          simp at q;simp only[qA,kW];rw[q,bU,Nat.xor_zero];exact u b d (by simpa using c) (by simpa using h) λg k l=>by have:=o (g+1) k (by simpa using l);simpa using this
   refine this M ls d e.len p λg k l=> ?_;split
   ·rename_i f;subst f;exact e.one g k a l p
   ·rename_i f;exact e.zero d g k a l p f
  unfold kW;rw[f,jL _ (i.vb a),Nat.xor_self]
 have j:v=qA M ls v:=by
  funext b;have:=congrFun o b;unfold kW vz at this;rw[jL _ (c.vb b)] at this;exact sM this
 rw[j];exact c
def gt(M:List SC)(i j:Nat):Nat:=(M.getD i []).getD j 0
def nJ(c:Nat)(a b:SC):SC:=zipWith (λd e=>e ^^^ fm c d) a b
def lM(c:Nat)(a:SC):SC:=a.map λb=>fm c b
def vO(r:SC):Nat->Nat:=λa=>r.getD a 0
def swp(M:List SC)(i j:Nat):List SC:=(M.set i (M.getD j [])).set j (M.getD i [])
def dN(M:List SC)(b col k:Nat):List SC:=M.mapIdx λc a=>if c<k/\c≠b then nJ (a.getD col 0) (M.getD b []) a else a
def nK(M:List SC)(col:Nat):Nat->Nat->Option Nat
 | _,0=>none
 | i,n+1=>if gt M i col≠0 then some i else nK M col (i+1) n
def jU(M:List SC)(a col p:Nat):List SC:=(swp M a p).set a (lM (fi (gt (swp M a p) a col)) ((swp M a p).getD a []))
def kL(M:List SC)(a col:Nat):List SC×Nat:=
 match nK M col a (M.length-a) with
 | none=>(M,a)
 | some b=>(dN (jU M a col b) a col M.length,a+1)
def dI(M:List SC):Nat->List SC×Nat
 | 0=>(M,0)
 | col+1=>kL (dI M col).1 (dI M col).2 col
def wid(M:List SC):Nat:=(M.getD 0 []).length
def eT(M:List SC):List SC:=(dI M (wid M)).1.take (dI M (wid M)).2
def Wf(n:Nat)(M:List SC):Prop:=∀a∈M,a.length=n/\∀b∈a,b<256
theorem getD_lt{r:SC}(b:∀x∈r,x<256)(j:Nat):r.getD j 0<256:=by
 rcases bD j r.length with a | a
 ·rw[af,ah a];exact b _ (aQ a)
 ·rw[af,List.getElem?_eq_none a];decide
theorem iT{r:SC}(a:∀x∈r,x<256):Vb (vO r):=λb=>getD_lt a b
theorem Wf.row{n:Nat}{M:List SC}(b:Wf n M)(i:Nat):(M.getD i []=[]/\M.length<=i)\/((M.getD i []).length=n/\(∀x∈M.getD i [],x<256)/\i<M.length/\M.getD i []∈M):=by
 rcases bD i M.length with a | a
 ·rw[af,ah a]
  have:=b _ (aQ a);exact .inr ⟨this.1,this.2,a,aQ a⟩
 ·rw[af,List.getElem?_eq_none a];exact .inl ⟨rfl,a⟩
theorem Wf.lt{n:Nat}{M:List SC}(b:Wf n M)(i j:Nat):gt M i j<256:=by
 unfold gt;rcases b.row i with⟨a,_⟩ | ⟨_,a,_⟩
 ·rw[a];simp
 ·exact getD_lt a j
theorem wG{M:List SC}{i:Nat}(a:M.length<=i)(j:Nat):gt M i j=0:=by
 unfold gt;rw[af (l:=M),List.getElem?_eq_none a];simp
theorem iQ{c:Nat}{a b:SC}(d:a.length=b.length):(nJ c a b).length=b.length:=by unfold nJ;rw[length_zipWith];omega
theorem oM{c:Nat}{a b:SC}(e:a.length=b.length)(j:Nat):(nJ c a b).getD j 0=b.getD j 0 ^^^ fm c (a.getD j 0):=by
 unfold nJ;rcases bD j b.length with d | d
 ·simp only[af,List.getElem?_zipWith,ah d,ah (show j<a.length by omega),Option.getD_some]
 ·simp only[af,List.getElem?_zipWith,List.getElem?_eq_none d,List.getElem?_eq_none (show a.length<=j by omega),Option.getD_none,bU];rfl
theorem rR{c:Nat}{a b:SC}(g:∀x∈b,x<256):∀x∈nJ c a b,x<256:=by
 intro x e;unfold nJ at e;obtain⟨f,d⟩:=List.getElem?_of_mem e;rw[List.getElem?_zipWith] at d;cases ha:a[f]? with
 | none=>simp[ha] at d
 | some i=>
   cases hb:b[f]? with
   | none=>simp[ha,hb] at d
   | some h=>
     simp[ha,hb] at d;rw[<-d];exact uy (g h (mem_of_getElem? hb)) (jq _ _)
theorem jZ(c:Nat)(a:SC)(j:Nat):(lM c a).getD j 0=fm c (a.getD j 0):=by
 unfold lM;simp only[af,List.getElem?_map];cases a[j]? with
 | none=>simp[bU]
 | some b=>simp
theorem K7{a b:SC}(e:a.length=b.length):nJ 0 a b=b:=by
 refine ext_getElem? λc=> ?_;unfold nJ;rw[List.getElem?_zipWith];rcases bD c b.length with d | d
 ·simp only[ah d,ah (show c<a.length by omega),dR,Nat.xor_zero]
 ·simp only[List.getElem?_eq_none d,List.getElem?_eq_none (show a.length<=c by omega)]
theorem QH{c:Nat}{a b:SC}(d:a.length=b.length):vO (nJ c a b)=kW c (vO a) (vO b):=funext λe=>oM d e
theorem zL{n:Nat}{a b:SC}(g:a.length=n)(h:b.length=n)(c:vO a=vO b):a=b:=by
 refine ext_getElem (by omega) λd e f=> ?_;have:=congrFun c d;simpa[vO,e,f] using this
theorem FZ{n:Nat}{a:SC}(d:a.length=n)(c:∀j,j<n->a.getD j 0=0):vO a=vz:=funext λj=>by
 rcases bD j n with b | b
 ·exact c j b
 ·unfold vO vz;rw[af,List.getElem?_eq_none (by omega)];rfl
theorem oN{M:List SC}{col:Nat}:∀(n i p:Nat),nK M col i n=some p->i<=p/\p<i+n/\gt M p col≠0/\∀k,i<=k->k<p->gt M k col=0:=by
 intro n
 induction n with
 | zero=>intro i p a;simp[nK] at a
 | succ n c=>
   intro i p a;rw[nK] at a;split at a
   ·rename_i b
    obtain rfl:i=p:=(by simpa using a);exact⟨aj _,by omega,b,λk d e=>by omega⟩
   ·rename_i b
    obtain⟨d,e,f,g⟩:=c (i+1) p a;refine⟨by omega,by omega,f,λk l h=> ?_⟩;by_cases j:k=i
    ·subst j;exact Classical.byContradiction λa=>b a
    ·exact g k (by omega) h
theorem Ib{M:List SC}{col:Nat}:∀(n i:Nat),nK M col i n=none->∀k,i<=k->k<i+n->gt M k col=0:=by
 intro n
 induction n with
 | zero=>intro i a k b c;omega
 | succ n d=>
   intro i a k b c;rw[nK] at a;split at a
   ·simp at a
   ·rename_i e
    by_cases f:k=i
    ·subst f;exact Classical.byContradiction λa=>e a
    ·exact d (i+1) a k (by omega) (by omega)
def sg(a b k:Nat):Nat:=if k=a then b else if k=b then a else k
theorem rT(M:List SC)(i j:Nat):(swp M i j).length=M.length:=by simp[swp]
theorem ve{M:List SC}{i j:Nat}(d:i<M.length)(e:j<M.length)(k:Nat):(swp M i j).getD k []=M.getD (sg i j k) []:=by
 unfold swp sg;simp only[af,List.getElem?_set,length_set];by_cases b:k=i
 ·subst b
  by_cases a:j=k
  ·subst a;simp[d]
  ·simp[d,a]
 ·by_cases a:k=j
  ·subst a;simp[e,b]
  ·rw[bA (λc=>a c.symm),bA (λc=>b c.symm),bA b,bA a]
theorem gW(M:List SC)(a col p:Nat):(jU M a col p).length=M.length:=by simp[jU,rT]
theorem nM{M:List SC}{a col p:Nat}(b:a<M.length)(e:p<M.length)(k:Nat):(jU M a col p).getD k []=if k=a then lM (fi (gt M p col)) (M.getD p []) else M.getD (sg a p k) []:=by
 have c:=ve b e a;have f:sg a p a=p:=by unfold sg;simp
 rw[f] at c;unfold jU;have g:gt (swp M a p) a col=gt M p col:=by unfold gt;rw[c]
 rw[g,c];by_cases d:k=a
 ·subst d;simp[rT,b]
 ·rw[bA d,<-ve b e k]
  simp only[af,List.getElem?_set,bA (λh:a=k=>d h.symm)]
theorem gX(M:List SC)(a col k:Nat):(dN M a col k).length=M.length:=by simp[dN]
theorem jA{M:List SC}(a col k:Nat){i:Nat}(b:i<M.length):(dN M a col k).getD i []=if i<k/\i≠a then nJ (gt M i col) (M.getD a []) (M.getD i []) else M.getD i []:=by
 unfold dN gt;simp only[af,List.getElem?_mapIdx,ah b,Option.map_some,Option.getD_some]
theorem Bq(M:List SC)(a col:Nat):dN M a col 0=M:=by
 refine ext_getElem? λb=> ?_;unfold dN;rw[List.getElem?_mapIdx];cases M[b]? <;> simp
theorem uH{n:Nat}{M:List SC}(h:Wf n M){b col k:Nat}(f:k<M.length):dN M b col (k+1)=if k=b then dN M b col k else (dN M b col k).set k (nJ (gt M k col) (M.getD b []) (M.getD k [])):=by
 split
 ·rename_i e
  subst e;refine ext_getElem? λa=> ?_;unfold dN;simp only[List.getElem?_mapIdx];cases M[a]? with
  | none=>rfl
  | some g=>
    simp only[Option.map_some];by_cases d:a=k
    ·subst d;simp
    ·by_cases c:a<k
     ·simp[c,show a<k+1 by omega]
     ·simp[c,show ¬a<k+1 by omega]
 ·rename_i e
  refine ext_getElem? λa=> ?_;rw[List.getElem?_set];by_cases d:k=a
  ·subst d
   rw[bu rfl,bu (by rw[gX];exact f)];unfold dN gt;simp only[List.getElem?_mapIdx,af,ah f,Option.map_some,Option.getD_some];rw[bu ⟨by omega,e⟩]
  ·rw[bA d]
   unfold dN;simp only[List.getElem?_mapIdx];cases M[a]? with
   | none=>rfl
   | some g=>
     simp only[Option.map_some];by_cases c:a<k
     ·simp[c,show a<k+1 by omega]
     ·simp[c,show ¬a<k+1 by omega]
theorem oO{M:List SC}{i:Nat}(a:i<M.length):M.getD i []∈M:=by
 rw[af,ah a];exact aQ a
theorem yN{n:Nat}{M:List SC}(b:∀i,i<M.length->(M.getD i []).length=n/\∀x∈M.getD i [],x<256):Wf n M:=by
 intro d c;obtain⟨i,a,rfl⟩:=bH c;have:=b i a;rw[af,ah a] at this;exact this
theorem Wf.get{n:Nat}{M:List SC}(a:Wf n M){i:Nat}(b:i<M.length):(M.getD i []).length=n/\∀x∈M.getD i [],x<256:=a _ (oO b)
theorem yO{a b k m:Nat}(c:a<m)(d:b<m)(e:k<m):sg a b k<m:=by unfold sg;split;exact d;split;exact c;exact e
theorem K8(a b k:Nat):sg a b (sg a b k)=k:=by
 unfold sg;by_cases d:k=a
 ·subst d
  by_cases c:b=k
  ·simp[c]
  ·simp[c]
 ·by_cases c:k=b
  ·subst c;simp[d]
  ·simp[d,c]
theorem zM{n:Nat}{M:List SC}(b:Wf n M){c col p:Nat}(d:c<M.length)(a:p<M.length):Wf n (jU M c col p):=by
 refine yN λg e=> ?_;rw[gW] at e;rw[nM d a g];split
 ·have:=b.get a
  exact⟨by rw[lM,aG];exact this.1,λh f=>by
   simp only[lM,aZ] at f;obtain⟨h,_,rfl⟩:=f;exact jq _ _⟩
 ·exact b.get (yO d a e)
theorem tH{n:Nat}{M:List SC}(d:Wf n M){a:Nat}(col k:Nat)(e:a<M.length):Wf n (dN M a col k):=by
 refine yN λf b=> ?_;rw[gX] at b;rw[jA a col k b];have c:=d.get b;have g:=d.get e;split
 ·exact⟨by rw[iQ (by omega)];exact c.1,rR c.2⟩
 ·exact c
structure Inv (n:Nat) (M:List SC) (col top:Nat) (ls:SC):Prop where
 wf:Wf n M
 cnt:ls.length=top
 le:top<=M.length
 up:ls.Pairwise (·< ·)
 lt:∀l∈ls,l<col
 piv:∀(i:Nat) l,ls[i]? =some l->∀k,k<M.length->gt M k l=if k=i then 1 else 0
 low:∀(i:Nat) l,ls[i]? =some l->∀j,j<l->gt M i j=0
 rest:∀i,top<=i->∀j,j<col->gt M i j=0
theorem Br{n:Nat}{M:List SC}(e:Wf n M){a col p:Nat}(c:a<M.length)(b:p<M.length){k:Nat}(f:k<M.length)(j:Nat):
 gt (dN (jU M a col p) a col M.length) k j=if k=a then fm (fi (gt M p col)) (gt M p j) else gt M (sg a p k) j ^^^ fm (gt M (sg a p k) col) (fm (fi (gt M p col)) (gt M p j)):=by
 have m:=zM (col:=col) e c b;have i:k<(jU M a col p).length:=by rw[gW];exact f
 have g:(jU M a col p).getD a []=lM (fi (gt M p col)) (M.getD p []):=by rw[nM c b a,bu rfl]
 conv=>lhs;unfold gt
 rw[jA a col _ i];by_cases d:k=a
 ·subst d
  rw[bA (by simp),bu rfl,g,jZ];rfl
 ·have h:(jU M a col p).getD k []=M.getD (sg a p k) []:=by rw[nM c b k,bA d]
  have l:gt (jU M a col p) k col=gt M (sg a p k) col:=(by unfold gt;rw[h]);have o:=e.get (yO c b f);have q:=e.get b;rw[bu ⟨f,d⟩,bA d,l,h,g,oM (by simp only[lM,aG];omega),jZ];rfl
theorem Inv.step{n:Nat}{M:List SC}{col e:Nat}{ls:SC}(b:Inv n M col e ls):∃a,Inv n (kL M e col).1 (col+1) (kL M e col).2 a:=by
 unfold kL;cases hf:nK M col e (M.length-e) with
 | none=>
   refine⟨ls,b.wf,b.cnt,b.le,b.up,λg a=>by have:=b.lt g a;omega,b.piv,b.low,λc i d k=> ?_⟩;by_cases p:d=col
   ·subst p
    rcases bD c M.length with a | a
    ·exact Ib _ _ hf c i (by omega)
    ·exact wG a d
   ·exact b.rest c i d (by omega)
 | some h=>
   dsimp only
   obtain⟨q,B,y,-⟩:=oN _ _ _ hf;have u:h<M.length:=(by omega);have l:e<M.length:=(by omega);have m:=λf (j:f<M.length) d=>Br (col:=col) b.wf l u j d;have r:(dN (jU M e col h) e col M.length).length=M.length:=(by rw[gX,gW]);have o:∀d,d<col->fm (fi (gt M h col)) (gt M h d)=0:=λd k=>(by rw[b.rest h q d k,bU]);have z:fm (fi (gt M h col)) (gt M h col)=1:=by rw[ku];exact Nq y (b.wf.lt h col)
   have v:∀f d,e<=f->d<col->gt M (sg e h f) d=0:=λf d j k=>by
    refine b.rest _ ?_ d k;unfold sg;split
    ·exact q
    ·split <;> omega
   have w:∀f,f<M.length->gt (dN (jU M e col h) e col M.length) f col=if f=e then 1 else 0:=λf j=>by
    rw[m f j,z];split
    ·rfl
    ·rw[qY _ (b.wf.lt _ _),Nat.xor_self]
   refine⟨ls++[col],tH (zM b.wf l u) _ _ (by rw[gW];exact l),by simp[b.cnt],by rw[r];exact l,?_,?_,?_,?_,?_⟩
   ·rw[pairwise_append]
    exact⟨b.up,pairwise_singleton _ _,λs t x A=>by
     obtain rfl:x=col:=(by simpa using A);exact b.lt s t⟩
   ·intro g a
    rcases bF.1 a with a | a
    ·have:=b.lt g a;omega
    ·obtain rfl:g=col:=by simpa using a
     omega
   ·intro c g a f j
    rw[r] at j;rcases bD c ls.length with i | i
    ·rw[List.getElem?_append_left i] at a
     have s:=b.lt g (mem_of_getElem? a);have A:c<e:=(by have:=b.cnt;omega);rw[m f j,o g s];split
     ·rename_i t;subst t;rw[bA (by omega)]
     ·rename_i t
      rw[bU,Nat.xor_zero];by_cases x:f=h
      ·subst x
       rw[v f g q s,bA (by omega)]
      ·have:sg e h f=f:=by unfold sg;rw[bA t,bA x]
       rw[this];exact b.piv c g a f j
    ·rw[List.getElem?_append_right i] at a
     have t:c-ls.length=0:=by
      have:=(List.getElem?_eq_some_iff.1 a).1;simp at this;omega
     rw[t] at a;obtain rfl:col=g:=(by simpa using a);rw[w f j];have:c=e:=(by have:=b.cnt;omega);rw[this]
   ·intro c g a d k
    rcases bD c ls.length with i | i
    ·rw[List.getElem?_append_left i] at a
     have s:=b.lt g (mem_of_getElem? a);have A:c<e:=(by have:=b.cnt;omega);rw[m c (by omega),bA (by omega),o d (by omega),bU,Nat.xor_zero];have:sg e h c=c:=(by unfold sg;rw[bA (by omega),bA (by omega)]);rw[this];exact b.low c g a d k
    ·rw[List.getElem?_append_right i] at a
     have t:c-ls.length=0:=by
      have:=(List.getElem?_eq_some_iff.1 a).1;simp at this;omega
     rw[t] at a;obtain rfl:col=g:=(by simpa using a);have:c=e:=(by have:=b.cnt;omega);subst this;rw[m c l,bu rfl,o d k]
   ·intro c i d k
    rcases bD c M.length with a | a
    ·by_cases p:d=col
     ·subst p
      rw[w c a,bA (by omega)]
     ·rw[m c a,bA (by omega),o d (by omega),bU,Nat.xor_zero]
      exact v c d (by omega) (by omega)
    ·exact wG (by rw[r];exact a) d
theorem Ic{n:Nat}{M:List SC}(a:Wf n M):Inv n M 0 0 []:=
 ⟨a,rfl,bE _,List.Pairwise.nil,by simp,by simp,by simp,λb _ c d=>by omega⟩
theorem jN{n:Nat}{M:List SC}(a:Wf n M)(col:Nat):∃ls,Inv n (dI M col).1 col (dI M col).2 ls:=by
 induction col with
 | zero=>exact⟨[],Ic a⟩
 | succ col b=>
   obtain⟨ls,c⟩:=b;exact c.step
theorem Ie(M:List SC)(a col:Nat):(kL M a col).1.length=M.length:=by
 unfold kL;split
 ·rfl
 ·rw[gX,gW]
theorem kM(M:List SC)(col:Nat):(dI M col).1.length=M.length:=by
 induction col with
 | zero=>rfl
 | succ col a=>rw[dI,Ie,a]
def SpEq(M N:List SC):Prop:=∀a,Spn (M.map vO) a↔Spn (N.map vO) a
theorem SpEq.refl(M:List SC):SpEq M M:=λ_=>Iff.rfl
theorem SpEq.symm{M N:List SC}(a:SpEq M N):SpEq N M:=λb=>(a b).symm
theorem SpEq.trans{M N L:List SC}(b:SpEq M N)(c:SpEq N L):SpEq M L:=λa=>(b a).trans (c a)
theorem Wf.vb{n:Nat}{M:List SC}(a:Wf n M):∀r∈M.map vO,Vb r:=by
 intro r b;obtain⟨c,d,rfl⟩:=aZ.1 b;exact iT (a c d).2
theorem Wf.spn{n:Nat}{M:List SC}(a:Wf n M){i:Nat}(b:i<M.length):Spn (M.map vO) (vO (M.getD i [])):=Spn.mem a.vb (mem_map_of_mem (oO b))
theorem nN{n m:Nat}{M N:List SC}(g:Wf n M)(b:Wf m N)(c:∀i,i<M.length->Spn (N.map vO) (vO (M.getD i []))){v:Nat->Nat}(d:Spn (M.map vO) v):Spn (N.map vO) v:=by
 refine d.trans b.vb λh e=> ?_;obtain⟨j,f,rfl⟩:=aZ.1 e;obtain⟨i,a,rfl⟩:=bH f;have:=c i a;rw[af,ah a] at this;exact this
theorem Ig{n:Nat}{M:List SC}(d:Wf n M)(a col:Nat):SpEq M (kL M a col).1:=by
 unfold kL;cases hf:nK M col a (M.length-a) with
 | none=>exact SpEq.refl M
 | some c=>
   dsimp only
   obtain⟨x,y,v,-⟩:=oN _ _ _ hf;have i:c<M.length:=(by omega);have g:a<M.length:=(by omega);have h:=tH (zM (col:=col) d g i) col M.length (by rw[gW];exact g);have k:(dN (jU M a col c) a col M.length).length=M.length:=(by rw[gX,gW]);have o:=λb (e:b<M.length) f=>Br (col:=col) d g i e f;have l:=d.lt c col;have p:=iT (d.get i).2
   have m:vO ((dN (jU M a col c) a col M.length).getD a [])=kW (fi (gt M c col)) (vO (M.getD c [])) vz:=funext λf=>by
    have:=o a g f;rw[bu rfl] at this;unfold kW vz;rw[Nat.zero_xor];exact this
   have q:∀b,b<M.length->b≠a->vO ((dN (jU M a col c) a col M.length).getD b [])=kW (gt M (sg a c b) col) (vO ((dN (jU M a col c) a col M.length).getD a [])) (vO (M.getD (sg a c b) [])):=λb e j=>by
    rw[m];funext f;have:=o b e f;rw[bA j] at this;unfold kW vz;rw[Nat.zero_xor];exact this
   generalize dN (jU M a col c) a col M.length=j at*
   have stop:Spn (M.map vO) (vO (j.getD a [])):=by
    rw[m];exact Spn.ax d.vb (Np _) (d.spn i) .zero
   intro z;constructor
   ·refine nN d h λb e=> ?_
    have r:a<j.length:=(by rw[k];exact g);by_cases s:b=c
    ·subst s
     have:vO (M.getD b [])=kW (gt M b col) (vO (j.getD a [])) vz:=by
      rw[m];funext f;unfold kW vz;rw[Nat.zero_xor,Nat.zero_xor,<-mh _ _ _ l (Np _) (p f),Nq v l,jL _ (p f)]
     rw[this];exact Spn.ax h.vb l (h.spn r) .zero
    ·have t:sg a c b<M.length:=yO g i e
     have w:sg a c b≠a:=(by unfold sg;split;omega;first | assumption | (rw[bA s];assumption));have u:=q _ t w;rw[K8] at u;have:vO (M.getD b [])=kW (gt M b col) (vO (j.getD a [])) (vO (j.getD (sg a c b) [])):=(by rw[u,Nu]);rw[this];exact Spn.ax h.vb (d.lt b col) (h.spn r) (h.spn (by rw[k];exact t))
   ·refine nN h d λb e=> ?_
    rw[k] at e;by_cases r:b=a
    ·subst r;exact stop
    ·rw[q b e r]
     exact Spn.ax d.vb (d.lt _ _) stop (d.spn (yO g i e))
theorem tJ{n:Nat}{M:List SC}(a:Wf n M)(col:Nat):SpEq M (dI M col).1:=by
 induction col with
 | zero=>exact SpEq.refl M
 | succ col b=>
   obtain⟨d,c⟩:=jN a col;exact b.trans (Ig c.wf _ _)
structure Red (n:Nat) (R:List SC) (ls:SC):Prop where
 wf:Wf n R
 red:RedV (R.map vO) ls
 lt:∀l∈ls,l<n
theorem Inv.red{n:Nat}{M:List SC}{c:Nat}{ls:SC}(e:Inv n M n c ls):Red n (M.take c) ls/\SpEq M (M.take c):=by
 have p:=e.le;have l:∀a,a<c->(M.take c).getD a []=M.getD a []:=λa f=>by simp[f]
 have i:Wf n (M.take c):=λd b=>e.wf d (bI b);have m:(M.take c).length=c:=by rw[aH];omega
 have j:∀(a:Nat) d,((M.take c).map vO)[a]? =some d->a<c/\d=vO (M.getD a []):=λa d b=>by
  rw[List.getElem?_map] at b;rcases bD a c with f | f
  ·rw[List.getElem?_take,bu f,ah (by omega)] at b
   refine⟨f,?_⟩;rw[af,ah (by omega)];simpa using b.symm
  ·rw[List.getElem?_eq_none (by omega)] at b;simp at b
 refine⟨⟨i,⟨by rw[aG,m,e.cnt],e.up,?_,?_,?_,i.vb⟩,e.lt⟩,λg=>⟨nN e.wf i λa f=> ?_,λg=>g.sub λd b=> ?_⟩⟩
 ·intro a d g b h
  obtain⟨f,rfl⟩:=j a d b;have:=e.piv a g h a (by omega);rw[bu rfl] at this;exact this
 ·intro a k d g b h o
  obtain⟨q,rfl⟩:=j k d b;have:=e.piv a g h k (by omega);rw[bA o] at this;exact this
 ·intro a d g b h k o
  obtain⟨f,rfl⟩:=j a d b;exact e.low a g h k o
 ·rcases bD a c with g | g
  ·rw[<-l a g];exact i.spn (by omega)
  ·rw[FZ (e.wf.get f).1 (e.rest a g)];exact .zero
 ·obtain⟨h,g,rfl⟩:=aZ.1 b
  exact mem_map_of_mem (bI g)
theorem nO{n:Nat}{M:List SC}(a:Wf n M)(b:M≠[]):wid M=n:=by
 unfold wid;exact(a.get (by cases M with | nil=>exact absurd rfl b | cons c d=>simp)).1
theorem gI{n:Nat}{M:List SC}(a:Wf n M):∃ls,Red n (eT M) ls/\SpEq M (eT M):=by
 by_cases b:M=[]
 ·subst b
  exact⟨[],⟨by intro d c;simp[eT,dI,wid] at c,⟨rfl,.nil,by simp,by simp,by simp,by simp[eT,dI,wid]⟩,by simp⟩,SpEq.refl _⟩
 ·have c:=nO a b
  obtain⟨ls,d⟩:=jN a n;have:=d.red;unfold eT;rw[c];exact⟨ls,this.1,(tJ a n).trans this.2⟩
theorem Eb{n:Nat}{a B:List SC}(g:Wf n a)(h:Wf n B)(b:a.map vO=B.map vO):a=B:=by
 have i:a.length=B.length:=by simpa using congrArg List.length b
 refine ext_getElem i λc d e=> ?_;have f:(a.map vO)[c]? =(B.map vO)[c]? :=by rw[b]
 simp only[List.getElem?_map,ah d,ah e,Option.map_some,Option.some.injEq] at f;exact zL (g _ (aQ d)).1 (h _ (aQ e)).1 f
theorem Red.spn{n:Nat}{R:List SC}{ls:SC}(a:Red n R ls){r:Nat->Nat}(b:r∈R.map vO):Spn (R.map vO) r:=Spn.mem a.wf.vb b
theorem Red.unique{n:Nat}{a B:List SC}{ls g:SC}(b:Red n a ls)(c:Red n B g)(f:SpEq a B):a=B:=
 Eb b.wf c.wf (b.red.unique c.red (λd e=>(f d).1 (b.spn e)) (λd e=>(f d).2 (c.spn e)))
theorem OL{n:Nat}{a B:List SC}(b:Wf n a)(c:Wf n B)(d:SpEq a B):eT a=eT B:=by
 obtain⟨i,e,f⟩:=gI b;obtain⟨j,g,h⟩:=gI c;exact e.unique g ((f.symm.trans d).trans h)
theorem zN{n:Nat}{a B:List SC}(d:Wf n a)(e:Wf n B)(f:∀v,Spn (a.map vO) v->Spn (B.map vO) v):(eT a).length<=(eT B).length:=by
 obtain⟨k,c,g⟩:=gI d;obtain⟨l,h,i⟩:=gI e;have:=c.red.le h.red λb j=>(i b).1 (f b ((g b).2 (c.spn j)));simpa using this
theorem wH{n:Nat}{a B:List SC}(g:Wf n a)(h:Wf n B)(c:∀v,Spn (a.map vO) v->Spn (B.map vO) v)(i:(eT B).length<=(eT a).length):SpEq a B:=by
 obtain⟨m,d,e⟩:=gI g;obtain⟨o,j,f⟩:=gI h;refine λv=>⟨c v,λk=>(e v).2 (d.red.whole j.red (λb l=>(f b).1 (c b ((e b).2 (d.spn l)))) (by simpa using i) ((f v).1 k))⟩
theorem QI{n:Nat}{ls:SC}(a:ls.Pairwise (·< ·))(b:∀l∈ls,l<n):ls.length<=n:=by
 have:=(sO a).length_le_of_subset (l₂:=range n) λl c=>bG.2 (b l c);simpa using this
theorem lN{n:Nat}{M:List SC}(c:Wf n M):(eT M).length<=n/\(eT M).length<=M.length:=by
 obtain⟨d,a,_⟩:=gI c;have b:=a.red.len;rw[aG] at b;refine⟨by rw[b];exact QI a.red.up a.lt,?_⟩;unfold eT;rw[aH,kM];omega
theorem Ex(x n:Int)(a:0<n):(if x.tmod n<0 then x.tmod n+n else x.tmod n)=x%n:=by
 rw[Int.tmod_eq_emod];have b:=Int.emod_nonneg x (Int.ne_of_gt a);have c:=Int.emod_lt_of_pos x a;split <;> split <;> omega
theorem ic(x n:Int)(w:World)(d: -9223372036854775808<=x/\x<=9223372036854775807)(a:0<n)(e:n<=9223372036854775807):
 Calls prog 19 #[int i64 x,int i64 n] w λb c=>b=returned (int i64 (x%n))/\w=c:=by
 have b:=ae (Ex x n a)
 have f: -n<x.tmod n/\x.tmod n<n:=by
  rw[Int.tmod_eq_emod];have g:=Int.emod_nonneg x (Int.ne_of_gt a);have i:=Int.emod_lt_of_pos x a;split <;> omega
 go_enter func19,ntmps19;go_wp2
 all_goals
  go_ret;exact⟨congrArg (λc=>Ending.returned (int i64 c)) (by have:=b.o;split at this <;> omega),rfl⟩
theorem same_i64(xs ys:List Int)(a b:SE)(n m c F:Nat)(w:World)(k:Rd w w.heap.size a n (xs.map (Value.int .i64)))(l:Rd w w.heap.size b m (ys.map (Value.int .i64)))(G:n<=maxLen)(H:m<=maxLen):
 Calls prog 50 #[slice a n c,slice b m F] w λg d=>g=returned (bool (decide (xs=ys)))/\∃j,d=w.drewN j:=by
 unfold maxLen at G H;have o:xs.length=n:=by simpa using k.1
 have p:ys.length=m:=by simpa using l.1
 by_cases q:n=m
 ·subst q
  have s:=ae o;have t:=ae p;have I:=ae k;have J:=ae l;clear o p k l;have K:((n:Int) != (n:Int))=false:=(by simp);go_enter func50,ntmps50;go_wp2_with fail;go_loopw [5,13] (λ_ f wr=>∃d:Nat,d<=n/\f=int i64 d/\(∀e,e<d->xs[e]? =ys[e]?)/\∃j,wr=w.drewN j) (λ_ f _=>n-(intOf f).toNat)
  case atStart=>exact⟨0,bE _,rfl,λe u=>absurd u (Nat.not_lt_zero _),0,rfl⟩
  case round=>
   obtain⟨d,L,rfl,f,j,rfl⟩:=hrel;have v:=ae f;clear f;by_cases x:d<n
   ·obtain⟨M,N,rfl,_,y⟩:=I.o.2 (by omega)
    obtain⟨O,P,rfl,_,r⟩:=J.o.2 (by omega);have f:d<xs.length:=(by rw[s.o];exact x);have i:d<ys.length:=(by rw[t.o];exact x);have Q:=y d (int i64 xs[d]) (by simp[f]);have R:=r d (int i64 ys[d]) (by simp[i]);have z:xs[d]? =some xs[d]:=ah f;have A:ys[d]? =some ys[d]:=ah i;generalize xs[d]=B at*;generalize ys[d]=C at*;have D:=ae z;have E:=ae A;clear f i y r z A;go_wp2_with fail
    go_quiet (fail)
    by_cases r:B=C
    ·subst r
     go_wp2_with fail;go_roundw
     case rel=>exact⟨d+1,by omega,by go_num,λe u=>by rcases bD e d with h | h;exact v.o e h;rw[show e=d by omega,D.o,E.o],by first | exact⟨_,rfl⟩ | exact⟨_,World.drewN_drewN _ _ _⟩⟩
     case measure=>simp[intOf];omega
    ·have z:(B != C)=true:=by simpa using r
     have f:decide (xs=ys)=false:=decide_eq_false (λg=>r (by have u:=D.o;rw[g,E.o] at u;exact(Option.some.inj u).symm));have i:=ae f;clear f;go_wp2_with fail;go_ret;exact⟨by rw[i.o];rfl,by first | exact⟨_,rfl⟩ | exact⟨_,World.drewN_drewN _ _ _⟩⟩
   ·have f:decide (xs=ys)=true:=bq (ext_getElem? λe=>by
     rcases bD e d with h | h
     ·exact v.o e h
     ·rw[List.getElem?_eq_none (by rw[s.o];omega),List.getElem?_eq_none (by rw[t.o];omega)])
    have i:=ae f;clear f;go_wp2_with fail;go_ret;exact⟨by rw[i.o];rfl,by first | exact⟨_,rfl⟩ | exact⟨_,World.drewN_drewN _ _ _⟩⟩
 ·have f:decide (xs=ys)=false:=decide_eq_false (λg=>q (by rw[<-o,<-p,g]))
  have i:=ae f;have K:((n:Int) != (m:Int))=true:=(by simpa using λg=>q (by omega));clear f o p k l;go_enter func50,ntmps50;go_wp2_with fail;go_ret;exact⟨by rw[i.o];rfl,0,rfl⟩
theorem Pi(xs ys:List Int)(a b:SE)(n m c F:Nat)(w:World)(k:Rd w w.heap.size a n (xs.map (Value.int .u8)))(l:Rd w w.heap.size b m (ys.map (Value.int .u8)))(G:n<=maxLen)(H:m<=maxLen):
 Calls prog 20 #[slice a n c,slice b m F] w λg d=>g=returned (bool (decide (xs=ys)))/\∃j,d=w.drewN j:=by
 unfold maxLen at G H;have o:xs.length=n:=by simpa using k.1
 have p:ys.length=m:=by simpa using l.1
 by_cases q:n=m
 ·subst q
  have s:=ae o;have t:=ae p;have I:=ae k;have J:=ae l;clear o p k l;have K:((n:Int) != (n:Int))=false:=(by simp);go_enter func20,ntmps20;go_wp2_with fail;go_loopw [5,13] (λ_ f wr=>∃d:Nat,d<=n/\f=int i64 d/\(∀e,e<d->xs[e]? =ys[e]?)/\∃j,wr=w.drewN j) (λ_ f _=>n-(intOf f).toNat)
  case atStart=>exact⟨0,bE _,rfl,λe u=>absurd u (Nat.not_lt_zero _),0,rfl⟩
  case round=>
   obtain⟨d,L,rfl,f,j,rfl⟩:=hrel;have v:=ae f;clear f;by_cases x:d<n
   ·obtain⟨M,N,rfl,_,y⟩:=I.o.2 (by omega)
    obtain⟨O,P,rfl,_,r⟩:=J.o.2 (by omega);have f:d<xs.length:=(by rw[s.o];exact x);have i:d<ys.length:=(by rw[t.o];exact x);have Q:=y d (.int .u8 xs[d]) (by simp[f]);have R:=r d (.int .u8 ys[d]) (by simp[i]);have z:xs[d]? =some xs[d]:=ah f;have A:ys[d]? =some ys[d]:=ah i;generalize xs[d]=B at*;generalize ys[d]=C at*;have D:=ae z;have E:=ae A;clear f i y r z A;go_wp2_with fail
    go_quiet (fail)
    by_cases r:B=C
    ·subst r
     go_wp2_with fail;go_roundw
     case rel=>exact⟨d+1,by omega,by go_num,λe u=>by rcases bD e d with h | h;exact v.o e h;rw[show e=d by omega,D.o,E.o],by first | exact⟨_,rfl⟩ | exact⟨_,World.drewN_drewN _ _ _⟩⟩
     case measure=>simp[intOf];omega
    ·have z:(B != C)=true:=by simpa using r
     have f:decide (xs=ys)=false:=decide_eq_false (λg=>r (by have u:=D.o;rw[g,E.o] at u;exact(Option.some.inj u).symm));have i:=ae f;clear f;go_wp2_with fail;go_ret;exact⟨by rw[i.o];rfl,by first | exact⟨_,rfl⟩ | exact⟨_,World.drewN_drewN _ _ _⟩⟩
   ·have f:decide (xs=ys)=true:=bq (ext_getElem? λe=>by
     rcases bD e d with h | h
     ·exact v.o e h
     ·rw[List.getElem?_eq_none (by rw[s.o];omega),List.getElem?_eq_none (by rw[t.o];omega)])
    have i:=ae f;clear f;go_wp2_with fail;go_ret;exact⟨by rw[i.o];rfl,by first | exact⟨_,rfl⟩ | exact⟨_,World.drewN_drewN _ _ _⟩⟩
 ·have f:decide (xs=ys)=false:=decide_eq_false (λg=>q (by rw[<-o,<-p,g]))
  have i:=ae f;have K:((n:Int) != (m:Int))=true:=(by simpa using λg=>q (by omega));clear f o p k l;go_enter func20,ntmps20;go_wp2_with fail;go_ret;exact⟨by rw[i.o];rfl,0,rfl⟩
