import Derived.Test.YtgccllbnfngpcaaGreatDoorW7
import Derived.Lib.SliceRun
set_option linter.unusedVariables false
set_option maxRecDepth 100000
set_option maxHeartbeats 400000000
namespace Go.Proofs.YtgccllbnfngpcaaGreatDoor
open Go.RowKit _root_.Go.Proofs.Tryz List
open Value (int slice pointer bool)
open IntKind (i64)
open Ending (returned)
open Obj (cells)
theorem pY(n c:Nat)(a:PK)(op:List Bool)(w:World)(f:Rd w w.heap.size a n (bX op))(o:n<=1000000):
 Calls prog 381 #[slice a n c,bool true] w λb d=>∃z:Int,b=returned (int i64 z)/\((0<=z/\∃c,c<n/\op.getD c false=true)\/(z<0/\∀c,c<n->op.getD c false=false))/\d=w:=by
 have k:=ae f;clear f;go_enter func381,ntmps381;go_wp2_with fail;go_loopw [8] (λd wr=>∃b:Nat,b<=n/\d=int i64 b/\PH (∀c,c<b->op.getD c false=false)/\wr=w) (λd _=>n-(intOf d).toNat)
 case atStart=>exact⟨0,by omega,rfl,ae λc h=>absurd h (Nat.not_lt_zero c),rfl⟩
 case round=>
  obtain⟨b,p,rfl,i,e⟩:=hrel;have d:=ae e;clear e;by_cases j:b<n
  ·have q:(b:Int)<(n:Int):=by omega
   obtain⟨r,s,rfl,t,e⟩:=tG k.o j;rw[<-d.o] at e;cases hky:op.getD b false with
   | true=>
     rw[hky] at e;have l:=ae hky;clear hky;go_wp2_with fail;go_ret;exact⟨_,rfl,.inl ⟨by omega,b,j,l.o⟩,d.o⟩
   | false=>
     rw[hky] at e
     have l:PH (∀c,c<b+1->op.getD c false=false):=ae λc m=>by
      rcases Nat.lt_succ_iff_lt_or_eq.1 m with h | rfl
      ·exact i.o c h
      ·exact hky
     clear hky;go_wp2_with fail;go_roundw
     case rel=>exact⟨b+1,by omega,by go_num,l,d.o⟩
     case measure=>simp[intOf];omega
  ·obtain rfl:b=n:=by omega
   go_wp2_with fail;go_ret;exact⟨-1,rfl,.inr ⟨by omega,i.o⟩,d.o⟩
theorem l7(n c:Nat)(a:PK)(op:List Bool)(w:World)(f:Rd w w.heap.size a n (bX op))(l:n<=1000000):
 Calls prog 354 #[slice a n c,bool true] w λi d=>∃b,i=returned (.bool b)/\(b=true->∃c,c<n/\op.getD c false=true)/\(b=false->∀c,c<n->op.getD c false=false)/\d=w:=by
 have d:=ae (pY n c a op w f l);clear f;go_enter func354,ntmps354;go_wp2_with fail;refine d.o.mono ?_;rintro i p ⟨j,rfl,m,e⟩;have k:=ae e;clear e d;rcases m with⟨o,d⟩ | ⟨o,d⟩
 ·have e:=ae d
  clear d;go_wp2_with fail;go_ret;exact⟨true,rfl,λ_=>e.o,λh=>Bool.noConfusion h,k.o⟩
 ·have e:=ae d
  have q:¬0<=j:=(by omega);clear d;go_wp2_with fail;go_ret;exact⟨false,(by show Ending.returned (bool (decide (0<=j)))=_;rw[decide_eq_false (by omega)]),λh=>Bool.noConfusion h,λ_=>e.o,k.o⟩
theorem gM{P:Program}{w:World}{ops:Array Oper}{rest:List Oper}{o:Oper}{a:Act}{Q:Exit->Act->World->Prop}(u:o.guard=none)(s x:Operand){T e:TypeId}{z:Value}{k i:Nat}
 (y:o.op=.call { callee:=.builtin .append,args:=#[s,x],argTypes:=#[T,T] })(A:P.underlying T=some (.slice e))(B:(P.info? e).map (λd=>(d.zero,d.size,d.bytes))=some (some z,k,i))(D:z.cells.size=k)(E:0<k)(G:i<=1000)
 {C:Nat}{v:Value}{L:List Rp}{F:Nat->Prop}{R:Rp}{us:Array Value}(m:OwnS w C e k F v L)(j:C<=w.heap.size)(hl:L.length<=1000000)
 (l:R.ok w (λb=>F b/\some b≠v.ownBlock) us.toList)(H:R.sz=k)
 (hs:a.eval s=v)(I:a.eval x=slice (some ⟨w.heap.size,0,none⟩) 1 1)
 (K:∀f w2,OwnS w2 C e k F f (L++[R])->Below C w w2->w.heap.size<=w2.heap.size->(∀b,b<w.heap.size->some b≠v.ownBlock->w2.heap[b]? =w.heap[b]?)->(f.ownBlock=v.ownBlock\/∃b,f.ownBlock=some b/\w.heap.size<=b)->wpList P ops Q rest (a.put o.dst f) w2):
 wpList P ops Q (o :: rest) a (w.alloc (.cells us e)):=by
 have c:=(az w.heap.size w).alloc (aj _) (.cells us e);have J:=m.lt;have M:=m.new c;obtain⟨O,p,S⟩:=M;obtain⟨d,U,V,W,X⟩:=info_parts B;have Y:us.toList.length=k:=by rw[R.len l];exact H
 have Z:=R.new l c;refine wpList_append_own_at (P:=P) (w.alloc (.cells us e)) u s x T y C e d z k i A U V W X D E v L.length O hs p ⟨w.heap.size,0,none⟩ 1 1 us.toList I (by rw[Y,Nat.one_mul]) ?_ (R.one l) (by unfold maxLen;omega) ?_ (aP j c.size) λf w' aa h _ q=> ?_
 ·intro t ab r
  rw[Addr.add_lit,Nat.zero_add,dZ];simpa using r
 ·have:=bn (show L.length+1<=1000001 by omega) G
  omega
 ·refine K f w' (OwnS.app p S (λd R' r=> ?_) aa h q) (((c.mono j).grown h (aP j c.size) λb t=>(J b t).1)) (aP c.size h.size) (λb t ab=>(h.block b (aW t c.size) ab).trans (c.block b t)) (q.elim .inl λe=>.inr ⟨_,e,c.size⟩)
  cases d with
  | succ d=>simp at r
  | zero=>
    obtain rfl:R=R':=(by simpa using r);rw[Nat.zero_mul,drop_zero,aJ (by omega)];exact Z
theorem jr{w w':World}{C e k n:Nat}{v:Value}{xs:List Value}(a:w.ownsRow C e k v n xs)(c:∀b,v.ownBlock=some b->w'.heap[b]? =w.heap[b]?):w'.ownsRow C e k v n xs:=by
 refine⟨a.1,?_⟩;rcases a.2 with d | ⟨g,f,h,rfl,i,j,l⟩
 ·exact .inl d
 ·exact .inr ⟨g,f,h,rfl,i,(c g rfl).trans j,l⟩
theorem OwnS.keepAt{w w':World}{C:Nat}{e:TypeId}{k:Nat}{F:Nat->Prop}{v:Value}{L:List Rp}(c:OwnS w C e k F v L)(d:∀b,v.ownBlock=some b->w'.heap[b]? =w.heap[b]?)(f:∀b,F b->some b≠v.ownBlock->b<w.heap.size->w'.heap[b]? =w.heap[b]?):OwnS w' C e k F v L:=by
 obtain⟨h,i,j⟩:=c;exact⟨h,jr i d,λl a m=>a.keep (j l a m) λb a l=>⟨f b a.1 a.2 l,a⟩⟩
theorem ju{w:World}{C i:Nat}{e d:TypeId}{k j n l:Nat}{v f:Value}{xs m:List Value}(o:w.ownsRow C e k v n xs)(p:w.ownsRow i d j f l m)(q:e≠d):∀b,v.ownBlock=some b->f.ownBlock≠some b:=by
 intro b a c;rcases o.2 with⟨rfl,_⟩ | ⟨g,u,x,rfl,_,r,_⟩
 ·simp[Value.ownBlock] at a
 ·rcases p.2 with⟨rfl,_⟩ | ⟨y,z,A,rfl,_,h,_⟩
  ·simp[Value.ownBlock] at c
  ·simp[Value.ownBlock] at a c
   subst a c;rw[r] at h;injection h with s;injection s with _ t;exact q t
def gY(x:Nat×Nat):Rp:=rP (rV (int i64 x.1)) (rV (int i64 x.2))
theorem FJ:(prog.info? 359).map (λa=>(a.zero,a.size,a.bytes))=some (some (.agg #[int i64 0,int i64 0]),2,16):=by kernel_rfl
theorem I6(x:Nat×Nat)(w:World)(F:Nat->Prop):(gY x).ok w F [int i64 x.1,int i64 x.2]:=rY (rZ rfl) (rZ rfl)
section
theorem qF{P:Program}{Q:Exit->Act->World->Prop}{a:Act}{w:World}{body rest:Code}(l m:Nat)(j:Nat->Act->World->Prop)(K:Act->World->Prop)(o:Nat)(p:Code)
 (t:findLabel body l=some (Code.skip.seq rest))(u:findLabel body m=some (Code.skip.seq p))
 (first:∀X:Nat->Act->World->Prop,(∀a w,j o a w->rest.wp P (dz X Q) a w)->body.wp P (dz X Q) a w)
 (q:∀n a w,j n a w->rest.wp P (dz (λe c d=>(e=l/\∃f,f<n/\j f c d)\/(e=m/\K c d)) Q) a w)
 (v:∀a w,K a w->p.wp P (dz (λ_ _ _=>False) Q) a w):(Code.scope body).wp P Q a w:=by
 have r:∀n (h:Exit) (c:Act) (d:World),dz (λe c d=>(e=l/\∃f,f<n/\j f c d)\/(e=m/\K c d)) Q h c d->dz (λe c d=>∃f,f<n+1/\((e=l/\∃i,f=i+1/\j i c d)\/(e=m/\f=0/\K c d))) Q h c d:=by
  intro n h c d b;cases h with
  | goto e=>
    rcases b with⟨k,f,s,x⟩ | ⟨k,s⟩
    ·exact⟨f+1,by omega,.inl ⟨k,f,rfl,x⟩⟩
    ·exact⟨0,by omega,.inr ⟨k,rfl,s⟩⟩
  | normal=>exact b
  | exit id=>exact b
  | ret=>exact b
  | panic ch=>exact b
  | outgrown=>exact b
 refine iF (λe n a w=>(e=l/\∃i,n=i+1/\j i a w)\/(e=m/\n=0/\K a w)) ?_ ?_
 ·refine first _ λc d b=> ?_
  refine wp_mono (q o c d b) ?_;intro h c d b;have:=r _ h c d b;cases h with
  | goto e=>obtain⟨f,_,k⟩:=this;exact⟨f,k⟩
  | normal=>exact b
  | exit id=>exact b
  | ret=>exact b
  | panic ch=>exact b
  | outgrown=>exact b
 ·intro e n a w f
  rcases f with⟨rfl,i,rfl,f⟩ | ⟨rfl,rfl,k⟩
  ·exact⟨_,t,wp_seq (wp_skip (wp_mono (q i a w f) (r i)))⟩
  ·refine⟨_,u,wp_seq (wp_skip (wp_mono (v a w k) ?_))⟩
   intro h c d b;cases h with
   | goto e=>exact b.elim
   | normal=>exact b
   | exit id=>exact b
   | ret=>exact b
   | panic ch=>exact b
   | outgrown=>exact b
theorem PlSt.keep{w w':World}{g gl gu n N:Nat}{sl:Value}{op us:List Bool}(a:PlSt w g gl gu n N sl op us)(b:w'.heap[g]? =w.heap[g]?)(c:w'.heap[gl]? =w.heap[gl]?)(d:w'.heap[gu]? =w.heap[gu]?):PlSt w' g gl gu n N sl op us:=
 ⟨b.trans a.blk,c.trans a.opb,d.trans a.usb,a.ol,a.ul,a.ne⟩
theorem PlSt.setO{w:World}{g gl gu n N:Nat}{sl:Value}{op us:List Bool}(a:PlSt w g gl gu n N sl op us)(c:Nat)(b:Bool):PlSt (w.setCell ⟨gl,c,none⟩ (.bool b)) g gl gu n N sl (op.set c b) us:=by
 obtain⟨d,h,e⟩:=a.nes;refine⟨Blk.far a.blk d _,?_,Blk.far a.usb e.symm _,by rw[length_set];exact a.ol,a.ul,a.ne⟩;have f:(bX (op.set c b)).toArray=(bX op).toArray.setIfInBounds c (.bool b):=by unfold bX;simp
 rw[f];exact a.opb.set c _
theorem PlSt.setU{w:World}{g gl gu n N:Nat}{sl:Value}{op us:List Bool}(a:PlSt w g gl gu n N sl op us)(c:Nat)(b:Bool):PlSt (w.setCell ⟨gu,c,none⟩ (.bool b)) g gl gu n N sl op (us.set c b):=by
 obtain⟨h,d,e⟩:=a.nes;refine⟨Blk.far a.blk d _,Blk.far a.opb e _,?_,a.ol,by rw[length_set];exact a.ul,a.ne⟩;have f:(bX (us.set c b)).toArray=(bX us).toArray.setIfInBounds c (.bool b):=by unfold bX;simp
 rw[f];exact a.usb.set c _
structure PM (w0 w:World) (C0 C Gr Go g gl gu n N:Nat) (sl:Value) (op us:List Bool) (vS vD vL:Value) (St:List (Nat×Nat)) (De Le:PI):Prop where
 pl:PlSt w g gl gu n N sl op us
 gr:Blk w Gr 290 #[slice none 0 0,slice none 0 0,slice none 0 0]
 go:Blk w Go 290 #[vS,vD,vL]
 st:OwnS w C 359 2 (fun _=>False) vS (St.map gY)
 de:OwnI w C vD De
 le:OwnI w C vL Le
 ap:∀b,vD.ownBlock=some b->vL.ownBlock≠some b
 bl:Below C0 w0 w
 lo:C0<=Gr/\C0<=Go/\C0<=g/\C0<=gl/\C0<=gu
 hi:Gr<C/\Go<C/\g<C/\gl<C/\gu<C/\C<=w.heap.size
 ne:Gr≠Go
section
variable {w0 w w2:World} {C0 C Gr Go g gl gu n N:Nat} {sl:Value} {op us:List Bool} {vS vD vL:Value} {St:List (Nat×Nat)} {De Le:PI}
theorem PM.new(a:PM w0 w C0 C Gr Go g gl gu n N sl op us vS vD vL St De Le)(b:Below w.heap.size w w2):PM w0 w2 C0 C Gr Go g gl gu n N sl op us vS vD vL St De Le:=
 ⟨a.pl.new b,a.gr.below b a.gr.lt,a.go.below b a.go.lt,a.st.new b,fI a.de b,fI a.le b,a.ap,a.bl.trans (b.mono (by have:=a.lo;have:=a.hi;omega)),a.lo,by have:=a.hi;have:=b.size;exact⟨by omega,by omega,by omega,by omega,by omega,by omega⟩,a.ne⟩
theorem PM.own1(b:PM w0 w C0 C Gr Go g gl gu n N sl op us vS vD vL St De Le){p:Addr}(d:p.block<C)(u:Value):OwnS (w.setCell p u) C 359 2 (λ_=>False) vS (St.map gY)/\OwnI (w.setCell p u) C vD De/\OwnI (w.setCell p u) C vL Le:=
 ⟨b.st.keepAt (λc a=>bE _ _ _ _ (by have:=(b.st.lt c a).1;omega)) (λc a=>a.elim),
  bZ b.de λc a=>bE _ _ _ _ (by have:=(World.ownsRow.lt b.de c a).1;omega),bZ b.le λc a=>bE _ _ _ _ (by have:=(World.ownsRow.lt b.le c a).1;omega)⟩
theorem PM.setO(a:PM w0 w C0 C Gr Go g gl gu n N sl op us vS vD vL St De Le)(c:Nat)(b:Bool):PM w0 (w.setCell ⟨gl,c,none⟩ (.bool b)) C0 C Gr Go g gl gu n N sl (op.set c b) us vS vD vL St De Le:=by
 obtain⟨d,e,f⟩:=a.own1 (p:=⟨gl,c,none⟩) a.hi.2.2.2.1 (.bool b);exact⟨a.pl.setO c b,Blk.far a.gr (Blk.ne a.gr a.pl.opb (by decide)) _,Blk.far a.go (Blk.ne a.go a.pl.opb (by decide)) _,d,e,f,a.ap,a.bl.setCell (p:=⟨gl,c,none⟩) a.lo.2.2.2.1 _,a.lo,by have:=a.hi;simpa using this,a.ne⟩
theorem PM.setU(a:PM w0 w C0 C Gr Go g gl gu n N sl op us vS vD vL St De Le)(c:Nat)(b:Bool):PM w0 (w.setCell ⟨gu,c,none⟩ (.bool b)) C0 C Gr Go g gl gu n N sl op (us.set c b) vS vD vL St De Le:=by
 obtain⟨d,e,f⟩:=a.own1 (p:=⟨gu,c,none⟩) a.hi.2.2.2.2.1 (.bool b);exact⟨a.pl.setU c b,Blk.far a.gr (Blk.ne a.gr a.pl.usb (by decide)) _,Blk.far a.go (Blk.ne a.go a.pl.usb (by decide)) _,d,e,f,a.ap,a.bl.setCell (p:=⟨gu,c,none⟩) a.lo.2.2.2.2 _,a.lo,by have:=a.hi;simpa using this,a.ne⟩
theorem PM.step(a:PM w0 w C0 C Gr Go g gl gu n N sl op us vS vD vL St De Le){f:Value}{x:Nat×Nat}(i:OwnS w2 C 359 2 (λ_=>False) f ((St++[x]).map gY))(d:Below C w w2)
 (j:∀b,b<w.heap.size->some b≠vS.ownBlock->w2.heap[b]? =w.heap[b]?):PM w0 (w2.setCell ⟨Go,0,none⟩ f) C0 C Gr Go g gl gu n N sl op us f vD vL (St++[x]) De Le:=by
 obtain⟨k,l,m,o,q,u⟩:=a.hi;have s:w2.heap[Go]? =w.heap[Go]? :=d.block Go l;have t:Blk w2 Go 290 #[vS,vD,vL]:=s.trans a.go;have e:∀b,b≠Go->(w2.setCell ⟨Go,0,none⟩ f).heap[b]? =w2.heap[b]? :=λb c=>bE _ _ _ _ c;obtain⟨v,r,-⟩:=a.st;refine⟨?_,?_,?_,?_,?_,?_,a.ap,?_,a.lo,?_,a.ne⟩
 ·exact a.pl.keep ((e g (Blk.ne a.pl.blk a.go (by decide))).trans (d.block g m)) ((e gl (Blk.ne a.pl.opb a.go (by decide))).trans (d.block gl o)) ((e gu (Blk.ne a.pl.usb a.go (by decide))).trans (d.block gu q))
 ·exact((e Gr a.ne).trans (d.block Gr k)).trans a.gr
 ·exact t.set 0 f
 ·exact i.keepAt (λb c=>e b (by have:=(i.lt b c).1;omega)) (λb c=>c.elim)
 ·exact bZ a.de λb c=>(e b (by have:=(World.ownsRow.lt a.de b c).1;omega)).trans (j b (World.ownsRow.lt a.de b c).2 (λh=>ju a.de r (by decide) b c h.symm))
 ·exact bZ a.le λb c=>(e b (by have:=(World.ownsRow.lt a.le b c).1;omega)).trans (j b (World.ownsRow.lt a.le b c).2 (λh=>ju a.le r (by decide) b c h.symm))
 ·exact(a.bl.trans (d.mono (by have:=a.lo;omega))).setCell (p:=⟨Go,0,none⟩) a.lo.2.1 _
 ·have:=d.size
  refine⟨k,l,m,o,q,?_⟩;simp;omega
theorem PM.dead(a:PM w0 w C0 C Gr Go g gl gu n N sl op us vS vD vL St De Le){f:Value}{x:Nat}(h:vL=slice none 0 0)(i:OwnI w2 C f (De++[x]))(d:Below C w w2)
 (q:∀b,b<w.heap.size->some b≠vD.ownBlock->w2.heap[b]? =w.heap[b]?):PM w0 (w2.setCell ⟨Go,1,none⟩ f) C0 C Gr Go g gl gu n N sl op us vS f vL St (De++[x]) Le:=by
 obtain⟨j,k,l,m,o,v⟩:=a.hi;have r:w2.heap[Go]? =w.heap[Go]? :=d.block Go k;have s:Blk w2 Go 290 #[vS,vD,vL]:=r.trans a.go;have e:∀b,b≠Go->(w2.setCell ⟨Go,1,none⟩ f).heap[b]? =w2.heap[b]? :=λb c=>bE _ _ _ _ c;obtain⟨y,t,-⟩:=a.st;refine⟨?_,?_,?_,?_,?_,?_,?_,?_,a.lo,?_,a.ne⟩
 ·exact a.pl.keep ((e g (Blk.ne a.pl.blk a.go (by decide))).trans (d.block g l)) ((e gl (Blk.ne a.pl.opb a.go (by decide))).trans (d.block gl m)) ((e gu (Blk.ne a.pl.usb a.go (by decide))).trans (d.block gu o))
 ·exact((e Gr a.ne).trans (d.block Gr j)).trans a.gr
 ·exact s.set 1 f
 ·exact a.st.keepAt (λb c=>(e b (by have:=(a.st.lt b c).1;omega)).trans (q b (a.st.lt b c).2 (λu=>ju t a.de (by decide) b c u.symm))) (λb c=>c.elim)
 ·exact bZ i λb c=>e b (by have:=(World.ownsRow.lt i b c).1;omega)
 ·exact bZ a.le λb c=>by rw[h] at c;simp[Value.ownBlock] at c
 ·intro b c
  rw[h];simp[Value.ownBlock]
 ·exact(a.bl.trans (d.mono (by have:=a.lo;omega))).setCell (p:=⟨Go,1,none⟩) a.lo.2.1 _
 ·have:=d.size
  refine⟨j,k,l,m,o,?_⟩;simp;omega
theorem PM.left(a:PM w0 w C0 C Gr Go g gl gu n N sl op us vS vD vL St De Le){e:Value}{x:Nat}(j:OwnI w2 C e (Le++[x]))(f:Below C w w2)
 (k:∀b,b<w.heap.size->some b≠vL.ownBlock->w2.heap[b]? =w.heap[b]?)(s:e.ownBlock=vL.ownBlock\/∃b,e.ownBlock=some b/\w.heap.size<=b):PM w0 (w2.setCell ⟨Go,2,none⟩ e) C0 C Gr Go g gl gu n N sl op us vS vD e St De (Le++[x]):=by
 obtain⟨l,m,o,q,r,y⟩:=a.hi;have t:w2.heap[Go]? =w.heap[Go]? :=f.block Go m;have u:Blk w2 Go 290 #[vS,vD,vL]:=t.trans a.go;have h:∀b,b≠Go->(w2.setCell ⟨Go,2,none⟩ e).heap[b]? =w2.heap[b]? :=λb c=>bE _ _ _ _ c;obtain⟨z,v,-⟩:=a.st;refine⟨?_,?_,?_,?_,?_,?_,?_,?_,a.lo,?_,a.ne⟩
 ·exact a.pl.keep ((h g (Blk.ne a.pl.blk a.go (by decide))).trans (f.block g o)) ((h gl (Blk.ne a.pl.opb a.go (by decide))).trans (f.block gl q)) ((h gu (Blk.ne a.pl.usb a.go (by decide))).trans (f.block gu r))
 ·exact((h Gr a.ne).trans (f.block Gr l)).trans a.gr
 ·exact u.set 2 e
 ·exact a.st.keepAt (λb c=>(h b (by have:=(a.st.lt b c).1;omega)).trans (k b (a.st.lt b c).2 (λd=>ju v a.le (by decide) b c d.symm))) (λb c=>c.elim)
 ·exact bZ a.de λb c=>(h b (by have:=(World.ownsRow.lt a.de b c).1;omega)).trans (k b (World.ownsRow.lt a.de b c).2 (λd=>a.ap b c d.symm))
 ·exact bZ j λb c=>h b (by have:=(World.ownsRow.lt j b c).1;omega)
 ·intro b c d
  rcases s with i | ⟨A,i,B⟩
  ·rw[i] at d
   exact a.ap b c d
  ·rw[i] at d
   injection d with d;subst d;have:=(World.ownsRow.lt a.de _ c).2;omega
 ·exact(a.bl.trans (f.mono (by have:=a.lo;omega))).setCell (p:=⟨Go,2,none⟩) a.lo.2.1 _
 ·have:=f.size
  refine⟨l,m,o,q,r,?_⟩;simp;omega
end
end
theorem dV(b:(Nat->Value)->Act)(a:Act)(c:a=b λd=>a.tmps.getD d undef):∃f,a=b f:=⟨_,c⟩
theorem PlSt.rdo{w:World}{g gl gu n N:Nat}{sl:Value}{op us:List Bool}(a:PlSt w g gl gu n N sl op us):Rd w w.heap.size (some ⟨gl,0,none⟩) n (bX op):=
 ⟨by rw[lF];exact a.ol,λ_=>⟨gl,0,rfl,a.opb.lt,λb d c=>by rw[Nat.zero_add,a.opb.cell b];simpa using c⟩⟩
theorem DY(n N:Nat)(l:PK)(m:Nat)(F:Nat->Prop)(L:List PI)(w:World)
 (hL:(lJ L).ok w F [slice l N m])(hN:L.length=N)(ao:N<=2000)(hn:n<=64)(J:∀x∈L,x.length<=1000/\(∀c∈x,c<n)/\Pd x):
 Calls prog 295 #[int i64 n,slice l N m] w λK r=>∃vS vD vL St De Le,K=returned (.tuple #[.agg #[vS,vD,vL],bool true])/\oI n L St De Le/\
  OwnS r w.heap.size 359 2 (λ_=>False) vS (St.map gY)/\OwnI r w.heap.size vD De/\OwnI r w.heap.size vL Le/\(∀b,vD.ownBlock=some b->vL.ownBlock≠some b)/\Below w.heap.size w r:=by
 have HL:=ae ((lJ L).bl hL);have M:=ae hN;have aE:=ae J;have ad:PH (∀x∈L,x.length<=1000/\∀c∈x,c<n):=ae λx P=>⟨(J x P).1,(J x P).2.1⟩;clear hL hN J;go_enter func295,ntmps295;refine wp_seq_k λK1 s=> ?_;have t:=ae s;clear s;go_wp2_with fail;refine t.o _ _ ?_;clear t;have u:=(az w.heap.size w).alloc (aj _) (cells #[slice none 0 0,slice none 0 0,slice none 0 0] 290);have aF:=ae (Blk.new w 290 #[slice none 0 0,slice none 0 0,slice none 0 0]);have aK:=ae u;have aM:=ae ((lJ L).new HL.o u);have ap:(w.alloc (cells #[slice none 0 0,slice none 0 0,slice none 0 0] 290)).heap.size=w.heap.size+1:=by simp
 have aO:=ae ap;clear u ap;generalize w.alloc (cells #[slice none 0 0,slice none 0 0,slice none 0 0] 290)=w0 at*;refine qF 1 0 (λx a2 w2=>∃(g gl gu Go C:Nat) (op us:List Bool) (vS vD:Value) (St:List (Nat×Nat)) (De:PI),(sO op<x/\PH (PM w w2 w.heap.size C w.heap.size Go g gl gu n N (slice l N m) op us vS vD (slice none 0 0) St De [])/\PH (PlInv n L op us St De))/\∃d:Nat->Value,a2= { tmps:=#[int i64 n,slice l N m,undef,undef,pointer (some ⟨w.heap.size,0,none⟩),bool false,pointer (some ⟨g,0,none⟩),d 7,pointer (some ⟨Go,0,none⟩),d 9,d 10,d 11,d 12,d 13,d 14,d 15,d 16,d 17,d 18,d 19,d 20,d 21,d 22,d 23,d 24,d 25,d 26,d 27,d 28,d 29,d 30,d 31,d 32,d 33,d 34,d 35,d 36,d 37,d 38,d 39,d 40,d 41,d 42,d 43,d 44,d 45,d 46,d 47,d 48,d 49,d 50,d 51,d 52,d 53,d 54,d 55,d 56,d 57,d 58,d 59,d 60,d 61,d 62,d 63,d 64,d 65,d 66,d 67,d 68,d 69,d 70,d 71,d 72,d 73,d 74,d 75,d 76,d 77,d 78,d 79,d 80,d 81,d 82,d 83,d 84,d 85,d 86,d 87,d 88,d 89,d 90,d 91,d 92,d 93,d 94,d 95,d 96,d 97,d 98,d 99,d 100,d 101,d 102,d 103,d 104,d 105,d 106,d 107],defers:=[] }) (λa2 w2=>∃(g gl gu Go C:Nat) (op us:List Bool) (vS vD:Value) (St:List (Nat×Nat)) (De:PI),(PH (∀c,c<n->op.getD c false=false)/\PH (PM w w2 w.heap.size C w.heap.size Go g gl gu n N (slice l N m) op us vS vD (slice none 0 0) St De [])/\PH (PlInv n L op us St De))/\∃d:Nat->Value,a2= { tmps:=#[int i64 n,slice l N m,undef,undef,pointer (some ⟨w.heap.size,0,none⟩),bool false,pointer (some ⟨g,0,none⟩),d 7,pointer (some ⟨Go,0,none⟩),d 9,d 10,d 11,d 12,d 13,d 14,d 15,d 16,d 17,d 18,d 19,d 20,d 21,d 22,d 23,d 24,d 25,d 26,d 27,d 28,d 29,d 30,d 31,d 32,d 33,d 34,d 35,d 36,d 37,d 38,d 39,d 40,d 41,d 42,d 43,d 44,d 45,d 46,d 47,d 48,d 49,d 50,d 51,d 52,d 53,d 54,d 55,d 56,d 57,d 58,d 59,d 60,d 61,d 62,d 63,d 64,d 65,d 66,d 67,d 68,d 69,d 70,d 71,d 72,d 73,d 74,d 75,d 76,d 77,d 78,d 79,d 80,d 81,d 82,d 83,d 84,d 85,d 86,d 87,d 88,d 89,d 90,d 91,d 92,d 93,d 94,d 95,d 96,d 97,d 98,d 99,d 100,d 101,d 102,d 103,d 104,d 105,d 106,d 107],defers:=[] }) (n+1) _ rfl rfl ?_ ?_ ?_
 ·intro T z
  have A:=ae z;clear z;have e:=ae (Bh n N l m _ L w0 aM.o M.o ao hn aE.o);refine wp_seq_k λK1 s=> ?_;have t:=ae s;clear s;go_wp2_with fail;refine e.o.mono ?_;rintro K f ⟨rfl,rfl⟩;clear e;go_wp2_with fail;refine t.o _ _ ?_;clear t;refine wp_seq_k λK1 s=> ?_;have t:=ae s;clear s;have D:∀w:World,(Instr.makeSlice 293 (int i64 (n:Int)) (int i64 (n:Int))).run prog w=.ok (slice (some ⟨w.heap.size,0,none⟩) n n) (w.alloc (cells (bX (replicate n false)).toArray 4)):=λw=>pE (by omega) w;have E:∀w:World,(Instr.makeSlice 293 (int i64 (N:Int)) (int i64 (N:Int))).run prog w=.ok (slice (some ⟨w.heap.size,0,none⟩) N N) (w.alloc (cells (bX (replicate N false)).toArray 4)):=λw=>pE (by omega) w;go_upto_region 3 with fail;go_cut [6] (λi e=>∃g gl gu,i=pointer (some ⟨g,0,none⟩)/\PH (PlSt e g gl gu n N (slice l N m) (replicate n false) (replicate N false))/\PH (Below f.heap.size f e)/\PH (f.heap.size<=g/\f.heap.size<=gl/\f.heap.size<=gu))
  case first=>
   generalize e:(bX (replicate n false)).toArray=k at*;generalize i:(bX (replicate N false)).toArray=o at*;have q:=ae e;have v:=ae i;clear e i;go_region_law (first | simp only[D] | simp only[E])
   all_goals(
    go_wp2_with fail;go_meet
    first
    | (obtain⟨V,e,i,j⟩:=nM f k o #[slice l N m,slice (some ⟨f.heap.size,0,none⟩) n n,slice (some ⟨f.heap.size+1,0,none⟩) N N] 4 4 416
       refine⟨_,f.heap.size,f.heap.size+1,rfl,ae ⟨Blk.drewN i 1,Blk.drewN (by rw[q.o];exact V) 1,Blk.drewN (by rw[v.o];exact e) 1,aI,aI,by omega⟩,ae (below_drewN j 1),ae ⟨by omega,by omega,by omega⟩⟩)
    | (obtain⟨V,e,i,j⟩:=nM f o k #[slice l N m,slice (some ⟨f.heap.size+1,0,none⟩) n n,slice (some ⟨f.heap.size,0,none⟩) N N] 4 4 416
       refine⟨_,f.heap.size+1,f.heap.size,rfl,ae ⟨Blk.drewN i 1,Blk.drewN (by rw[q.o];exact e) 1,Blk.drewN (by rw[v.o];exact V) 1,aI,aI,by omega⟩,ae (below_drewN j 1),ae ⟨by omega,by omega,by omega⟩⟩))
  case rest=>
   obtain⟨g,gl,gu,rfl,v,k,G⟩:=hcut;clear D E;refine t.o _ _ ?_;clear t;refine wp_seq_k λK1 s=> ?_;have t:=ae s;clear s;have aa:PH (∃op,PlSt wc g gl gu n N (slice l N m) op (replicate N false)/\∀c,c<0->op.getD c false=true):=ae ⟨_,v.o,λc h=>absurd h (Nat.not_lt_zero c)⟩;have p1:=v.o.blk.cell 1;go_wp2_with fail;clear p1;go_loopw [32] (λi wr=>∃e:Nat,e<=n/\i=int i64 e/\PH (∃op,PlSt wr g gl gu n N (slice l N m) op (replicate N false)/\∀c,c<e->op.getD c false=true)/\PH (Below f.heap.size f wr)) (λi _=>n-(intOf i).toNat)
   case atStart=>exact⟨0,by omega,rfl,aa,k⟩
   case round=>
    clear aa k v;obtain⟨e,U,rfl,Q,k⟩:=hrel;by_cases ag:e<n
    ·have aR:(e:Int)<(n:Int):=by omega
     obtain⟨op,j,q⟩:=Q.o;have p1:=j.blk.cell 1;have hc:=j.cellO ag;have I:=j.opb.frozen e;have o:e<op.length:=by rw[j.ol];exact ag
     have B:PH (∃op,PlSt (wr.setCell ⟨gl,e,none⟩ (bool true)) g gl gu n N (slice l N m) op (replicate N false)/\∀c,c<e+1->op.getD c false=true):=ae ⟨_,j.setO e true,λc hc=>by
      rw[nN o];split
      ·rfl
      ·exact q c (by omega)⟩
     have H:PH (Below f.heap.size f (wr.setCell ⟨gl,e,none⟩ (bool true))):=ae (k.o.setCell (p:=⟨gl,e,none⟩) G.o.2.1 _);generalize op.getD e false=O at*;clear j q Q k o;go_wp2_with fail;go_roundw
     case rel=>exact⟨e+1,by omega,by go_num,B,H⟩
     case measure=>simp[intOf];omega
    ·obtain rfl:e=n:=by omega
     go_wp2_with fail;refine t.o _ _ ?_;clear t;refine wp_seq_k λK1 s=> ?_;have t:=ae s;clear s;go_wp2_with fail;refine t.o _ _ ?_;clear t;refine wp_seq (wp_label ?_);refine A.o _ _ ?_;clear A;obtain⟨op,j,q⟩:=Q.o
     have I:op=replicate e true:=ext_getElem (by rw[j.ol,aI]) λi B W=>by
      have:=q i (by rw[j.ol] at B;exact B);rw[af,ah B] at this;rw[getElem_replicate];exact this
     subst I;have u:=(az wr.heap.size wr).alloc (aj _) (cells #[slice none 0 0,slice none 0 0,slice none 0 0] 290);have X:=G.o;have ap:=aO.o;have Y:=k.o.size;have Z:(wr.alloc (cells #[slice none 0 0,slice none 0 0,slice none 0 0] 290)).heap.size=wr.heap.size+1:=(by simp);have l1:=j.blk.lt;have l2:=j.opb.lt;have l3:=j.usb.lt
     have O:PM w (wr.alloc (cells #[slice none 0 0,slice none 0 0,slice none 0 0] 290)) w.heap.size (wr.heap.size+1) w.heap.size wr.heap.size g gl gu e N (slice l N m) (replicate e true) (replicate N false) (slice none 0 0) (slice none 0 0) (slice none 0 0) [] [] []:=
      ⟨j.new u,(aF.o.below k.o (by omega)).below u (by omega),Blk.new wr _ _,OwnS.nil _ _ _ _ _,OwnI.nil _ _,OwnI.nil _ _,λb o=>by simp[Value.ownBlock] at o,(aK.o.trans (k.o.mono (by omega))).trans (u.mono (by omega)),by omega,by omega,by omega⟩
     have S:sO (replicate e true)<e+1:=by
      unfold sO;exact Nat.lt_succ_of_le (aP (length_filter_le _ _) (by rw[aI];exact aj _))
     have H:=PlInv.begin e L;rw[M.o] at H;exact⟨g,gl,gu,wr.heap.size,_,_,_,_,_,_,_,⟨S,ae O,ae H⟩,dV _ _ rfl⟩
 ·rintro x a2 w2 ⟨g,gl,gu,Go,C,op,us,vS,vD,St,De,⟨P,j,S⟩,d,rfl⟩
  have f:=j.o;have k:(lJ L).ok w2 (Bl w.heap.size) [slice l N m]:=(lJ L).keep HL.o λe q _=>⟨f.bl.block e q,q⟩;have q:=ae (l7 n n (some ⟨gl,0,none⟩) op w2 f.pl.rdo (by omega));have CS:=ae (Dx g gl gu n N l m _ op us L w2 f.pl k M.o ao ad.o);have aq:=ae k;have p1:=f.pl.blk.cell 1;clear f k;go_wp2_with fail;refine q.o.mono ?_;rintro K w3 ⟨b,rfl,ar,au,aT⟩;subst aT;clear q;cases b with
  | false=>
    have HO:=ae (au rfl);clear ar au CS;go_wp2_with fail;go_step3;exact .inr ⟨rfl,g,gl,gu,Go,C,op,us,vS,vD,St,De,⟨HO,j,S⟩,dV _ _ rfl⟩
  | true=>
    have av:=ae (ar rfl);clear ar au p1;go_wp2_with fail;refine CS.o.mono ?_;rintro K k ⟨h,o⟩;have T:=j.o.new o;have aw:=ae ((lJ L).new aq.o o);have aV:=S.o.count;rw[M.o] at aV;rcases h with⟨q,c,rfl,hr,hu,hc⟩ | ⟨rfl,aB⟩
    ·have u:=(az k.heap.size k).alloc (aj _) (cells #[int i64 q,int i64 c] 359)
     have E:=ae (T.new u);have G:=Blk.new k 359 #[int i64 q,int i64 c];obtain⟨v,z,A,rfl⟩:=T.st.sl;have aA:=T.hi;have aX:=T.st.lt;have D:=ae (show q<N/\us.getD q false=false/\gI op (L.getD q [])=[c] from⟨hr,hu,hc⟩);have c0:=E.o.go.cell 0;have k0:=G.cell 0;have a0:=G.lt;have V:=G.cell 1;clear u G T aq aw CS hr hu hc o av;go_upto_region 13 with fail;generalize k.alloc (cells #[int i64 q,int i64 c] 359)=X at*;have bb:([]:PI).length<=1000000:=(by simp);have a1:(St.map gY).length<=1000000:=(by rw[aC];omega);have a3:C<=X.heap.size:=E.o.hi.2.2.2.2.2
     go_wp2_with (at_builtin;refine gM (w:=X) rfl _ _ rfl underlying288 FJ rfl (by decide) (by decide) E.o.st a3 a1 (R:=gY (q,c)) (I6 (q,c) _ _) rfl rfl rfl ?_)
     intro v6 I O Y ax U ay;have ai:OwnS I C 359 2 (λ_=>False) v6 ((St++[(q,c)]).map gY):=(by rw[aU];exact O);obtain⟨a6,n6,c6,rfl⟩:=O.sl;have Z:=E.o.step ai Y U;have G:Blk I Go 290 #[slice v z A,vD,slice none 0 0]:=(Y.block Go aA.2.1).trans E.o.go;have d0:=G.cell 0;have f0:=G.frozen 0;have ab:I.heap[k.heap.size]? =X.heap[k.heap.size]? :=U _ a0 (λK=>by have:=aX _ K.symm;omega);have ak:=(World.cell?_of_block (w:=X) (a:=⟨k.heap.size,0,none⟩) ab).trans k0;have am:=(World.cell?_of_block (w:=X) (a:=⟨k.heap.size,1,none⟩) ab).trans V;have an:¬k.heap.size=Go:=(by omega);have ac:=λ(b:Nat) (o:b≠Go)=>bE I ⟨Go,0,none⟩ (slice a6 n6 c6) b o;have m0:=(World.cell?_of_block (w:=I) (a:=⟨k.heap.size,0,none⟩) (ac _ an)).trans ak;have m1:=(World.cell?_of_block (w:=I) (a:=⟨k.heap.size,1,none⟩) (ac _ an)).trans am;have H:=ae Z;clear O ai Y ax U ay G Z ab ac E;go_upto_region 14 with fail;clear d0 f0 ak am c0 k0 V;generalize I.setCell ⟨Go,0,none⟩ (slice a6 n6 c6)=O at*;have t1:=H.o.pl.blk.cell 1;have t2:=H.o.pl.blk.cell 2
     have J:c<n:=by
      have B:c∈gI op (L.getD q []):=(by rw[D.o.2.2];simp);exact(ad.o _ (by rw[af,ah (by rw[M.o];exact D.o.1)];exact aQ _)).2 c (mem_filter.1 B).1
     have U:op.getD c false=true:=by
      have B:c∈gI op (L.getD q []):=(by rw[D.o.2.2];simp);exact(mem_filter.1 B).2
     have a4:=D.o.1;have a5:(c:Int)<(n:Int):=(by omega);have bc:(q:Int)<(N:Int):=(by omega);have t4:=H.o.pl.cellU a4;have t5:=H.o.pl.usb.frozen q;have t6:=H.o.pl.cellO J;have t7:=H.o.pl.opb.frozen c;have ai:=ae (S.o.told (λx P=>(ad.o x P).2) (by rw[M.o];exact D.o.1) D.o.2.1 D.o.2.2);have ak:PH (sO (op.set c false)<sO op):=ae (Bi U);generalize us.getD q false=b1 at*;generalize op.getD c false=b2 at*;obtain⟨n1,n2,n3⟩:=H.o.pl.nes;have bd:¬gl=gu:=n3;have be:¬gu=gl:=λK=>n3 K.symm;have ac:¬g=gl:=n1;have am:¬g=gu:=n2;have ax:¬k.heap.size=gl:=(by omega);have ay:¬k.heap.size=gu:=(by omega);have a8:=ae λab=>((H.o.new (below_drewN (az _ _) ab)).setU q true).setO c false;have a9:=ae λab=>((H.o.new (below_drewN (az _ _) ab)).setO c false).setU q true
     have HS:PH (∀r:World,(∀b,b≠gl->b≠gu->r.heap[b]? =O.heap[b]?)->r.cell? ⟨g,1,none⟩=some (slice (some ⟨gl,0,none⟩) n n)/\r.cell? ⟨g,2,none⟩=some (slice (some ⟨gu,0,none⟩) N N)/\r.cell? ⟨k.heap.size,0,none⟩=some (int i64 q)/\r.cell? ⟨k.heap.size,1,none⟩=some (int i64 c)):=ae λr h=>
      ⟨(World.cell?_of_block (w:=O) (a:=⟨g,1,none⟩) (h g ac am)).trans t1,(World.cell?_of_block (w:=O) (a:=⟨g,2,none⟩) (h g ac am)).trans t2,(World.cell?_of_block (w:=O) (a:=⟨k.heap.size,0,none⟩) (h _ ax ay)).trans m0,(World.cell?_of_block (w:=O) (a:=⟨k.heap.size,1,none⟩) (h _ ax ay)).trans m1⟩
     clear U;go_region_held3 (λr=>r.cell? ⟨g,1,none⟩=some (slice (some ⟨gl,0,none⟩) n n)/\r.cell? ⟨g,2,none⟩=some (slice (some ⟨gu,0,none⟩) N N)/\r.cell? ⟨k.heap.size,0,none⟩=some (int i64 q)/\r.cell? ⟨k.heap.size,1,none⟩=some (int i64 c)) (exact HS.o _ (λb B W=>by first | exact rfl | exact bE _ _ _ _ B | exact bE _ _ _ _ W | exact(bE _ _ _ _ W).trans (bE _ _ _ _ B) | exact(bE _ _ _ _ B).trans (bE _ _ _ _ W))) (fail)
     all_goals(
      go_wp2_with fail;go_step3
      first
      | exact .inl ⟨rfl,sO op,P,g,gl,gu,Go,C,_,_,_,_,_,_,⟨ak.o,ae (a8.o 1),ai⟩,dV _ _ rfl⟩
      | exact .inl ⟨rfl,sO op,P,g,gl,gu,Go,C,_,_,_,_,_,_,⟨ak.o,ae (a9.o 1),ai⟩,dV _ _ rfl⟩)
    ·have u:=(az k.heap.size k).alloc (aj _) (cells #[int i64 0,int i64 0] 359)
     have E:=ae (T.new u);have aX:=ae aB;have r:=ae (Dz g gl gu n N l m _ op us L _ E.o.pl (by omega) ((lJ L).new aw.o u) M.o ao ad.o av.o);clear u T aq aw CS aB o av;go_upto_region 15 with fail;generalize k.alloc (cells #[int i64 0,int i64 0] 359)=X at*;go_wp2_with fail;refine r.o.mono ?_;rintro K I ⟨⟨c,rfl,J,U⟩,Y⟩;have V:=E.o.new Y;clear Y r E;obtain⟨r,B,D,rfl⟩:=OwnI.sl V.de;have c1:=V.go.cell 1;have ax:=V.hi.2.2.2.2.2;have ay:=V.hi.2.1;have am:=ae V;clear V
     go_wp2_with (at_builtin;refine nJ (w:=I) (y:=c) rfl _ _ ?hi rfl am.o.de ax (by omega) rfl rfl ?_)
     case hi=>first | rfl | trivial
     intro v7 O V W aA ab an;obtain⟨a7,n7,c7,rfl⟩:=OwnI.sl V;have ac:=am.o.dead rfl V W ab;have G:Blk O Go 290 #[vS,slice r B D,slice none 0 0]:=(W.block Go ay).trans am.o.go;have d1:=G.cell 1;have f1:=G.frozen 1;have q1:=ac.pl.blk.cell 1;have q2:=ac.pl.cellO J;have q3:=ac.pl.opb.frozen c;have a0:=ae (ac.setO c false);have ai:=ae (S.o.dead (by rw[M.o];exact aX.o) J U);have ak:=ae (Bi U);have a5:(c:Int)<(n:Int):=(by omega);rw[U] at q2;clear U V W aA ab an ac G am c1;go_wp2_with fail;go_step3;exact .inl ⟨rfl,sO op,P,g,gl,gu,Go,C,_,_,_,_,_,_,⟨ak.o,ae a0.o,ai⟩,dV _ _ rfl⟩
 ·rintro a2 w2 ⟨g,gl,gu,Go,C,op,us,vS,vD,St,De,⟨HO,j,S⟩,d,rfl⟩
  have f:=j.o;have k:=f.pl.blk.cell 2
  have U:PH (oI n L St De ((range N).filter λi=> !us.getD i false)):=ae (by
   have:=S.o.done HO.o
   rwa [M.o] at this)
  have aa:PH (∃vL,PM w w2 w.heap.size C w.heap.size Go g gl gu n N (slice l N m) op us vS vD vL St De ((range 0).filter λi=> !us.getD i false)):=ae ⟨_,f⟩;clear f j S HO;go_wp2_with fail;clear k;go_loopw [93] (λi wr=>∃e:Nat,e<=N/\i=int i64 e/\PH (∃vL,PM w wr w.heap.size C w.heap.size Go g gl gu n N (slice l N m) op us vS vD vL St De ((range e).filter λi=> !us.getD i false))) (λi _=>N-(intOf i).toNat)
  case atStart=>exact⟨0,by omega,rfl,aa⟩
  case round=>
   clear aa;obtain⟨e,X,rfl,Q⟩:=hrel;obtain⟨vL,f⟩:=Q.o;by_cases ag:e<N
   ·have aR:(e:Int)<(N:Int):=by omega
    have T:=f.pl.cellU ag
    have K:PH ((range (e+1)).filter (λi=> !us.getD i false)=((range e).filter λi=> !us.getD i false)++if us.getD e false=true then [] else [e]):=ae (by
     rw[range_succ,filter_append,filter_cons];cases us.getD e false <;> rfl)
    have Y:((range e).filter λi=> !us.getD i false).length<=2000:=aP (length_filter_le _ _) (by rw[aZ];omega);generalize (range e).filter (λi=> !us.getD i false)=Le at*;cases hky:us.getD e false with
    | true=>
      rw[hky] at T K;rw[bg rfl,append_nil] at K;have j:=ae f;clear f hky Q;go_wp2_with fail;go_roundw
      case rel=>exact⟨e+1,by omega,by go_num,ae ⟨_,by rw[K.o];exact j.o⟩⟩
      case measure=>simp[intOf];omega
    | false=>
      rw[hky] at T K;rw[bh (by decide)] at K;obtain⟨k,q,E,rfl⟩:=OwnI.sl f.le;have P:=f.go.cell 2;have ax:=f.hi.2.2.2.2.2;have ay:=f.hi.2.1;have j:=ae f;clear f hky Q
      go_wp2_with (at_builtin;refine nJ (w:=wr) (y:=e) rfl _ _ ?hi rfl j.o.le ax (by omega) rfl rfl ?_)
      case hi=>first | rfl | trivial
      intro v7 O V W aA ab an;obtain⟨a7,n7,c7,rfl⟩:=OwnI.sl V;have Z:=j.o.left V W ab an;have G:Blk O Go 290 #[vS,vD,slice k q E]:=(W.block Go ay).trans j.o.go;have d2:=G.cell 2;have f2:=G.frozen 2;rw[<-K.o] at Z;have H:=ae Z;clear V W aA ab an Z G j P;go_wp2_with fail;go_roundw
      case rel=>exact⟨e+1,by omega,by go_num,ae ⟨_,H.o⟩⟩
      case measure=>simp[intOf];omega
   ·obtain rfl:e=N:=by omega
    obtain⟨v,z,A,rfl⟩:=f.st.sl;obtain⟨r,B,D,rfl⟩:=OwnI.sl f.de;obtain⟨k,q,E,rfl⟩:=OwnI.sl f.le;have c0:=f.go.cell 0;have c1:=f.go.cell 1;have P:=f.go.cell 2;have j:=ae f;clear f Q
    go_wp2_with (change wpList _ _ _ (Oper.mk none (Op.store 290 _ _) _ _ _ _ :: _) _ _;refine wpList_store_row rfl 290 _ _ rfl w.heap.size #[slice v z A,slice r B D,slice k q E] rfl rfl 290 _ j.o.gr (by kernel_rfl) rfl (by kernel_rfl) ?_)
    have H:=ae (j.o.gr.row #[slice v z A,slice r B D,slice k q E]);have K:=ae (bW j.o.bl (aj _) #[slice v z A,slice r B D,slice k q E]);clear c0 c1 P;have G:∀b,b≠w.heap.size->(wr.setRow w.heap.size #[slice v z A,slice r B D,slice k q E]).heap[b]? =wr.heap[b]? :=λb o=>setRow_other wr w.heap.size b _ o;have W:=j.o.hi;have O:PH (OwnS (wr.setRow w.heap.size #[slice v z A,slice r B D,slice k q E]) C 359 2 (λ_=>False) (slice v z A) (St.map gY)):=ae (j.o.st.keepAt (λb o=>G b (by have:=(j.o.st.lt b o).1;omega)) λb o=>o.elim);have T:PH (OwnI (wr.setRow w.heap.size #[slice v z A,slice r B D,slice k q E]) C (slice r B D) De):=ae (bZ j.o.de λb o=>G b (by have:=(World.ownsRow.lt j.o.de b o).1;omega));have V:PH (OwnI (wr.setRow w.heap.size #[slice v z A,slice r B D,slice k q E]) C (slice k q E) ((range e).filter λi=> !us.getD i false)):=ae (bZ j.o.le λb o=>G b (by have:=(World.ownsRow.lt j.o.le b o).1;omega));clear G;generalize wr.setRow w.heap.size #[slice v z A,slice r B D,slice k q E]=I at*;go_wp2_with fail;simp only[dz]
    (try simp only[Exit.inBlock,Exit.then])
    refine bodyPost_ret (eD rfl _ _ w.heap.size 290 #[slice v z A,slice r B D,slice k q E] (0,0) _ rfl H.o underlying290 rfl (by kernel_rfl)) rfl ?_;exact⟨_,_,_,_,_,_,rfl,U.o,O.o.base (by omega) (λ_ h=>h),T.o.base (by omega),V.o.base (by omega),j.o.ap,K.o⟩
def svC(a K H Z:Nat)(b rest vS vD vL c d:Value):Array Value:=#[pointer (some ⟨a,0,none⟩),int i64 K,int i64 H,int i64 Z,b,rest,vS,vD,vL,c,d]
theorem Fld.belowC{w w':World}{a C:Nat}(b:Fld w a)(c:Below C w w')(d:a<C):Fld w' a:=(c.block a d).trans b
theorem Blk.belowC{w w':World}{g C:Nat}{t:TypeId}{a:Array Value}(b:Blk w g t a)(c:Below C w w')(d:g<C):Blk w' g t a:=(c.block g d).trans b
theorem Mj(g G K H Z n t c C D gw gm aF aK:Nat)(aL rest vS vD vL:Value)(aw am s y:PK)(r u:Nat)(i q j k:PI)(w:World)
 (hg:Blk w g 292 (svC G K H Z aL rest vS vD vL (slice (some ⟨gw,0,none⟩) n n) (slice (some ⟨gm,0,none⟩) n n)))(hF:Fld w G)(F:g<C/\G<C/\gw<C/\gm<C)(ht:t<256)(hc:c<n)
 (hw:w.cell? ⟨gw,c,none⟩=some (slice aw D aF))(hm:w.cell? ⟨gm,c,none⟩=some (slice am Z aK))(ag:Rd w C aw D (bF i))(ai:Rd w C am Z (bF q))(ap:By i)(aq:By q)
 (hx:OwnB w C (slice s D r) j)(hy:OwnB w C (slice y Z u) k)(ar:j.length=D)(au:k.length=Z)(ab:By j)(av:By k)(aA:∀b,(Value.slice s D r).ownBlock=some b->(Value.slice y Z u).ownBlock≠some b)(hD:D<=1000000)(hZ:Z<=1000000):
 Calls prog 299 #[pointer (some ⟨g,0,none⟩),.int .u8 t,int i64 c,slice s D r,slice y Z u] w λv a=>v=returned (.tuple #[])/\OwnB a C (slice s D r) (lU t i j)/\OwnB a C (slice y Z u) (lU t q k)/\Below C w a:=by
 have d:i.length=D:=by have:=ag.len;rwa [bG] at this
 have e:q.length=Z:=by have:=ai.len;rwa [bG] at this
 have a3:(c:Int)<(n:Int):=by omega
 have HG:=ae hg;have HF:=ae hF;have aM:=ae ag;have aO:=ae ai;have aR:=ae ap;have aS:=ae aq;have aT:=ae ab;have aV:=ae av;have ac:PH (i.length=j.length):=ae (by omega);have ad:PH (q.length=k.length):=ae (by omega);have I:=ae ar;have J:=ae au;have aB:=ae aA;have l:PH (OwnB w C (slice s D r) (ij t i j 0)):=ae hx;have m:=ae hy;have HW:=ae hw;have HM:=ae hm;have aD:=ae (az C w);have a:=hg.cell 9;have f:=hw;clear hg hF ag ai ap aq ab av hx hy hw hm aA d e ar au;go_enter func299,ntmps299;unfold svC at a;go_wp2_with fail;clear a f;go_loopw [22] (λo wr=>∃d:Nat,d<=D/\o=int i64 d/\PH (OwnB wr C (slice s D r) (ij t i j d))/\PH (OwnB wr C (slice y Z u) k)/\PH (Below C w wr)) (λo _=>D-(intOf o).toNat)
 case atStart=>exact⟨0,by omega,rfl,l,m,aD⟩
 case round=>
  clear l m aD;obtain⟨d,a4,rfl,l,m,e⟩:=hrel;by_cases L:d<D
  ·have aX:(d:Int)<(D:Int):=by omega
   obtain⟨bx,ox,rfl,ab,M⟩:=(aM.o.below e.o (aj _)).atB L;have qx:=M d L;have z:(ij t i j d).length=D:=(by rw[pR ac.o (by rw[I.o];omega)];exact I.o);obtain⟨f,a0,A,ak,a1⟩:=l.o.form (by omega);injection A with A e4 e3;clear e4;subst A e3;obtain⟨O,fy⟩:=l.o.cell z L;rw[pU ac.o (by rw[I.o];exact L)] at O;have B:=l.o.stored z d (j.getD d 0 ^^^ fm t (i.getD d 0));rw[pV ac.o (by rw[I.o];exact L)] at B;have P:=getD_lt aR.o d;have Q:=getD_lt aT.o d;have R:=(HG.o.belowC e.o F.1).cell 0;have S:=ae (HF.o.belowC e.o F.2.1);clear M z;generalize i.getD d 0=E at*;generalize j.getD d 0=T at*;have U:=ae (ut G t E ht P wr.drew (Blk.drew S.o));have V:=iC t E;generalize fm t E=W at*;have e1:=u8_xor_nat T W Q V;generalize T ^^^ W=x at*;have X:=ae B;clear B P Q V;have Y:=ae (aB.o f rfl);unfold svC at R;go_wp2_with fail
   go_region_with ((go_at_call 307;refine U.o.mono ?_;rintro v w3 ⟨rfl,a,rfl⟩))
   all_goals(
    have al:PH (OwnB ((wr.drewN (1+a)).setCell ⟨f,d,none⟩ (.int .u8 (x:Nat))) C (slice (some ⟨f,0,none⟩) D r) (ij t i j (d+1))):=ae X.o.1;have an:PH (OwnB ((wr.drewN (1+a)).setCell ⟨f,d,none⟩ (.int .u8 (x:Nat))) C (slice y Z u) k):=ae (bZ (m.o.drewN (1+a)) λb hb=>bE _ _ _ _ (λv=>Y.o (by rw[hb,v])));have ao:PH (Below C w ((wr.drewN (1+a)).setCell ⟨f,d,none⟩ (.int .u8 (x:Nat)))):=ae ((below_drewN e.o (1+a)).setCell (p:=⟨f,d,none⟩) ak _);clear X l m e S U qx O fy R Y;generalize (wr.drewN (1+a)).setCell ⟨f,d,none⟩ (.int .u8 (x:Nat))=w4 at*;go_wp2_with fail;go_roundw
    case rel=>exact⟨d+1,by omega,by go_num,al,an,ao⟩
    case measure=>simp[intOf];omega)
  ·obtain rfl:d=D:=by omega
   have aa:ij t i j d=lU t i j:=(by rw[<-I.o];exact mM ac.o);rw[aa] at l;clear aa;have aE:PH (OwnB wr C (slice y Z u) (ij t q k 0)):=m;have aa:=(HG.o.belowC e.o F.1).cell 10;have a2:=(e.o.cell (p:=⟨gm,c,none⟩) F.2.2.2).trans HM.o;clear m;unfold svC at aa;go_wp2_with fail;clear aa a2;go_loopw [49] (λo wq=>∃a:Nat,a<=Z/\o=int i64 a/\PH (OwnB wq C (slice s d r) (lU t i j))/\PH (OwnB wq C (slice y Z u) (ij t q k a))/\PH (Below C w wq)) (λo _=>Z-(intOf o).toNat)
   case atStart=>exact⟨0,by omega,rfl,l,aE,e⟩
   case round=>
    clear l aE e;obtain⟨a,a2,rfl,l,m,e⟩:=hrel;by_cases aa:a<Z
    ·have aX:(a:Int)<(Z:Int):=by omega
     obtain⟨bx,ox,rfl,ab,M⟩:=(aO.o.below e.o (aj _)).atB aa;have qx:=M a aa;have z:(ij t q k a).length=Z:=(by rw[pR ad.o (by rw[J.o];omega)];exact J.o);obtain⟨f,a0,A,ak,a1⟩:=m.o.form (by omega);injection A with A e4 e3;clear e4;subst A e3;obtain⟨O,fy⟩:=m.o.cell z aa;rw[pU ad.o (by rw[J.o];exact aa)] at O;have B:=m.o.stored z a (k.getD a 0 ^^^ fm t (q.getD a 0));rw[pV ad.o (by rw[J.o];exact aa)] at B;have P:=getD_lt aS.o a;have Q:=getD_lt aV.o a;have R:=(HG.o.belowC e.o F.1).cell 0;have S:=ae (HF.o.belowC e.o F.2.1);clear M z;generalize q.getD a 0=E at*;generalize k.getD a 0=T at*;have U:=ae (ut G t E ht P wr.drew (Blk.drew S.o));have V:=iC t E;generalize fm t E=W at*;have e1:=u8_xor_nat T W Q V;generalize T ^^^ W=x at*;have X:=ae B;have Y:PH ((Value.slice s d r).ownBlock≠some f):=ae λv=>aB.o f v rfl;clear B P Q V;unfold svC at R;go_wp2_with fail
     go_region_with ((go_at_call 307;refine U.o.mono ?_;rintro v w3 ⟨rfl,o,rfl⟩))
     all_goals(
      have an:PH (OwnB ((wr.drewN (1+o)).setCell ⟨f,a,none⟩ (.int .u8 (x:Nat))) C (slice (some ⟨f,0,none⟩) Z u) (ij t q k (a+1))):=ae X.o.1;have al:PH (OwnB ((wr.drewN (1+o)).setCell ⟨f,a,none⟩ (.int .u8 (x:Nat))) C (slice s d r) (lU t i j)):=ae (bZ (l.o.drewN (1+o)) λb hb=>bE _ _ _ _ (λv=>Y.o (by rw[hb,v])));have ao:PH (Below C w ((wr.drewN (1+o)).setCell ⟨f,a,none⟩ (.int .u8 (x:Nat)))):=ae ((below_drewN e.o (1+o)).setCell (p:=⟨f,a,none⟩) ak _);clear X l m e S U qx O fy R Y;generalize (wr.drewN (1+o)).setCell ⟨f,a,none⟩ (.int .u8 (x:Nat))=w4 at*;go_wp2_with fail;go_roundw
      case rel=>exact⟨a+1,by omega,by go_num,al,an,ao⟩
      case measure=>simp[intOf];omega)
    ·obtain rfl:a=Z:=by omega
     have f:ij t q k a=lU t q k:=(by rw[<-J.o];exact mM ad.o);rw[f] at m;clear f;go_wp2_with fail
     go_end0
     exact⟨rfl,l.o,m.o,e.o⟩
def Oc(w:World)(B:Nat)(p:Nat->Bool)(xs:PI):Prop:=∀a∈xs,Calls prog 298 #[int i64 (a:Nat),pointer (some ⟨B,0,none⟩)] w λb c=>b=returned (bool (p a))/\∃a,c=w.drewN a
theorem Ah(B n c:Nat)(a:PK)(xs:PI)(p:Nat->Bool)(w:World)(l:Rd w w.heap.size a n (bH xs))(t:∀j,Oc (w.drewN j) B p xs)(I:n<=1000000):
 Calls prog 123 #[slice a n c,.func (.func 298) #[] #[pointer (some ⟨B,0,none⟩)]] w λm b=>(∃z:Int,m=returned (int i64 z)/\((z= -1/\∀i,i<n->p (xs.getD i 0)=false)\/∃i:Nat,z=(i:Int)/\i<n/\p (xs.getD i 0)=true/\∀k,k<i->p (xs.getD k 0)=false))/\∃j,b=w.drewN j:=by
 have b:xs.length=n:=by have:=l.len;simpa[bH] using this
 have x:=ae l;have y:=ae t;have A:=ae b;clear l t b;go_enter func123,ntmps123;go_wp2_with fail;go_loopw [8] (λi wr=>∃k:Nat,k<=n/\i=int i64 k/\PH (∀i,i<k->p (xs.getD i 0)=false)/\PH (∃j,wr=w.drewN j)) (λi _=>n-(intOf i).toNat)
 case atStart=>exact⟨0,by omega,rfl,ae λi h=>absurd h (by omega),ae ⟨0,rfl⟩⟩
 case round=>
  obtain⟨k,J,rfl,o,b⟩:=hrel;obtain⟨j,d⟩:=b.o;clear b;by_cases q:k<n
  ·obtain⟨D,E,rfl,_,u⟩:=iA x.o q
   have K:wr.cell? ⟨D,E+k,none⟩=some (int i64 (xs.getD k 0:Nat)):=(by rw[d];exact u);have f:xs.getD k 0∈xs:=(by rw[getD_at (by rw[A.o];exact q)];exact aQ _);have e:=ae (y.o j _ f);rw[<-d] at e;clear u f;generalize f:xs.getD k 0=F at*;have v:=ae f;have L:(k:Int)<(n:Int):=(by omega);have b:=ae d;clear d f;cases hpx:p F with
   | false=>
     rw[hpx] at e;have r:=ae hpx;clear hpx;go_wp2_with fail;refine e.o.mono ?_;rintro m w2 ⟨rfl,i,f⟩;have s:PH (∃j,w2=w.drewN j):=ae ⟨j+i,by rw[f,b.o,World.drewN_drewN]⟩
     have G:PH (∀i,i<k+1->p (xs.getD i 0)=false):=ae λi h=>by
      rcases Nat.lt_succ_iff_lt_or_eq.1 h with H | rfl
      ·exact o.o i H
      ·rw[v.o];exact r.o
     clear f;go_wp2_with fail;go_roundw
     case rel=>exact⟨k+1,by omega,by go_num,G,s⟩
     case measure=>simp[intOf];omega
   | true=>
     rw[hpx] at e;have r:=ae hpx;clear hpx;go_wp2_with fail;refine e.o.mono ?_;rintro m w2 ⟨rfl,i,f⟩;have s:PH (∃j,w2=w.drewN j):=ae ⟨j+i,by rw[f,b.o,World.drewN_drewN]⟩;clear f;go_wp2_with fail;go_ret;exact⟨⟨_,rfl,.inr ⟨k,rfl,q,by rw[v.o];exact r.o,o.o⟩⟩,s.o⟩
  ·obtain rfl:k=n:=by omega
   have b:=ae d;clear d;go_wp2_with fail;go_ret;exact⟨⟨-1,rfl,.inl ⟨rfl,o.o⟩⟩,j,b.o⟩
theorem ko{α:Type}{p:α->Bool}{l:List α}{j:Nat}(a:j<l.length):(l.take (j+1)).filter p=(l.take j).filter p++if p l[j]=true then [l[j]] else []:=by
 rw[aN a,filter_append,filter_cons];split <;> simp
theorem oh{α:Type}{l:List α}{i:Nat}(a:i<l.length)(u:α):(l.set i u).take (i+1)=l.take i++[u]:=by
 rw[aN (by rw[length_set];exact a),getElem_set_self,take_set_of_le (aj _)]
theorem r9{α:Type}{l:List α}{i j:Nat}(a:i<j)(u:α):(l.set i u).drop j=l.drop j:=by
 rw[drop_set,bg a]
theorem Ev{w w':World}{C e k n m d g:Nat}{xs ys:List Value}(h:w.ownsRow C e k (slice (some ⟨g,0,none⟩) n d) n xs)(j:m<=n)(l:∃c a:Array Value,w.heap[g]? =some (.cells c e (0,0))/\w'.heap[g]? =some (.cells a e (0,0))/\a.size=c.size/\∀i,i<m*k->a[i]? =c[i]?)(f:ys=xs.take (m*k)):w'.ownsRow C e k (slice (some ⟨g,0,none⟩) m d) m ys:=by
 obtain⟨o,p⟩:=h;rcases p with⟨a,_⟩ | ⟨E,F,c,a,q,r,G,s,t,u⟩
 ·cases a
 ·injection a with a H v
  injection a with a;injection a with a _ _;subst a v;obtain⟨I,x,b,y,z,A⟩:=l;rw[r] at b;injection b with b;injection b with b _ _;subst b;have B:m*k<=n*k:=Nat.mul_le_mul_right k j;refine⟨by rw[f,aG,o];omega,.inr ⟨g,d,x,rfl,q,y,by omega,s,by rw[z];exact t,?_⟩⟩;rw[f,<-u,take_take,Nat.min_eq_left B];apply ext_getElem?;intro i;rw[List.getElem?_take,List.getElem?_take];split
  ·rename_i D
   have:=A i D;simpa using this
  ·rfl
theorem oq{b:Nat}{e:TypeId}:∀(vs:List Value) (o:Nat) (w:World) (a:Array Value),w.heap[b]? =some (.cells a e (0,0))->∃c:Array Value,(w.setCells b o vs).heap[b]? =some (.cells c e (0,0))/\c.size=a.size/\∀i,i<o->c[i]? =a[i]? :=by
 intro vs
 induction vs with
 | nil=>intro o w a c;exact⟨a,c,rfl,λ_ _=>rfl⟩
 | cons d vs f=>
   intro o w a c;obtain⟨h,j,k,l⟩:=f (o+1) (w.setCell ⟨b,o,none⟩ d) _ (heap_setCell_same w b o a e d c);refine⟨h,j,by rw[k];simp,λi m=> ?_⟩;rw[l i (by omega),Array.getElem?_setIfInBounds,bh (by omega)]
theorem qj{b k:Nat}(a:k≠b):∀(vs:List Value) (o:Nat) (w:World),(w.setCells b o vs).heap[k]? =w.heap[k]? :=by
 intro vs
 induction vs with
 | nil=>intro o w;rfl
 | cons d vs c=>intro o w;exact(c (o+1) _).trans (bE _ _ _ _ a)
structure Sz0 (w w':World):Prop where
 sz:w'.heap.size=w.heap.size
 bl:Below 0 w w'
theorem Sz0.refl(w:World):Sz0 w w:=⟨rfl,az _ _⟩
theorem Sz0.dr{w w1:World}(a:Sz0 w w1)(q:Nat):Sz0 w (w1.drewN q):=⟨a.sz,below_drewN a.bl q⟩
theorem Sz0.set{w w1:World}(a:Sz0 w w1)(p:Addr)(u:Value):Sz0 w (w1.setCell p u):=⟨by simpa using a.sz,a.bl.setCell (bu _) u⟩
theorem Sz0.cells{w w1:World}(a:Sz0 w w1)(b o:Nat)(vs:List Value):Sz0 w (w1.setCells b o vs):=by
 induction vs generalizing o w1 with
 | nil=>exact a
 | cons c vs d=>exact d (a.set ⟨b,o,none⟩ c) (o+1)
theorem yH{w w1:World}(a:Below 0 w w1)(b o:Nat)(vs:List Value):Below 0 w (w1.setCells b o vs):=by
 induction vs generalizing o w1 with
 | nil=>exact a
 | cons c vs d=>exact d (a.setCell (p:=⟨b,o,none⟩) (bu _) c) (o+1)
theorem yI(B C n c:Nat)(a:PK)(xs:PI)(p:Nat->Bool)(w:World)(v:OwnI w C (slice a n c) xs)(I:xs.length=n)(hC:C<=w.heap.size)
 (J:∀w',(∀b,b<w.heap.size->some b≠(Value.slice a n c).ownBlock->w'.heap[b]? =w.heap[b]?)->Oc w' B p xs)(hn:n<=1000000):
 Calls prog 66 #[slice a n c,.func (.func 298) #[] #[pointer (some ⟨B,0,none⟩)]] w λl w'=>∃m,l=returned (slice a m c)/\OwnI w' C (slice a m c) (xs.filter λf=> !p f)/\Sz0 w w'/\∀b,some b≠(Value.slice a n c).ownBlock->w'.heap[b]? =w.heap[b]? :=by
 have d:Rd w w.heap.size a n (bH xs):=by
  obtain⟨a',c',l,h,_⟩:=v.rd2 I;injection l with j _ _;subst j;exact h
 have i:=ae (Ah B n c a xs p w d (λe=>J _ λb _ _=>rfl) hn);have X:=ae J;have r:=ae I;have q:=ae v;clear d J I v;go_enter func66,ntmps66;go_wp2_with fail;refine i.o.mono ?_;rintro l K ⟨⟨ag,rfl,hz⟩,e,d⟩;have x:=ae d;clear d i;rcases hz with⟨rfl,A⟩ | ⟨d,rfl,L,M,A⟩
 ·have k:=ae A
  clear A;go_wp2_with fail;go_ret
  have o:xs.filter (λf=> !p f)=xs:=filter_eq_self.2 λf v=>by
   obtain⟨d,i,rfl⟩:=bC v;have:=k.o d (by rw[<-r.o];exact i);rw[getD_at i] at this;rw[this];rfl
  refine⟨n,rfl,by rw[o,x.o];exact q.o,by rw[x.o];exact(Sz0.refl w).dr _,λb _=>by rw[x.o];rfl⟩
 ·obtain⟨g,rfl,ai,ak⟩:=q.o.formA r.o (by omega)
  have al:n<=c/\c<=maxLen:=by
   rcases q.o.2 with⟨j,_⟩ | ⟨g',ad,O,j,hg,P,Y,Z,h5,h6⟩
   ·cases j
   ·injection j with _ _ e3
    subst e3;rw[<-r.o];exact⟨Y,Z⟩
  have aa:PH (∃i:PI,i.length=n/\OwnI K C (slice (some ⟨g,0,none⟩) n c) i/\i.take d=(xs.take (d+1)).filter (λf=> !p f)/\i.drop (d+1)=xs.drop (d+1)/\Sz0 w K/\∀b,b≠g->K.heap[b]? =w.heap[b]?):=ae ⟨xs,r.o,by rw[x.o];exact q.o,by
   rw[ko (by rw[r.o];exact L),filter_eq_self.2 λf v=> ?_]
   ·rw[getD_at (by rw[r.o];exact L)] at M
    rw[M];simp
   ·obtain⟨k,y,rfl⟩:=bC v
    rw[aG] at y;have:=A k (by omega);rw[getD_at (by omega)] at this;rw[getElem_take,this];rfl,rfl,by rw[x.o];exact(Sz0.refl w).dr _,λb _=>by rw[x.o];rfl⟩
  clear M A x q;go_wp2_with fail;go_loopw [5,6] (λo k wr=>∃d e:Nat,d<e/\e<=n/\o=int i64 d/\k=int i64 e/\PH (∃i:PI,i.length=n/\OwnI wr C (slice (some ⟨g,0,none⟩) n c) i/\i.take d=(xs.take e).filter (λf=> !p f)/\i.drop e=xs.drop e/\Sz0 w wr/\∀b,b≠g->wr.heap[b]? =w.heap[b]?)) (λ_ k _=>n-(intOf k).toNat)
  case atStart=>exact⟨d,d+1,by omega,by omega,rfl,by go_num,aa⟩
  case round=>
   clear aa L;obtain⟨d,e,am,an,rfl,rfl,Q⟩:=hrel;obtain⟨i,s,o,u,D,E,y⟩:=Q.o;by_cases ab:e<n
   ·have ao:(e:Int)<(n:Int):=by omega
    have ap:(d:Int)<(n:Int):=(by omega);obtain⟨cj,fj⟩:=o.cellA s ab;obtain⟨R,fi⟩:=o.cellA s (show d<n by omega)
    have U:i.getD e 0=xs.getD e 0:=by
     have S:(i.drop e)[0]? =(xs.drop e)[0]? :=(by rw[D]);rw[List.getElem?_drop,List.getElem?_drop,Nat.add_zero] at S;rw[af,af,S]
    rw[U] at cj;have k:e<xs.length:=(by rw[r.o];exact ab);have V:xs.getD e 0∈xs:=(by rw[getD_at k];exact aQ _);have z:=ae (X.o wr (λb _ t=>y b (λl=>t (by rw[l];rfl))) _ V);have T:=ae (ko (p:=λf=> !p f) k);rw[<-getD_at k] at T;have W:i.drop (e+1)=xs.drop (e+1):=(by rw[<-drop_drop,D,drop_drop]);have ac:=ae u;have HD:=ae W;have q:=ae o;have F:=ae s;have G:=ae E;have H:=ae y;clear U V k W u D o s E y Q;generalize xs.getD e 0=f at*;generalize i.getD d 0=yo at*;cases hpx:p f with
    | true=>
      rw[hpx] at z;have U:=ae hpx;clear hpx R fi;go_wp2_with fail;refine z.o.mono ?_;rintro l w2 ⟨rfl,V,k⟩;have W:PH (∃i:PI,i.length=n/\OwnI w2 C (slice (some ⟨g,0,none⟩) n c) i/\i.take d=(xs.take (e+1)).filter (λf=> !p f)/\i.drop (e+1)=xs.drop (e+1)/\Sz0 w w2/\∀b,b≠g->w2.heap[b]? =w.heap[b]?):=ae ⟨i,F.o,by rw[k];exact q.o,by rw[T.o,U.o,ac.o];simp,HD.o,by rw[k];exact G.o.dr _,λb t=>by rw[k];exact H.o b t⟩;clear k q G H z;go_wp2_with fail;go_roundw
      case rel=>(repeat apply Exists.intro);exact⟨⟨d,e+1,by omega,by omega,rfl,by go_num,W⟩,rfl⟩
      case measure=>simp[intOf];omega
    | false=>
      rw[hpx] at z;have U:=ae hpx;clear hpx;go_wp2_with fail;refine z.o.mono ?_;rintro l w2 ⟨rfl,V,k⟩;have aq:w2.cell? ⟨g,d,none⟩=some (int i64 yo):=(by rw[k];exact R);have ar:w2.frozen? ⟨g,d,none⟩=false:=(by rw[k];exact fi);have W:PH (∃i:PI,i.length=n/\OwnI (w2.setCell ⟨g,d,none⟩ (int i64 f)) C (slice (some ⟨g,0,none⟩) n c) i/\i.take (d+1)=(xs.take (e+1)).filter (λf=> !p f)/\i.drop (e+1)=xs.drop (e+1)/\Sz0 w (w2.setCell ⟨g,d,none⟩ (int i64 f))/\∀b,b≠g->(w2.setCell ⟨g,d,none⟩ (int i64 f)).heap[b]? =w.heap[b]?):=ae ⟨i.set d f,by rw[length_set];exact F.o,by rw[k];exact OwnI.storedA (w:=w2.drewN 0) (by rw[k];exact q.o) F.o d f |> (λh=>by rw[k] at h;exact h),by rw[oh (by rw[F.o];omega),T.o,U.o,ac.o];simp,by rw[r9 (by omega)];exact HD.o,by rw[k];exact(G.o.dr _).set _ _,λb t=>(bE _ _ _ _ t).trans (by rw[k];exact H.o b t)⟩;clear k q G H z R fi;go_wp2_with fail;go_roundw
      case rel=>(repeat apply Exists.intro);exact⟨⟨d+1,e+1,by omega,by omega,by go_num,by go_num,W⟩,rfl⟩
      case measure=>simp[intOf];omega
   ·obtain rfl:e=n:=by omega
    have U:(d:Int)<=(c:Int):=(by omega);have W:¬c=d:=by omega
    have z:∀k,(Builtin.clear_ #[22] k #[slice (some ⟨g,d,none⟩) (e-d) (c-d)]).run prog wr=.ok (.tuple #[]) (wr.setCells g d (replicate (e-d) (int i64 0))):=
     λk=>Lib.run_clear_slice wr _ 3 k _ underlying22 Tryz.zeroValue3 rfl rfl g d _ _ (by omega) (λk u=>by rw[(o.cellA s (show d+k<e by omega)).1];rfl) (λk u=>(o.cellA s (show d+k<e by omega)).2)
    have k:xs.take e=xs:=aJ (by rw[r.o];exact aj _);rw[k] at u;clear k;have k:(xs.filter λf=> !p f).length=d:=by rw[<-u,aG,s];omega
    have F:PH (∃m,Value.slice (some ⟨g,0,none⟩) d c=slice (some ⟨g,0,none⟩) m c/\OwnI (wr.setCells g d (replicate (e-d) (int i64 0))) C (slice (some ⟨g,0,none⟩) m c) (xs.filter λf=> !p f)/\Sz0 w (wr.setCells g d (replicate (e-d) (int i64 0)))/\∀b,some b≠(Value.slice (some ⟨g,0,none⟩) e c).ownBlock->(wr.setCells g d (replicate (e-d) (int i64 0))).heap[b]? =w.heap[b]?):=ae (by
     refine⟨d,rfl,?_,E.cells _ _ _,λb t=>(qj (λl=>t (by rw[l];rfl)) _ _ _).trans (y b (λl=>t (by rw[l];rfl)))⟩;unfold OwnI at o ⊢;rw[s] at o;rw[k];have t:=o;obtain⟨S,⟨j,_⟩ | ⟨g',ad,O,j,hg,P,Y,Z,h5,h6⟩⟩:=t
     ·cases j
     ·injection j with j e2 e3
      injection j with j;injection j with j _ _;subst j;obtain⟨G,H,R,T⟩:=oq (replicate (e-d) (int i64 0)) d wr O P;refine Ev o (by omega) ⟨O,G,P,H,R,λV hq=>T V (by omega)⟩ ?_;rw[Nat.mul_one,<-u];unfold bH;rw[map_take])
    have G:=z;clear z u k s o D E y Q X r;go_wp2_with fail;go_ret;exact F.o.elim λm h=>⟨m,by rw[h.1];rfl,h.2⟩
def iE(ys:List (Nat×Nat)):List Value:=ys.flatMap λa=>[int i64 a.1,int i64 a.2]
theorem iK(s:Nat×Nat)(ys:List (Nat×Nat)):iE (s :: ys)=int i64 (s.1:Nat) :: int i64 (s.2:Nat) :: iE ys:=rfl
theorem iL(ys:List (Nat×Nat)):(iE ys).length=ys.length*2:=by
 induction ys with
 | nil=>rfl
 | cons b ys a=>rw[iK,length_cons,length_cons,a,length_cons];omega
theorem nP{ys:List (Nat×Nat)}:∀ {i:Nat},i<ys.length->(iE ys)[i*2]? =some (int i64 ((ys.getD i (0,0)).1:Nat))/\(iE ys)[i*2+1]? =some (int i64 ((ys.getD i (0,0)).2:Nat)):=by
 induction ys with
 | nil=>intro i a;simp at a
 | cons c ys b=>
   intro i a;cases i with
   | zero=>exact⟨rfl,rfl⟩
   | succ i=>
     have:=b (i:=i) (by simpa using a);rw[iK,show(i+1)*2=i*2+1+1 by omega];exact this
theorem Ii{ys:List (Nat×Nat)}(x:Nat×Nat):∀ {i:Nat},((iE ys).set (i*2) (int i64 (x.1:Nat))).set (i*2+1) (int i64 (x.2:Nat))=iE (ys.set i x):=by
 induction ys with
 | nil=>intro i;rfl
 | cons b ys a=>
   intro i;cases i with
   | zero=>rfl
   | succ i=>
     rw[show(i+1)*2=i*2+1+1 by omega,set_cons_succ,iK,iK,set_cons_succ,set_cons_succ,set_cons_succ,set_cons_succ,a]
theorem DV{ys:List (Nat×Nat)}:∀ {i:Nat},iE (ys.take i)=(iE ys).take (i*2):=by
 induction ys with
 | nil=>intro i;simp[iE]
 | cons b ys a=>
   intro i;cases i with
   | zero=>rfl
   | succ i=>rw[show(i+1)*2=i*2+1+1 by omega,take_succ_cons,iK,iK,take_succ_cons,take_succ_cons,a]
theorem lc{l:List (Nat×Nat)}{i:Nat}(a:i<l.length):l.getD i (0,0)=l[i]:=by rw[af,ah a];rfl
def OwnT(w:World)(C:Nat)(v:Value)(ys:List (Nat×Nat)):Prop:=w.ownsRow C 359 2 v ys.length (iE ys)
theorem NK{w:World}{B n:Nat}{a:PK}{ys:List (Nat×Nat)}(c:Rd w B a (n*2) (iE ys)){k:Nat}(l:k<n):∃b o,a=some ⟨b,o,none⟩/\b<B/\w.cell? ⟨b,o+k*2,none⟩=some (int i64 ((ys.getD k (0,0)).1:Nat))/\w.cell? ⟨b,o+k*2+1,none⟩=some (int i64 ((ys.getD k (0,0)).2:Nat)):=by
 have m:ys.length=n:=by have:=c.len;rw[iL] at this;omega
 obtain⟨b,o,e,f,d⟩:=c.2 (by omega);obtain⟨h,j⟩:=nP (ys:=ys) (i:=k) (by omega);exact⟨b,o,e,f,d _ _ h,d _ _ j⟩
theorem OwnT.rdT{w:World}{C n c:Nat}{a:PK}{ys:List (Nat×Nat)}(i:OwnT w C (slice a n c) ys)(e:ys.length=n):Rd w w.heap.size a (n*2) (iE ys):=by
 obtain⟨m,⟨b,o⟩ | ⟨f,p,j,b,q,h,r,s,t,k⟩⟩:=i
 ·exact⟨by rw[iL,e],λd=>by omega⟩
 ·injection b with b _ _
  subst b;refine⟨by rw[iL,e],λ_=>⟨f,0,rfl,(Array.getElem?_eq_some_iff.1 h).1,λl u d=> ?_⟩⟩;rw[Nat.zero_add,cell_of_row w f l j _ (0,0) h];rw[<-k,List.getElem?_take] at d;split at d
  ·simpa using d
  ·cases d
theorem OwnT.formT{w:World}{C n c:Nat}{a:PK}{l:List (Nat×Nat)}(b:OwnT w C (slice a n c) l)(e:l.length=n)(i:0<n):∃g,a=some ⟨g,0,none⟩/\C<=g/\g<w.heap.size:=by
 unfold OwnT at b;rw[e] at b;obtain⟨g,j,d,f,h⟩:=World.ownsRow.form b (by omega);injection d with d k m;exact⟨g,d,f,h⟩
theorem OwnT.cellT{w:World}{C g n c:Nat}{l:List (Nat×Nat)}(a:OwnT w C (slice (some ⟨g,0,none⟩) n c) l)(b:l.length=n){k:Nat}(f:k<n):w.cell? ⟨g,k*2,none⟩=some (int i64 ((l.getD k (0,0)).1:Nat))/\w.cell? ⟨g,k*2+1,none⟩=some (int i64 ((l.getD k (0,0)).2:Nat))/\w.frozen? ⟨g,k*2,none⟩=false/\w.frozen? ⟨g,k*2+1,none⟩=false:=by
 unfold OwnT at a;rw[b] at a;obtain⟨d,e⟩:=nP (ys:=l) (i:=k) (by omega);exact⟨(a.cellAt _ (by omega)).trans d,(a.cellAt _ (by omega)).trans e,a.frozenAt _,a.frozenAt _⟩
theorem OwnT.storedT{w:World}{C g n c:Nat}{l:List (Nat×Nat)}(a:OwnT w C (slice (some ⟨g,0,none⟩) n c) l)(b:l.length=n)(k:Nat)(x:Nat×Nat):
 OwnT ((w.setCell ⟨g,k*2,none⟩ (int i64 (x.1:Nat))).setCell ⟨g,k*2+1,none⟩ (int i64 (x.2:Nat))) C (slice (some ⟨g,0,none⟩) n c) (l.set k x):=by
 unfold OwnT at a ⊢;rw[b] at a;rw[length_set,b,<-Ii];exact((a.stored _ _).1.stored _ _).1
theorem Lf(n:Nat):(Builtin.zeroCells #[Value.int .i64 0,int i64 0] n).toList=replicate (n*2) (Value.int .i64 0):=by
 apply ext_getElem
 ·simp[Builtin.zeroCells]
 ·intro b c d
  simp[Builtin.zeroCells];rcases Nat.mod_two_eq_zero_or_one b with a | a <;> simp[a]
theorem Bj(w:World)(e:TypeId)(b o n c:Nat)(m:0<n)(f:∀j,j<n*2->(w.cell? ⟨b,o+j,none⟩).isSome=true)(h:∀j,j<n*2->w.frozen? ⟨b,o+j,none⟩=false):
 (Builtin.clear_ #[288] e #[slice (some ⟨b,o,none⟩) n c]).run prog w=.ok (.tuple #[]) (w.setCells b o (replicate (n*2) (int i64 0))):=by
 have d:=run_storeCells_cells (P:=prog) b o (replicate (n*2) (int i64 0)) 0 w (by simpa using f) (by simpa using h) (by intro p i;rw[eq_of_mem_replicate i];rfl);simp only[Nat.add_zero] at d;obtain⟨a,rfl⟩:∃a,n=a+1:=⟨n-1,by omega⟩;have k:∀w,(zeroValue 359).run prog w=.ok (.agg #[int i64 0,int i64 0]) w:=Tryz.zeroValue359;have l:=Lf (a+1);simp[Builtin.clear_,run_underlying underlying288,k,Value.cells,l,d]
def Ol(w:World)(B:Nat)(p:Nat×Nat->Bool)(xs:List (Nat×Nat)):Prop:=∀a∈xs,Calls prog 297 #[.agg #[int i64 (a.1:Nat),int i64 (a.2:Nat)],pointer (some ⟨B,0,none⟩)] w λb c=>b=returned (bool (p a))/\Below w.heap.size w c
theorem zo(B n c:Nat)(a:PK)(xs:List (Nat×Nat))(p:Nat×Nat->Bool)(w:World)(l:Rd w w.heap.size a (n*2) (iE xs))(t:∀w',Below w.heap.size w w'->Ol w' B p xs)(I:n<=1000000):
 Calls prog 357 #[slice a n c,.func (.func 297) #[] #[pointer (some ⟨B,0,none⟩)]] w λm w'=>(∃z:Int,m=returned (int i64 z)/\((z= -1/\∀i,i<n->p (xs.getD i (0,0))=false)\/∃i:Nat,z=(i:Int)/\i<n/\p (xs.getD i (0,0))=true/\∀k,k<i->p (xs.getD k (0,0))=false))/\Below w.heap.size w w':=by
 have b:xs.length=n:=by have:=l.len;rw[iL] at this;omega
 have A:=ae l;have D:=ae t;have E:=ae b;clear l t b;go_enter func357,ntmps357;go_wp2_with fail;go_loopw [8] (λi wr=>∃k:Nat,k<=n/\i=int i64 k/\PH (∀i,i<k->p (xs.getD i (0,0))=false)/\PH (Below w.heap.size w wr)) (λi _=>n-(intOf i).toNat)
 case atStart=>exact⟨0,by omega,rfl,ae λi h=>absurd h (by omega),ae (az _ _)⟩
 case round=>
  obtain⟨k,J,rfl,o,b⟩:=hrel;by_cases q:k<n
  ·obtain⟨e,f,rfl,u,v,x⟩:=NK A.o q
   have K:wr.cell? ⟨e,f+k*2,none⟩=some (int i64 ((xs.getD k (0,0)).1:Nat)):=(b.o.cell (p:=⟨e,f+k*2,none⟩) u).trans v;have L:wr.cell? ⟨e,f+k*2+1,none⟩=some (int i64 ((xs.getD k (0,0)).2:Nat)):=(b.o.cell (p:=⟨e,f+k*2+1,none⟩) u).trans x;have d:xs.getD k (0,0)∈xs:=(by rw[lc (by rw[E.o];exact q)];exact aQ _);have j:=ae (D.o _ b.o _ d);clear v x d;generalize d:xs.getD k (0,0)=F at*;have y:=ae d;have M:(k:Int)<(n:Int):=(by omega);clear d;cases hpx:p F with
   | false=>
     rw[hpx] at j;have r:=ae hpx;clear hpx;go_wp2_with fail;refine j.o.mono ?_;rintro m w2 ⟨rfl,d⟩;have s:PH (Below w.heap.size w w2):=ae (b.o.trans (d.mono b.o.size))
     have G:PH (∀i,i<k+1->p (xs.getD i (0,0))=false):=ae λi h=>by
      rcases Nat.lt_succ_iff_lt_or_eq.1 h with H | rfl
      ·exact o.o i H
      ·rw[y.o];exact r.o
     clear d;go_wp2_with fail;go_roundw
     case rel=>exact⟨k+1,by omega,by go_num,G,s⟩
     case measure=>simp[intOf];omega
   | true=>
     rw[hpx] at j;have r:=ae hpx;clear hpx;go_wp2_with fail;refine j.o.mono ?_;rintro m w2 ⟨rfl,d⟩;have s:PH (Below w.heap.size w w2):=ae (b.o.trans (d.mono b.o.size));clear d;go_wp2_with fail;go_ret;exact⟨⟨_,rfl,.inr ⟨k,rfl,q,by rw[y.o];exact r.o,o.o⟩⟩,s.o⟩
  ·obtain rfl:k=n:=by omega
   go_wp2_with fail;go_ret;exact⟨⟨-1,rfl,.inl ⟨rfl,o.o⟩⟩,b.o⟩
theorem wN(B C n c:Nat)(a:PK)(xs:List (Nat×Nat))(p:Nat×Nat->Bool)(w:World)(v:OwnT w C (slice a n c) xs)(R:xs.length=n)(hC:C<=w.heap.size)
 (S:∀w',w.heap.size<=w'.heap.size->(∀b,b<w.heap.size->some b≠(Value.slice a n c).ownBlock->w'.heap[b]? =w.heap[b]?)->Ol w' B p xs)(hn:n<=1000000):
 Calls prog 296 #[slice a n c,.func (.func 297) #[] #[pointer (some ⟨B,0,none⟩)]] w λr w'=>∃m,r=returned (slice a m c)/\OwnT w' C (slice a m c) (xs.filter λf=> !p f)/\Below 0 w w'/\∀b,b<w.heap.size->some b≠(Value.slice a n c).ownBlock->w'.heap[b]? =w.heap[b]? :=by
 have d:Rd w w.heap.size a (n*2) (iE xs):=by
  exact v.rdT R
 have e:=ae (zo B n c a xs p w d (λw' j=>S _ j.size λb h _=>j.block b h) hn);have HF:=ae S;have t:=ae R;have s:=ae v;clear d S R v;go_enter func296,ntmps296;go_wp2_with fail;refine e.o.mono ?_;rintro r T ⟨⟨ao,rfl,hz⟩,d⟩;have x:=ae d;clear d e;rcases hz with⟨rfl,J⟩ | ⟨d,rfl,U,V,J⟩
 ·have i:=ae J
  clear J;go_wp2_with fail;go_ret
  have l:xs.filter (λf=> !p f)=xs:=filter_eq_self.2 λf v=>by
   obtain⟨d,e,rfl⟩:=bC v;have:=i.o d (by rw[<-t.o];exact e);rw[lc e] at this;rw[this];rfl
  refine⟨n,rfl,by rw[l];exact kN s.o x.o,x.o.mono (bu _),λb h _=>x.o.block b h⟩
 ·obtain⟨g,rfl,ap,aq⟩:=OwnT.formT s.o t.o (by omega)
  have ar:n<=c/\c<=maxLen:=by
   rcases s.o.2 with⟨o,_⟩ | ⟨g',am,W,o,hg,X,h3,h4,h5,h6⟩
   ·cases o
   ·injection o with _ _ e3
    subst e3;rw[<-t.o];exact⟨h3,h4⟩
  have ac:PH (∃i:List (Nat×Nat),i.length=n/\OwnT T C (slice (some ⟨g,0,none⟩) n c) i/\i.take d=(xs.take (d+1)).filter (λf=> !p f)/\i.drop (d+1)=xs.drop (d+1)/\Below 0 w T/\∀b,b<w.heap.size->b≠g->T.heap[b]? =w.heap[b]?):=ae ⟨xs,t.o,kN s.o x.o,by
   rw[ko (by rw[t.o];exact U),filter_eq_self.2 λf v=> ?_]
   ·rw[lc (by rw[t.o];exact U)] at V
    rw[V];simp
   ·obtain⟨k,y,rfl⟩:=bC v
    rw[aG] at y;have:=J k (by omega);rw[lc (by omega)] at this;rw[getElem_take,this];rfl,rfl,x.o.mono (bu _),λb h _=>x.o.block b h⟩
  clear V J x s;go_wp2_with fail;go_loopw [5,6] (λq l wr=>∃d e:Nat,d<e/\e<=n/\q=int i64 d/\l=int i64 e/\PH (∃i:List (Nat×Nat),i.length=n/\OwnT wr C (slice (some ⟨g,0,none⟩) n c) i/\i.take d=(xs.take e).filter (λf=> !p f)/\i.drop e=xs.drop e/\Below 0 w wr/\∀b,b<w.heap.size->b≠g->wr.heap[b]? =w.heap[b]?)) (λ_ l _=>n-(intOf l).toNat)
  case atStart=>exact⟨d,d+1,by omega,by omega,rfl,by go_num,ac⟩
  case round=>
   clear ac U;obtain⟨d,e,au,av,rfl,rfl,Y⟩:=hrel;obtain⟨i,u,q,F,M,z,y⟩:=Y.o;have ad:=z.size;by_cases ag:e<n
   ·have aw:(e:Int)<(n:Int):=by omega
    have ax:(d:Int)<(n:Int):=(by omega);obtain⟨cj,an,fj,ay⟩:=q.cellT u ag;obtain⟨Z,aa,fi,ai⟩:=q.cellT u (show d<n by omega)
    have D:i.getD e (0,0)=xs.getD e (0,0):=by
     have h1:(i.drop e)[0]? =(xs.drop e)[0]? :=(by rw[M]);rw[List.getElem?_drop,List.getElem?_drop,Nat.add_zero] at h1;rw[af,af,h1]
    rw[D] at cj an;have l:e<xs.length:=(by rw[t.o];exact ag);have E:xs.getD e (0,0)∈xs:=(by rw[lc l];exact aQ _);have A:=(az wr.heap.size wr).alloc (aj _) (cells #[int i64 ((xs.getD e (0,0)).1:Nat),int i64 ((xs.getD e (0,0)).2:Nat)] 359);have K:=Blk.new wr 359 #[int i64 ((xs.getD e (0,0)).1:Nat),int i64 ((xs.getD e (0,0)).2:Nat)];have O:=ae A;have P:=ae K;have G:=ae (HF.o (wr.alloc (cells #[int i64 ((xs.getD e (0,0)).1:Nat),int i64 ((xs.getD e (0,0)).2:Nat)] 359)) (aP z.size A.size) (λb j H=>(A.block b (aW j z.size)).trans (y b j (λr=>H (by rw[r];rfl)))) _ E);have HT:=ae (ko (p:=λf=> !p f) l);rw[<-lc l] at HT;have L:i.drop (e+1)=xs.drop (e+1):=(by rw[<-drop_drop,M,drop_drop]);have ak:=ae F;have al:g<wr.heap.size:=(by omega);have HD:=ae L;have s:=ae q;have H:=ae u;have I:=ae z;have Q:=ae y;clear A K D E l L F M q u z ad y Y;generalize xs.getD e (0,0)=f at*;generalize i.getD d (0,0)=yo at*;cases hpx:p f with
    | true=>
      rw[hpx] at G;have HP:=ae hpx;clear hpx Z fi aa ai;go_wp2_with fail;refine G.o.mono ?_;rintro r w2 ⟨rfl,A⟩;have l:=ae (O.o.trans (A.mono O.o.size));have K:Below 0 w w2:=I.o.trans (l.o.mono (bu _));have L:PH (∀b,b<w.heap.size->b≠g->w2.heap[b]? =w.heap[b]?):=ae λb j D=>(l.o.block b (aW j I.o.size)).trans (Q.o b j D);have E:=ae (kN s.o l.o);have ab:PH (∃i:List (Nat×Nat),i.length=n/\OwnT w2 C (slice (some ⟨g,0,none⟩) n c) i/\i.take d=(xs.take (e+1)).filter (λf=> !p f)/\i.drop (e+1)=xs.drop (e+1)/\Below 0 w w2/\∀b,b<w.heap.size->b≠g->w2.heap[b]? =w.heap[b]?):=ae ⟨i,H.o,E.o,by rw[HT.o,HP.o,ak.o];simp,HD.o,K,L.o⟩;clear A s I Q G l K L E;go_wp2_with fail;go_roundw
      case rel=>(repeat apply Exists.intro);exact⟨⟨d,e+1,by omega,by omega,rfl,by go_num,ab⟩,rfl⟩
      case measure=>simp[intOf];omega
    | false=>
      rw[hpx] at G;have HP:=ae hpx;clear hpx;go_wp2_with fail;refine G.o.mono ?_;rintro r w2 ⟨rfl,A⟩;have l:=ae (O.o.trans (A.mono O.o.size));have K:Below 0 w w2:=I.o.trans (l.o.mono (bu _));have L:PH (∀b,b<w.heap.size->b≠g->w2.heap[b]? =w.heap[b]?):=ae λb j D=>(l.o.block b (aW j I.o.size)).trans (Q.o b j D);have E:=ae (kN s.o l.o);have aA:w2.cell? ⟨g,d*2,none⟩=some (int i64 (yo.1:Nat)):=(l.o.cell (p:=⟨g,d*2,none⟩) al).trans Z;have aB:w2.frozen? ⟨g,d*2,none⟩=false:=(OwnT.cellT E.o H.o (show d<n by omega)).2.2.1;have aD:w2.cell? ⟨g,d*2+1,none⟩=some (int i64 (yo.2:Nat)):=(l.o.cell (p:=⟨g,d*2+1,none⟩) al).trans aa;have aE:w2.frozen? ⟨g,d*2+1,none⟩=false:=(OwnT.cellT E.o H.o (show d<n by omega)).2.2.2;have v0:=(A.cell (p:=⟨wr.heap.size,0,none⟩) P.o.lt).trans (P.o.cell 0);have v1:=(A.cell (p:=⟨wr.heap.size,1,none⟩) P.o.lt).trans (P.o.cell 1);have ab:PH (∃i:List (Nat×Nat),i.length=n/\OwnT ((w2.setCell ⟨g,d*2,none⟩ (int i64 (f.1:Nat))).setCell ⟨g,d*2+1,none⟩ (int i64 (f.2:Nat))) C (slice (some ⟨g,0,none⟩) n c) i/\i.take (d+1)=(xs.take (e+1)).filter (λf=> !p f)/\i.drop (e+1)=xs.drop (e+1)/\Below 0 w ((w2.setCell ⟨g,d*2,none⟩ (int i64 (f.1:Nat))).setCell ⟨g,d*2+1,none⟩ (int i64 (f.2:Nat)))/\∀b,b<w.heap.size->b≠g->((w2.setCell ⟨g,d*2,none⟩ (int i64 (f.1:Nat))).setCell ⟨g,d*2+1,none⟩ (int i64 (f.2:Nat))).heap[b]? =w.heap[b]?):=ae ⟨i.set d f,by rw[length_set];exact H.o,OwnT.storedT E.o H.o d f,by rw[oh (by rw[H.o];omega),HT.o,HP.o,ak.o];simp,by rw[r9 (by omega)];exact HD.o,(K.setCell (bu _) _).setCell (bu _) _,λb j D=>((bE _ _ _ _ D).trans (bE _ _ _ _ D)).trans (L.o b j D)⟩;clear A s I Q G Z fi aa ai l K L E;go_wp2_with fail;go_roundw
      case rel=>(repeat apply Exists.intro);exact⟨⟨d+1,e+1,by omega,by omega,by go_num,by go_num,ab⟩,rfl⟩
      case measure=>simp[intOf];omega
   ·obtain rfl:e=n:=by omega
    have P:(d:Int)<=(c:Int):=(by omega);have Q:¬c=d:=by omega
    have D:∀l,(Builtin.clear_ #[288] l #[slice (some ⟨g,d*2,none⟩) (e-d) (c-d)]).run prog wr=.ok (.tuple #[]) (wr.setCells g (d*2) (replicate ((e-d)*2) (int i64 0))):=λl=>Bj wr l g (d*2) (e-d) _ (by omega) (λl E=>by
     have A:=OwnT.cellT q u (k:=(d*2+l)/2) (by omega);rcases Nat.mod_two_eq_zero_or_one l with h | h
     ·rw[show d*2+l=(d*2+l)/2*2 by omega,A.1];rfl
     ·rw[show d*2+l=(d*2+l)/2*2+1 by omega,A.2.1];rfl) (λl E=>by
     have A:=OwnT.cellT q u (k:=(d*2+l)/2) (by omega);rcases Nat.mod_two_eq_zero_or_one l with h | h
     ·rw[show d*2+l=(d*2+l)/2*2 by omega];exact A.2.2.1
     ·rw[show d*2+l=(d*2+l)/2*2+1 by omega];exact A.2.2.2)
    have G:xs.take e=xs:=aJ (by rw[t.o];exact aj _);rw[G] at F;clear G;have G:(xs.filter λf=> !p f).length=d:=by rw[<-F,aG,u];omega
    have H:PH (∃m,Value.slice (some ⟨g,0,none⟩) d c=slice (some ⟨g,0,none⟩) m c/\OwnT (wr.setCells g (d*2) (replicate ((e-d)*2) (int i64 0))) C (slice (some ⟨g,0,none⟩) m c) (xs.filter λf=> !p f)/\Below 0 w (wr.setCells g (d*2) (replicate ((e-d)*2) (int i64 0)))/\∀b,b<w.heap.size->some b≠(Value.slice (some ⟨g,0,none⟩) e c).ownBlock->(wr.setCells g (d*2) (replicate ((e-d)*2) (int i64 0))).heap[b]? =w.heap[b]?):=ae (by
     refine⟨d,rfl,?_,yH z _ _ _,λb I j=>(qj (λr=>j (by rw[r];rfl)) _ _ _).trans (y b I (λr=>j (by rw[r];rfl)))⟩;unfold OwnT at q ⊢;rw[u] at q;rw[G];have j:=q;obtain⟨h1,⟨o,_⟩ | ⟨g',am,W,o,hg,X,h3,h4,h5,h6⟩⟩:=j
     ·cases o
     ·injection o with o Z e3
      injection o with o;injection o with o _ _;subst o;obtain⟨I,K,L,O⟩:=oq (replicate ((e-d)*2) (int i64 0)) (d*2) wr W X;refine Ev q (by omega) ⟨W,I,X,K,L,λl E=>O l (by omega)⟩ ?_;rw[<-F,DV])
    have l:=D;clear D F G u q M z ad y Y HF t;go_wp2_with fail;go_ret;exact H.o.elim λm h=>⟨m,by rw[h.1];rfl,h.2⟩
theorem GT(B g b K H Z N c x:Nat)(d:PK)(e vS vD vL f i:Value)(w:World)(m:w.cell? ⟨B,0,none⟩=some (pointer (some ⟨g,0,none⟩)))(a:Blk w g 292 (svC b K H Z e (slice d N c) vS vD vL f i)):
 Calls prog 298 #[int i64 x,pointer (some ⟨B,0,none⟩)] w λk l=>k=returned (bool (decide (N<=x)))/\∃j,l=w.drewN j:=by
 have k:=a.cell 5;unfold svC at k;clear a;go_enter func298,ntmps298;go_wp2_with fail;go_ret;exact⟨rfl,0,rfl⟩
theorem GU(B g e K H Z N f r c:Nat)(i:PK)(j vS vD vL k l:Value)(w:World)(d:w.cell? ⟨B,0,none⟩=some (pointer (some ⟨g,0,none⟩)))(m:B<w.heap.size)(b:Blk w g 292 (svC e K H Z j (slice i N f) vS vD vL k l)):
 Calls prog 297 #[.agg #[int i64 r,int i64 c],pointer (some ⟨B,0,none⟩)] w λa o=>a=returned (bool (decide (N<=r)))/\Below w.heap.size w o:=by
 have a:=(az w.heap.size w).alloc (aj _) (cells #[int i64 r,int i64 c] 359);have o:=(b.below a b.lt).cell 5;have s:=(Blk.new w 359 #[int i64 r,int i64 c]).cell 0;have t:=(a.cell (p:=⟨B,0,none⟩) m).trans d;unfold svC at o;have q:=ae a;clear b a d;go_enter func297,ntmps297;go_wp2_with fail
 go_quiet (fail)
 go_wp2_with fail;go_ret;exact⟨rfl,below_drewN q.o _⟩
