import Derived.Test.YtgccllbnfngpcaaGreatDoorW12
import Derived.Lib.SliceRun
set_option linter.unusedVariables false
set_option maxRecDepth 100000
set_option maxHeartbeats 400000000
namespace Go.Proofs.YtgccllbnfngpcaaGreatDoor
open Go.RowKit _root_.Go.Proofs.Tryz List
open Value (int slice pointer bool)
open IntKind (i64)
open Ending (returned)
open Obj (cells)
theorem qa(n c:Nat)(a:Option Addr)(op:List Bool)(w:World)(hr:Rd w w.heap.size a n (bY op))(hn:n<=1000000):
 Calls prog 381 #[slice a n c,bool true] w fun e w'=>∃z:Int,e=returned (int i64 z)/\((0<=z/\∃c,c<n/\op.getD c false=true)\/(z<0/\∀c,c<n->op.getD c false=false))/\w'=w:=by
 have HR:=ae hr;clear hr;go_enter func381,ntmps381;go_wp2_with fail;go_loopw [8] (fun i wr=>∃k:Nat,k<=n/\i=int i64 k/\Hid (∀c,c<k->op.getD c false=false)/\wr=w) (fun i _=>n-(intOf i).toNat)
 case atStart=>exact⟨0,by omega,rfl,ae fun c h=>absurd h (Nat.not_lt_zero c),rfl⟩
 case round=>
  obtain⟨k,hkn,rfl,HI,hw⟩:=hrel;have HW:=ae hw;clear hw;by_cases hlt:k<n
  ·have hltI:(k:Int)<(n:Int):=by omega
   obtain⟨bc,oc,rfl,hbc,hcc⟩:=tF HR.out hlt;rw[<-HW.out] at hcc;cases hky:op.getD k false with
   | true=>
     rw[hky] at hcc;have HKY:=ae hky;clear hky;go_wp2_with fail;go_ret;exact⟨_,rfl,.inl ⟨by omega,k,hlt,HKY.out⟩,HW.out⟩
   | false=>
     rw[hky] at hcc
     have HN1:Hid (∀c,c<k+1->op.getD c false=false):=ae fun c hc=>by
      rcases Nat.lt_succ_iff_lt_or_eq.1 hc with h | rfl
      ·exact HI.out c h
      ·exact hky
     clear hky;go_wp2_with fail;go_roundw
     case rel=>exact⟨k+1,by omega,by go_num,HN1,HW.out⟩
     case measure=>simp[intOf];omega
  ·obtain rfl:k=n:=by omega
   go_wp2_with fail;go_ret;exact⟨-1,rfl,.inr ⟨by omega,HI.out⟩,HW.out⟩
theorem mq(n c:Nat)(a:Option Addr)(op:List Bool)(w:World)(hr:Rd w w.heap.size a n (bY op))(hn:n<=1000000):
 Calls prog 354 #[slice a n c,bool true] w fun e w'=>∃b,e=returned (.bool b)/\(b=true->∃c,c<n/\op.getD c false=true)/\(b=false->∀c,c<n->op.getD c false=false)/\w'=w:=by
 have CI:=ae (qa n c a op w hr hn);clear hr;go_enter func354,ntmps354;go_wp2_with fail;refine CI.out.mono ?_;rintro e w1 ⟨z,rfl,hz,hw1⟩;have HW:=ae hw1;clear hw1 CI;rcases hz with⟨h1,h2⟩ | ⟨h1,h2⟩
 ·have H2:=ae h2
  clear h2;go_wp2_with fail;go_ret;exact⟨true,rfl,fun _=>H2.out,fun h=>Bool.noConfusion h,HW.out⟩
 ·have H2:=ae h2
  have h3:¬0<=z:=(by omega);clear h2;go_wp2_with fail;go_ret;exact⟨false,(by show Ending.returned (bool (decide (0<=z)))=_;rw[decide_eq_false (by omega)]),fun h=>Bool.noConfusion h,fun _=>H2.out,HW.out⟩
theorem lh{P:Program}{w:World}{ops:Array Oper}{rest:List Oper}{o:Oper}{a:Act}{Q:Exit->Act->World->Prop}(hgd:o.guard=none)(s x:Operand){T e:TypeId}{z:Value}{k bytes:Nat}
 (ho:o.op=.call { callee:=.builtin .append,args:=#[s,x],argTypes:=#[T,T] })(hT:P.underlying T=some (.slice e))(hi:(P.info? e).map (fun i=>(i.zero,i.size,i.bytes))=some (some z,k,bytes))(hzs:z.cells.size=k)(hk:0<k)(hby:bytes<=1000)
 {C:Nat}{v:Value}{L:List Rp}{F:Nat->Prop}{R:Rp}{us:Array Value}(h:OwnS w C e k F v L)(hC:C<=w.heap.size)(hl:L.length<=1000000)
 (hR:R.ok w (fun b=>F b/\some b≠v.ownBlock) us.toList)(hsz:R.sz=k)
 (hs:a.eval s=v)(hx:a.eval x=slice (some ⟨w.heap.size,0,none⟩) 1 1)
 (K:∀v' w2,OwnS w2 C e k F v' (L++[R])->Below C w w2->w.heap.size<=w2.heap.size->(∀b,b<w.heap.size->some b≠v.ownBlock->w2.heap[b]? =w.heap[b]?)->(v'.ownBlock=v.ownBlock\/∃b,v'.ownBlock=some b/\w.heap.size<=b)->wpList P ops Q rest (a.put o.dst v') w2):
 wpList P ops Q (o :: rest) a (w.alloc (.cells us e)):=by
 have hba:=(az w.heap.size w).alloc (ah _) (.cells us e);have hlt:=h.lt;have h':=h.new hba;obtain⟨cs,h1,h2⟩:=h';obtain⟨i,hi1,hi2,hi3,hi4⟩:=info_parts hi;have hus:us.toList.length=k:=by rw[R.len hR];exact hsz
 have hRn:=R.new hR hba;refine wpList_append_own_at (P:=P) (w.alloc (.cells us e)) hgd s x T ho C e i z k bytes hT hi1 hi2 hi3 hi4 hzs hk v L.length cs hs h1 ⟨w.heap.size,0,none⟩ 1 1 us.toList hx (by rw[hus,Nat.one_mul]) ?_ (R.one hR) (by unfold maxLen;omega) ?_ (aO hC hba.size) fun v' w' hown hg _ hat=> ?_
 ·intro j u hj
  rw[Addr.add_lit,Nat.zero_add,dZ];simpa using hj
 ·have:=bn (show L.length+1<=1000001 by omega) hby
  omega
 ·refine K v' w' (OwnS.app h1 h2 (fun i R' hR'=> ?_) hown hg hat) (((hba.mono hC).grown hg (aO hC hba.size) fun b hb'=>(hlt b hb').1)) (aO hba.size hg.size) (fun b hb hne=>(hg.block b (aU hb hba.size) hne).trans (hba.block b hb)) (hat.elim .inl fun e=>.inr ⟨_,e,hba.size⟩)
  cases i with
  | succ i=>simp at hR'
  | zero=>
    obtain rfl:R=R':=(by simpa using hR');rw[Nat.zero_mul,drop_zero,aJ (by omega)];exact hRn
theorem jK{w w':World}{C e k n:Nat}{v:Value}{xs:List Value}(h:w.ownsRow C e k v n xs)(hk:∀b,v.ownBlock=some b->w'.heap[b]? =w.heap[b]?):w'.ownsRow C e k v n xs:=by
 refine⟨h.1,?_⟩;rcases h.2 with h2 | ⟨g,cap,cur,rfl,hg,hh,r⟩
 ·exact .inl h2
 ·exact .inr ⟨g,cap,cur,rfl,hg,(hk g rfl).trans hh,r⟩
theorem OwnS.keepAt{w w':World}{C:Nat}{e:TypeId}{k:Nat}{F:Nat->Prop}{v:Value}{L:List Rp}(h:OwnS w C e k F v L)(hk:∀b,v.ownBlock=some b->w'.heap[b]? =w.heap[b]?)(hF:∀b,F b->some b≠v.ownBlock->b<w.heap.size->w'.heap[b]? =w.heap[b]?):OwnS w' C e k F v L:=by
 obtain⟨cs,h1,h2⟩:=h;exact⟨cs,jK h1 hk,fun i R hR=>R.keep (h2 i R hR) fun b hb hlt=>⟨hF b hb.1 hb.2 hlt,hb⟩⟩
theorem jL{w:World}{C C':Nat}{e e':TypeId}{k k' n n':Nat}{v v':Value}{xs xs':List Value}(h:w.ownsRow C e k v n xs)(h':w.ownsRow C' e' k' v' n' xs')(hne:e≠e'):∀b,v.ownBlock=some b->v'.ownBlock≠some b:=by
 intro b hb hb';rcases h.2 with⟨rfl,_⟩ | ⟨g,cap,cur,rfl,_,hg,_⟩
 ·simp[Value.ownBlock] at hb
 ·rcases h'.2 with⟨rfl,_⟩ | ⟨g',cap',cur',rfl,_,hg',_⟩
  ·simp[Value.ownBlock] at hb'
  ·simp[Value.ownBlock] at hb hb'
   subst hb hb';rw[hg] at hg';injection hg' with h2;injection h2 with _ h3;exact hne h3
def iD(x:Nat×Nat):Rp:=rP (rV (int i64 x.1)) (rV (int i64 x.2))
theorem FZ:(prog.info? 359).map (fun i=>(i.zero,i.size,i.bytes))=some (some (.agg #[int i64 0,int i64 0]),2,16):=by kernel_rfl
theorem Jc(x:Nat×Nat)(w:World)(F:Nat->Prop):(iD x).ok w F [int i64 x.1,int i64 x.2]:=rX (uW rfl) (uW rfl)
section
theorem qH{P:Program}{Q:Exit->Act->World->Prop}{a:Act}{w:World}{body rest:Code}(l m:Nat)(J:Nat->Act->World->Prop)(K:Act->World->Prop)(n₀:Nat)(rest2:Code)
 (hf:findLabel body l=some (Code.skip.seq rest))(hf2:findLabel body m=some (Code.skip.seq rest2))
 (first:∀X:Nat->Act->World->Prop,(∀a w,J n₀ a w->rest.wp P (dn X Q) a w)->body.wp P (dn X Q) a w)
 (pass:∀n a w,J n a w->rest.wp P (dn (fun l' a' w'=>(l'=l/\∃n',n'<n/\J n' a' w')\/(l'=m/\K a' w')) Q) a w)
 (out:∀a w,K a w->rest2.wp P (dn (fun _ _ _=>False) Q) a w):(Code.scope body).wp P Q a w:=by
 have weak:∀n (e:Exit) (a':Act) (w':World),dn (fun l' a' w'=>(l'=l/\∃n',n'<n/\J n' a' w')\/(l'=m/\K a' w')) Q e a' w'->dn (fun l' a' w'=>∃n',n'<n+1/\((l'=l/\∃k,n'=k+1/\J k a' w')\/(l'=m/\n'=0/\K a' w'))) Q e a' w':=by
  intro n e a' w' hq;cases e with
  | goto l'=>
    rcases hq with⟨h1,n',h2,h3⟩ | ⟨h1,h2⟩
    ·exact⟨n'+1,by omega,.inl ⟨h1,n',rfl,h3⟩⟩
    ·exact⟨0,by omega,.inr ⟨h1,rfl,h2⟩⟩
  | normal=>exact hq
  | exit id=>exact hq
  | ret=>exact hq
  | panic ch=>exact hq
  | outgrown=>exact hq
 refine iZ (fun l' n a w=>(l'=l/\∃k,n=k+1/\J k a w)\/(l'=m/\n=0/\K a w)) ?_ ?_
 ·refine first _ fun a' w' hq=> ?_
  refine wp_mono (pass n₀ a' w' hq) ?_;intro e a' w' hq;have:=weak _ e a' w' hq;cases e with
  | goto l'=>obtain⟨n',_,h⟩:=this;exact⟨n',h⟩
  | normal=>exact hq
  | exit id=>exact hq
  | ret=>exact hq
  | panic ch=>exact hq
  | outgrown=>exact hq
 ·intro l' n a w hJ
  rcases hJ with⟨rfl,k,rfl,hJ⟩ | ⟨rfl,rfl,hK⟩
  ·exact⟨_,hf,wp_seq (wp_skip (wp_mono (pass k a w hJ) (weak k)))⟩
  ·refine⟨_,hf2,wp_seq (wp_skip (wp_mono (out a w hK) ?_))⟩
   intro e a' w' hq;cases e with
   | goto l'=>exact hq.elim
   | normal=>exact hq
   | exit id=>exact hq
   | ret=>exact hq
   | panic ch=>exact hq
   | outgrown=>exact hq
theorem PlSt.keep{w w':World}{g gl gu n N:Nat}{sl:Value}{op us:List Bool}(h:PlSt w g gl gu n N sl op us)(h1:w'.heap[g]? =w.heap[g]?)(h2:w'.heap[gl]? =w.heap[gl]?)(h3:w'.heap[gu]? =w.heap[gu]?):PlSt w' g gl gu n N sl op us:=
 ⟨h1.trans h.blk,h2.trans h.opb,h3.trans h.usb,h.ol,h.ul,h.ne⟩
theorem PlSt.setO{w:World}{g gl gu n N:Nat}{sl:Value}{op us:List Bool}(h:PlSt w g gl gu n N sl op us)(c:Nat)(b:Bool):PlSt (w.setCell ⟨gl,c,none⟩ (.bool b)) g gl gu n N sl (op.set c b) us:=by
 obtain⟨n1,n2,n3⟩:=h.nes;refine⟨Blk.far h.blk n1 _,?_,Blk.far h.usb n3.symm _,by rw[length_set];exact h.ol,h.ul,h.ne⟩;have e:(bY (op.set c b)).toArray=(bY op).toArray.setIfInBounds c (.bool b):=by unfold bY;simp
 rw[e];exact h.opb.set c _
theorem PlSt.setU{w:World}{g gl gu n N:Nat}{sl:Value}{op us:List Bool}(h:PlSt w g gl gu n N sl op us)(c:Nat)(b:Bool):PlSt (w.setCell ⟨gu,c,none⟩ (.bool b)) g gl gu n N sl op (us.set c b):=by
 obtain⟨n1,n2,n3⟩:=h.nes;refine⟨Blk.far h.blk n2 _,Blk.far h.opb n3 _,?_,h.ol,by rw[length_set];exact h.ul,h.ne⟩;have e:(bY (us.set c b)).toArray=(bY us).toArray.setIfInBounds c (.bool b):=by unfold bY;simp
 rw[e];exact h.usb.set c _
structure PM (w0 w:World) (C0 C Gr Go g gl gu n N:Nat) (sl:Value) (op us:List Bool) (vS vD vL:Value) (St:List (Nat×Nat)) (De Le:List Nat):Prop where
 pl:PlSt w g gl gu n N sl op us
 gr:Blk w Gr 290 #[slice none 0 0,slice none 0 0,slice none 0 0]
 go:Blk w Go 290 #[vS,vD,vL]
 st:OwnS w C 359 2 (fun _=>False) vS (St.map iD)
 de:OwnI w C vD De
 le:OwnI w C vL Le
 ap:∀b,vD.ownBlock=some b->vL.ownBlock≠some b
 bl:Below C0 w0 w
 lo:C0<=Gr/\C0<=Go/\C0<=g/\C0<=gl/\C0<=gu
 hi:Gr<C/\Go<C/\g<C/\gl<C/\gu<C/\C<=w.heap.size
 ne:Gr≠Go
section
variable {w0 w w2:World} {C0 C Gr Go g gl gu n N:Nat} {sl:Value} {op us:List Bool} {vS vD vL:Value} {St:List (Nat×Nat)} {De Le:List Nat}
theorem PM.new(h:PM w0 w C0 C Gr Go g gl gu n N sl op us vS vD vL St De Le)(hb:Below w.heap.size w w2):PM w0 w2 C0 C Gr Go g gl gu n N sl op us vS vD vL St De Le:=
 ⟨h.pl.new hb,h.gr.below hb h.gr.lt,h.go.below hb h.go.lt,h.st.new hb,fQ h.de hb,fQ h.le hb,h.ap,h.bl.trans (hb.mono (by have:=h.lo;have:=h.hi;omega)),h.lo,by have:=h.hi;have:=hb.size;exact⟨by omega,by omega,by omega,by omega,by omega,by omega⟩,h.ne⟩
theorem PM.own1(h:PM w0 w C0 C Gr Go g gl gu n N sl op us vS vD vL St De Le){p:Addr}(hp:p.block<C)(u:Value):OwnS (w.setCell p u) C 359 2 (fun _=>False) vS (St.map iD)/\OwnI (w.setCell p u) C vD De/\OwnI (w.setCell p u) C vL Le:=
 ⟨h.st.keepAt (fun b hb=>bE _ _ _ _ (by have:=(h.st.lt b hb).1;omega)) (fun b hb=>hb.elim),
  bZ h.de fun b hb=>bE _ _ _ _ (by have:=(World.ownsRow.lt h.de b hb).1;omega),bZ h.le fun b hb=>bE _ _ _ _ (by have:=(World.ownsRow.lt h.le b hb).1;omega)⟩
theorem PM.setO(h:PM w0 w C0 C Gr Go g gl gu n N sl op us vS vD vL St De Le)(c:Nat)(b:Bool):PM w0 (w.setCell ⟨gl,c,none⟩ (.bool b)) C0 C Gr Go g gl gu n N sl (op.set c b) us vS vD vL St De Le:=by
 obtain⟨o1,o2,o3⟩:=h.own1 (p:=⟨gl,c,none⟩) h.hi.2.2.2.1 (.bool b);exact⟨h.pl.setO c b,Blk.far h.gr (Blk.ne h.gr h.pl.opb (by decide)) _,Blk.far h.go (Blk.ne h.go h.pl.opb (by decide)) _,o1,o2,o3,h.ap,h.bl.setCell (p:=⟨gl,c,none⟩) h.lo.2.2.2.1 _,h.lo,by have:=h.hi;simpa using this,h.ne⟩
theorem PM.setU(h:PM w0 w C0 C Gr Go g gl gu n N sl op us vS vD vL St De Le)(c:Nat)(b:Bool):PM w0 (w.setCell ⟨gu,c,none⟩ (.bool b)) C0 C Gr Go g gl gu n N sl op (us.set c b) vS vD vL St De Le:=by
 obtain⟨o1,o2,o3⟩:=h.own1 (p:=⟨gu,c,none⟩) h.hi.2.2.2.2.1 (.bool b);exact⟨h.pl.setU c b,Blk.far h.gr (Blk.ne h.gr h.pl.usb (by decide)) _,Blk.far h.go (Blk.ne h.go h.pl.usb (by decide)) _,o1,o2,o3,h.ap,h.bl.setCell (p:=⟨gu,c,none⟩) h.lo.2.2.2.2 _,h.lo,by have:=h.hi;simpa using this,h.ne⟩
theorem PM.step(h:PM w0 w C0 C Gr Go g gl gu n N sl op us vS vD vL St De Le){v':Value}{x:Nat×Nat}(hO:OwnS w2 C 359 2 (fun _=>False) v' ((St++[x]).map iD))(hB:Below C w w2)
 (hk:∀b,b<w.heap.size->some b≠vS.ownBlock->w2.heap[b]? =w.heap[b]?):PM w0 (w2.setCell ⟨Go,0,none⟩ v') C0 C Gr Go g gl gu n N sl op us v' vD vL (St++[x]) De Le:=by
 obtain⟨i1,i2,i3,i4,i5,i6⟩:=h.hi;have hG:w2.heap[Go]? =w.heap[Go]? :=hB.block Go i2;have hGo:Blk w2 Go 290 #[vS,vD,vL]:=hG.trans h.go;have far:∀b,b≠Go->(w2.setCell ⟨Go,0,none⟩ v').heap[b]? =w2.heap[b]? :=fun b hb=>bE _ _ _ _ hb;obtain⟨cs,hcs,-⟩:=h.st;refine⟨?_,?_,?_,?_,?_,?_,h.ap,?_,h.lo,?_,h.ne⟩
 ·exact h.pl.keep ((far g (Blk.ne h.pl.blk h.go (by decide))).trans (hB.block g i3)) ((far gl (Blk.ne h.pl.opb h.go (by decide))).trans (hB.block gl i4)) ((far gu (Blk.ne h.pl.usb h.go (by decide))).trans (hB.block gu i5))
 ·exact((far Gr h.ne).trans (hB.block Gr i1)).trans h.gr
 ·exact hGo.set 0 v'
 ·exact hO.keepAt (fun b hb=>far b (by have:=(hO.lt b hb).1;omega)) (fun b hb=>hb.elim)
 ·exact bZ h.de fun b hb=>(far b (by have:=(World.ownsRow.lt h.de b hb).1;omega)).trans (hk b (World.ownsRow.lt h.de b hb).2 (fun e=>jL h.de hcs (by decide) b hb e.symm))
 ·exact bZ h.le fun b hb=>(far b (by have:=(World.ownsRow.lt h.le b hb).1;omega)).trans (hk b (World.ownsRow.lt h.le b hb).2 (fun e=>jL h.le hcs (by decide) b hb e.symm))
 ·exact(h.bl.trans (hB.mono (by have:=h.lo;omega))).setCell (p:=⟨Go,0,none⟩) h.lo.2.1 _
 ·have:=hB.size
  refine⟨i1,i2,i3,i4,i5,?_⟩;simp;omega
theorem PM.dead(h:PM w0 w C0 C Gr Go g gl gu n N sl op us vS vD vL St De Le){v':Value}{x:Nat}(hL:vL=slice none 0 0)(hO:OwnI w2 C v' (De++[x]))(hB:Below C w w2)
 (hk:∀b,b<w.heap.size->some b≠vD.ownBlock->w2.heap[b]? =w.heap[b]?):PM w0 (w2.setCell ⟨Go,1,none⟩ v') C0 C Gr Go g gl gu n N sl op us vS v' vL St (De++[x]) Le:=by
 obtain⟨i1,i2,i3,i4,i5,i6⟩:=h.hi;have hG:w2.heap[Go]? =w.heap[Go]? :=hB.block Go i2;have hGo:Blk w2 Go 290 #[vS,vD,vL]:=hG.trans h.go;have far:∀b,b≠Go->(w2.setCell ⟨Go,1,none⟩ v').heap[b]? =w2.heap[b]? :=fun b hb=>bE _ _ _ _ hb;obtain⟨cs,hcs,-⟩:=h.st;refine⟨?_,?_,?_,?_,?_,?_,?_,?_,h.lo,?_,h.ne⟩
 ·exact h.pl.keep ((far g (Blk.ne h.pl.blk h.go (by decide))).trans (hB.block g i3)) ((far gl (Blk.ne h.pl.opb h.go (by decide))).trans (hB.block gl i4)) ((far gu (Blk.ne h.pl.usb h.go (by decide))).trans (hB.block gu i5))
 ·exact((far Gr h.ne).trans (hB.block Gr i1)).trans h.gr
 ·exact hGo.set 1 v'
 ·exact h.st.keepAt (fun b hb=>(far b (by have:=(h.st.lt b hb).1;omega)).trans (hk b (h.st.lt b hb).2 (fun e=>jL hcs h.de (by decide) b hb e.symm))) (fun b hb=>hb.elim)
 ·exact bZ hO fun b hb=>far b (by have:=(World.ownsRow.lt hO b hb).1;omega)
 ·exact bZ h.le fun b hb=>by rw[hL] at hb;simp[Value.ownBlock] at hb
 ·intro b hb
  rw[hL];simp[Value.ownBlock]
 ·exact(h.bl.trans (hB.mono (by have:=h.lo;omega))).setCell (p:=⟨Go,1,none⟩) h.lo.2.1 _
 ·have:=hB.size
  refine⟨i1,i2,i3,i4,i5,?_⟩;simp;omega
theorem PM.left(h:PM w0 w C0 C Gr Go g gl gu n N sl op us vS vD vL St De Le){v':Value}{x:Nat}(hO:OwnI w2 C v' (Le++[x]))(hB:Below C w w2)
 (hk:∀b,b<w.heap.size->some b≠vL.ownBlock->w2.heap[b]? =w.heap[b]?)(hat:v'.ownBlock=vL.ownBlock\/∃b,v'.ownBlock=some b/\w.heap.size<=b):PM w0 (w2.setCell ⟨Go,2,none⟩ v') C0 C Gr Go g gl gu n N sl op us vS vD v' St De (Le++[x]):=by
 obtain⟨i1,i2,i3,i4,i5,i6⟩:=h.hi;have hG:w2.heap[Go]? =w.heap[Go]? :=hB.block Go i2;have hGo:Blk w2 Go 290 #[vS,vD,vL]:=hG.trans h.go;have far:∀b,b≠Go->(w2.setCell ⟨Go,2,none⟩ v').heap[b]? =w2.heap[b]? :=fun b hb=>bE _ _ _ _ hb;obtain⟨cs,hcs,-⟩:=h.st;refine⟨?_,?_,?_,?_,?_,?_,?_,?_,h.lo,?_,h.ne⟩
 ·exact h.pl.keep ((far g (Blk.ne h.pl.blk h.go (by decide))).trans (hB.block g i3)) ((far gl (Blk.ne h.pl.opb h.go (by decide))).trans (hB.block gl i4)) ((far gu (Blk.ne h.pl.usb h.go (by decide))).trans (hB.block gu i5))
 ·exact((far Gr h.ne).trans (hB.block Gr i1)).trans h.gr
 ·exact hGo.set 2 v'
 ·exact h.st.keepAt (fun b hb=>(far b (by have:=(h.st.lt b hb).1;omega)).trans (hk b (h.st.lt b hb).2 (fun e=>jL hcs h.le (by decide) b hb e.symm))) (fun b hb=>hb.elim)
 ·exact bZ h.de fun b hb=>(far b (by have:=(World.ownsRow.lt h.de b hb).1;omega)).trans (hk b (World.ownsRow.lt h.de b hb).2 (fun e=>h.ap b hb e.symm))
 ·exact bZ hO fun b hb=>far b (by have:=(World.ownsRow.lt hO b hb).1;omega)
 ·intro b hb e
  rcases hat with h1 | ⟨b',h1,h2⟩
  ·rw[h1] at e
   exact h.ap b hb e
  ·rw[h1] at e
   injection e with e;subst e;have:=(World.ownsRow.lt h.de _ hb).2;omega
 ·exact(h.bl.trans (hB.mono (by have:=h.lo;omega))).setCell (p:=⟨Go,2,none⟩) h.lo.2.1 _
 ·have:=hB.size
  refine⟨i1,i2,i3,i4,i5,?_⟩;simp;omega
end
end
theorem eP(mk:(Nat->Value)->Act)(a:Act)(h:a=mk fun i=>a.tmps.getD i undef):∃f,a=mk f:=⟨_,h⟩
theorem PlSt.rdo{w:World}{g gl gu n N:Nat}{sl:Value}{op us:List Bool}(h:PlSt w g gl gu n N sl op us):Rd w w.heap.size (some ⟨gl,0,none⟩) n (bY op):=
 ⟨by rw[lX];exact h.ol,fun _=>⟨gl,0,rfl,h.opb.lt,fun i u hu=>by rw[Nat.zero_add,h.opb.cell i];simpa using hu⟩⟩
theorem Eg(n N:Nat)(al:Option Addr)(cl:Nat)(F:Nat->Prop)(L:List (List Nat))(w:World)
 (hL:(l7 L).ok w F [slice al N cl])(hN:L.length=N)(hNb:N<=2000)(hn:n<=64)(hcn:∀x∈L,x.length<=1000/\(∀c∈x,c<n)/\O5 x):
 Calls prog 295 #[int i64 n,slice al N cl] w fun e w'=>∃vS vD vL St De Le,e=returned (.tuple #[.agg #[vS,vD,vL],bool true])/\oM n L St De Le/\
  OwnS w' w.heap.size 359 2 (fun _=>False) vS (St.map iD)/\OwnI w' w.heap.size vD De/\OwnI w' w.heap.size vL Le/\(∀b,vD.ownBlock=some b->vL.ownBlock≠some b)/\Below w.heap.size w w':=by
 have HL:=ae ((l7 L).bl hL);have HN:=ae hN;have HCN:=ae hcn;have HCN2:Hid (∀x∈L,x.length<=1000/\∀c∈x,c<n):=ae fun x hx=>⟨(hcn x hx).1,(hcn x hx).2.1⟩;clear hL hN hcn;go_enter func295,ntmps295;refine wp_seq_k fun K1 hK1=> ?_;have HK1:=ae hK1;clear hK1;go_wp2_with fail;refine HK1.out _ _ ?_;clear HK1;have hba:=(az w.heap.size w).alloc (ah _) (cells #[slice none 0 0,slice none 0 0,slice none 0 0] 290);have HR0:=ae (Blk.new w 290 #[slice none 0 0,slice none 0 0,slice none 0 0]);have HB0:=ae hba;have HL0:=ae ((l7 L).new HL.out hba);have hs0:(w.alloc (cells #[slice none 0 0,slice none 0 0,slice none 0 0] 290)).heap.size=w.heap.size+1:=by simp
 have HS0:=ae hs0;clear hba hs0;generalize w.alloc (cells #[slice none 0 0,slice none 0 0,slice none 0 0] 290)=w0 at*;refine qH 1 0 (fun x a2 w2=>∃(g gl gu Go C:Nat) (op us:List Bool) (vS vD:Value) (St:List (Nat×Nat)) (De:List Nat),(sK op<x/\Hid (PM w w2 w.heap.size C w.heap.size Go g gl gu n N (slice al N cl) op us vS vD (slice none 0 0) St De [])/\Hid (PlInv n L op us St De))/\∃f:Nat->Value,a2= { tmps:=#[int i64 n,slice al N cl,undef,undef,pointer (some ⟨w.heap.size,0,none⟩),bool false,pointer (some ⟨g,0,none⟩),f 7,pointer (some ⟨Go,0,none⟩),f 9,f 10,f 11,f 12,f 13,f 14,f 15,f 16,f 17,f 18,f 19,f 20,f 21,f 22,f 23,f 24,f 25,f 26,f 27,f 28,f 29,f 30,f 31,f 32,f 33,f 34,f 35,f 36,f 37,f 38,f 39,f 40,f 41,f 42,f 43,f 44,f 45,f 46,f 47,f 48,f 49,f 50,f 51,f 52,f 53,f 54,f 55,f 56,f 57,f 58,f 59,f 60,f 61,f 62,f 63,f 64,f 65,f 66,f 67,f 68,f 69,f 70,f 71,f 72,f 73,f 74,f 75,f 76,f 77,f 78,f 79,f 80,f 81,f 82,f 83,f 84,f 85,f 86,f 87,f 88,f 89,f 90,f 91,f 92,f 93,f 94,f 95,f 96,f 97,f 98,f 99,f 100,f 101,f 102,f 103,f 104,f 105,f 106,f 107],defers:=[] }) (fun a2 w2=>∃(g gl gu Go C:Nat) (op us:List Bool) (vS vD:Value) (St:List (Nat×Nat)) (De:List Nat),(Hid (∀c,c<n->op.getD c false=false)/\Hid (PM w w2 w.heap.size C w.heap.size Go g gl gu n N (slice al N cl) op us vS vD (slice none 0 0) St De [])/\Hid (PlInv n L op us St De))/\∃f:Nat->Value,a2= { tmps:=#[int i64 n,slice al N cl,undef,undef,pointer (some ⟨w.heap.size,0,none⟩),bool false,pointer (some ⟨g,0,none⟩),f 7,pointer (some ⟨Go,0,none⟩),f 9,f 10,f 11,f 12,f 13,f 14,f 15,f 16,f 17,f 18,f 19,f 20,f 21,f 22,f 23,f 24,f 25,f 26,f 27,f 28,f 29,f 30,f 31,f 32,f 33,f 34,f 35,f 36,f 37,f 38,f 39,f 40,f 41,f 42,f 43,f 44,f 45,f 46,f 47,f 48,f 49,f 50,f 51,f 52,f 53,f 54,f 55,f 56,f 57,f 58,f 59,f 60,f 61,f 62,f 63,f 64,f 65,f 66,f 67,f 68,f 69,f 70,f 71,f 72,f 73,f 74,f 75,f 76,f 77,f 78,f 79,f 80,f 81,f 82,f 83,f 84,f 85,f 86,f 87,f 88,f 89,f 90,f 91,f 92,f 93,f 94,f 95,f 96,f 97,f 98,f 99,f 100,f 101,f 102,f 103,f 104,f 105,f 106,f 107],defers:=[] }) (n+1) _ rfl rfl ?_ ?_ ?_
 ·intro X hp
  have HPX:=ae hp;clear hp;have CR:=ae (Bw n N al cl _ L w0 HL0.out HN.out hNb hn HCN.out);refine wp_seq_k fun K1 hK1=> ?_;have HK1:=ae hK1;clear hK1;go_wp2_with fail;refine CR.out.mono ?_;rintro e w1 ⟨rfl,rfl⟩;clear CR;go_wp2_with fail;refine HK1.out _ _ ?_;clear HK1;refine wp_seq_k fun K1 hK1=> ?_;have HK1:=ae hK1;clear hK1;have hmb:∀w:World,(Instr.makeSlice 293 (int i64 (n:Int)) (int i64 (n:Int))).run prog w=.ok (slice (some ⟨w.heap.size,0,none⟩) n n) (w.alloc (cells (bY (replicate n false)).toArray 4)):=fun w=>pE (by omega) w;have hmc:∀w:World,(Instr.makeSlice 293 (int i64 (N:Int)) (int i64 (N:Int))).run prog w=.ok (slice (some ⟨w.heap.size,0,none⟩) N N) (w.alloc (cells (bY (replicate N false)).toArray 4)):=fun w=>pE (by omega) w;go_upto_region 3 with fail;go_cut [6] (fun v wx=>∃g gl gu,v=pointer (some ⟨g,0,none⟩)/\Hid (PlSt wx g gl gu n N (slice al N cl) (replicate n false) (replicate N false))/\Hid (Below w1.heap.size w1 wx)/\Hid (w1.heap.size<=g/\w1.heap.size<=gl/\w1.heap.size<=gu))
  case first=>
   generalize hcb:(bY (replicate n false)).toArray=cb at*;generalize hch:(bY (replicate N false)).toArray=ch at*;have HCB:=ae hcb;have HCH:=ae hch;clear hcb hch;go_region_law (first | simp only[hmb] | simp only[hmc])
   all_goals(
    go_wp2_with fail;go_meet
    first
    | (obtain⟨k1,k2,k3,kb⟩:=nP w1 cb ch #[slice al N cl,slice (some ⟨w1.heap.size,0,none⟩) n n,slice (some ⟨w1.heap.size+1,0,none⟩) N N] 4 4 416
       refine⟨_,w1.heap.size,w1.heap.size+1,rfl,ae ⟨Blk.drewN k3 1,Blk.drewN (by rw[HCB.out];exact k1) 1,Blk.drewN (by rw[HCH.out];exact k2) 1,aI,aI,by omega⟩,ae (below_drewN kb 1),ae ⟨by omega,by omega,by omega⟩⟩)
    | (obtain⟨k1,k2,k3,kb⟩:=nP w1 ch cb #[slice al N cl,slice (some ⟨w1.heap.size+1,0,none⟩) n n,slice (some ⟨w1.heap.size,0,none⟩) N N] 4 4 416
       refine⟨_,w1.heap.size+1,w1.heap.size,rfl,ae ⟨Blk.drewN k3 1,Blk.drewN (by rw[HCB.out];exact k2) 1,Blk.drewN (by rw[HCH.out];exact k1) 1,aI,aI,by omega⟩,ae (below_drewN kb 1),ae ⟨by omega,by omega,by omega⟩⟩))
  case rest=>
   obtain⟨g,gl,gu,rfl,HP,HB1,HG⟩:=hcut;clear hmb hmc;refine HK1.out _ _ ?_;clear HK1;refine wp_seq_k fun K1 hK1=> ?_;have HK1:=ae hK1;clear hK1;have HQ0:Hid (∃op,PlSt wc g gl gu n N (slice al N cl) op (replicate N false)/\∀c,c<0->op.getD c false=true):=ae ⟨_,HP.out,fun c h=>absurd h (Nat.not_lt_zero c)⟩;have p1:=HP.out.blk.cell 1;go_wp2_with fail;clear p1;go_loopw [32] (fun i wr=>∃k:Nat,k<=n/\i=int i64 k/\Hid (∃op,PlSt wr g gl gu n N (slice al N cl) op (replicate N false)/\∀c,c<k->op.getD c false=true)/\Hid (Below w1.heap.size w1 wr)) (fun i _=>n-(intOf i).toNat)
   case atStart=>exact⟨0,by omega,rfl,HQ0,HB1⟩
   case round=>
    clear HQ0 HB1 HP;obtain⟨k,hkn,rfl,HQ,HB1⟩:=hrel;by_cases hlt:k<n
    ·have hltI:(k:Int)<(n:Int):=by omega
     obtain⟨op,hP,hop⟩:=HQ.out;have p1:=hP.blk.cell 1;have hc:=hP.cellO hlt;have hf:=hP.opb.frozen k;have hkl:k<op.length:=by rw[hP.ol];exact hlt
     have HQn:Hid (∃op,PlSt (wr.setCell ⟨gl,k,none⟩ (bool true)) g gl gu n N (slice al N cl) op (replicate N false)/\∀c,c<k+1->op.getD c false=true):=ae ⟨_,hP.setO k true,fun c hc=>by
      rw[nQ hkl];split
      ·rfl
      ·exact hop c (by omega)⟩
     have HBn:Hid (Below w1.heap.size w1 (wr.setCell ⟨gl,k,none⟩ (bool true))):=ae (HB1.out.setCell (p:=⟨gl,k,none⟩) HG.out.2.1 _);generalize op.getD k false=b0 at*;clear hP hop HQ HB1 hkl;go_wp2_with fail;go_roundw
     case rel=>exact⟨k+1,by omega,by go_num,HQn,HBn⟩
     case measure=>simp[intOf];omega
    ·obtain rfl:k=n:=by omega
     go_wp2_with fail;refine HK1.out _ _ ?_;clear HK1;refine wp_seq_k fun K1 hK1=> ?_;have HK1:=ae hK1;clear hK1;go_wp2_with fail;refine HK1.out _ _ ?_;clear HK1;refine wp_seq (wp_label ?_);refine HPX.out _ _ ?_;clear HPX;obtain⟨op,hP,hop⟩:=HQ.out
     have hope:op=replicate k true:=ext_getElem (by rw[hP.ol,aI]) fun i h1 h2=>by
      have:=hop i (by rw[hP.ol] at h1;exact h1);rw[af,ag h1] at this;rw[getElem_replicate];exact this
     subst hope;have hba:=(az wr.heap.size wr).alloc (ah _) (cells #[slice none 0 0,slice none 0 0,slice none 0 0] 290);have hG:=HG.out;have hs0:=HS0.out;have hs1:=HB1.out.size;have hsz:(wr.alloc (cells #[slice none 0 0,slice none 0 0,slice none 0 0] 290)).heap.size=wr.heap.size+1:=(by simp);have l1:=hP.blk.lt;have l2:=hP.opb.lt;have l3:=hP.usb.lt
     have HPM:PM w (wr.alloc (cells #[slice none 0 0,slice none 0 0,slice none 0 0] 290)) w.heap.size (wr.heap.size+1) w.heap.size wr.heap.size g gl gu k N (slice al N cl) (replicate k true) (replicate N false) (slice none 0 0) (slice none 0 0) (slice none 0 0) [] [] []:=
      ⟨hP.new hba,(HR0.out.below HB1.out (by omega)).below hba (by omega),Blk.new wr _ _,OwnS.nil _ _ _ _ _,OwnI.nil _ _,OwnI.nil _ _,fun b hb=>by simp[Value.ownBlock] at hb,(HB0.out.trans (HB1.out.mono (by omega))).trans (hba.mono (by omega)),by omega,by omega,by omega⟩
     have hcnt:sK (replicate k true)<k+1:=by
      unfold sK;exact Nat.lt_succ_of_le (aO (length_filter_le _ _) (by rw[aI];exact ah _))
     have hpi:=PlInv.begin k L;rw[HN.out] at hpi;exact⟨g,gl,gu,wr.heap.size,_,_,_,_,_,_,_,⟨hcnt,ae HPM,ae hpi⟩,eP _ _ rfl⟩
 ·rintro x a2 w2 ⟨g,gl,gu,Go,C,op,us,vS,vD,St,De,⟨hx,HM,HI⟩,f,rfl⟩
  have hM:=HM.out;have hLw:(l7 L).ok w2 (Bl w.heap.size) [slice al N cl]:=(l7 L).keep HL.out fun k hF _=>⟨hM.bl.block k hF,hF⟩;have CC:=ae (mq n n (some ⟨gl,0,none⟩) op w2 hM.pl.rdo (by omega));have CS:=ae (DT g gl gu n N al cl _ op us L w2 hM.pl hLw HN.out hNb HCN2.out);have HLw:=ae hLw;have p1:=hM.pl.blk.cell 1;clear hM hLw;go_wp2_with fail;refine CC.out.mono ?_;rintro e w3 ⟨b,rfl,hb1,hb2,hw3⟩;subst hw3;clear CC;cases b with
  | false=>
    have HO:=ae (hb2 rfl);clear hb1 hb2 CS;go_wp2_with fail;go_step3;exact .inr ⟨rfl,g,gl,gu,Go,C,op,us,vS,vD,St,De,⟨HO,HM,HI⟩,eP _ _ rfl⟩
  | true=>
    have HOP:=ae (hb1 rfl);clear hb1 hb2 p1;go_wp2_with fail;refine CS.out.mono ?_;rintro e w4 ⟨h,hb⟩;have hM4:=HM.out.new hb;have HLw4:=ae ((l7 L).new HLw.out hb);have hCN:=HI.out.count;rw[HN.out] at hCN;rcases h with⟨r,c,rfl,hr,hu,hc⟩ | ⟨rfl,hno⟩
    ·have hba:=(az w4.heap.size w4).alloc (ah _) (cells #[int i64 r,int i64 c] 359)
     have HM5:=ae (hM4.new hba);have hK9:=Blk.new w4 359 #[int i64 r,int i64 c];obtain⟨aS,nS,cS,rfl⟩:=hM4.st.sl;have hC4:=hM4.hi;have hlt4:=hM4.st.lt;have HX:=ae (show r<N/\us.getD r false=false/\gU op (L.getD r [])=[c] from⟨hr,hu,hc⟩);have c0:=HM5.out.go.cell 0;have k0:=hK9.cell 0;have h4s:=hK9.lt;have k1:=hK9.cell 1;clear hba hK9 hM4 HLw HLw4 CS hr hu hc hb HOP;go_upto_region 13 with fail;generalize w4.alloc (cells #[int i64 r,int i64 c] 359)=w5 at*;have hnS:([]:List Nat).length<=1000000:=(by simp);have hsl:(St.map iD).length<=1000000:=(by rw[aC];omega);have hC5:C<=w5.heap.size:=HM5.out.hi.2.2.2.2.2
     go_wp2_with (at_builtin;refine lh (w:=w5) rfl _ _ rfl underlying288 FZ rfl (by decide) (by decide) HM5.out.st hC5 hsl (R:=iD (r,c)) (Jc (r,c) _ _) rfl rfl rfl ?_)
     intro v6 w6 hO6 hb6 hs6 hk6 hat6;have hO6':OwnS w6 C 359 2 (fun _=>False) v6 ((St++[(r,c)]).map iD):=(by rw[aQ];exact hO6);obtain⟨a6,n6,c6,rfl⟩:=hO6.sl;have hM7:=HM5.out.step hO6' hb6 hk6;have hG7:Blk w6 Go 290 #[slice aS nS cS,vD,slice none 0 0]:=(hb6.block Go hC4.2.1).trans HM5.out.go;have d0:=hG7.cell 0;have f0:=hG7.frozen 0;have h49:w6.heap[w4.heap.size]? =w5.heap[w4.heap.size]? :=hk6 _ h4s (fun e=>by have:=hlt4 _ e.symm;omega);have k0':=(World.cell?_of_block (w:=w5) (a:=⟨w4.heap.size,0,none⟩) h49).trans k0;have k1':=(World.cell?_of_block (w:=w5) (a:=⟨w4.heap.size,1,none⟩) h49).trans k1;have hGo4:¬w4.heap.size=Go:=(by omega);have far7:=fun (b:Nat) (hb:b≠Go)=>bE w6 ⟨Go,0,none⟩ (slice a6 n6 c6) b hb;have m0:=(World.cell?_of_block (w:=w6) (a:=⟨w4.heap.size,0,none⟩) (far7 _ hGo4)).trans k0';have m1:=(World.cell?_of_block (w:=w6) (a:=⟨w4.heap.size,1,none⟩) (far7 _ hGo4)).trans k1';have HM7:=ae hM7;clear hO6 hO6' hb6 hs6 hk6 hat6 hG7 hM7 h49 far7 HM5;go_upto_region 14 with fail;clear d0 f0 k0' k1' c0 k0 k1;generalize w6.setCell ⟨Go,0,none⟩ (slice a6 n6 c6)=w7 at*;have t1:=HM7.out.pl.blk.cell 1;have t2:=HM7.out.pl.blk.cell 2
     have hcn:c<n:=by
      have h1:c∈gU op (L.getD r []):=(by rw[HX.out.2.2];simp);exact(HCN2.out _ (by rw[af,ag (by rw[HN.out];exact HX.out.1)];exact aP _)).2 c (mem_filter.1 h1).1
     have hco:op.getD c false=true:=by
      have h1:c∈gU op (L.getD r []):=(by rw[HX.out.2.2];simp);exact(mem_filter.1 h1).2
     have hrN:=HX.out.1;have hcI:(c:Int)<(n:Int):=(by omega);have hrI:(r:Int)<(N:Int):=(by omega);have t4:=HM7.out.pl.cellU hrN;have t5:=HM7.out.pl.usb.frozen r;have t6:=HM7.out.pl.cellO hcn;have t7:=HM7.out.pl.opb.frozen c;have HIn:=ae (HI.out.told (fun x hx=>(HCN2.out x hx).2) (by rw[HN.out];exact HX.out.1) HX.out.2.1 HX.out.2.2);have HCT:Hid (sK (op.set c false)<sK op):=ae (Bx hco);generalize us.getD r false=b1 at*;generalize op.getD c false=b2 at*;obtain⟨n1,n2,n3⟩:=HM7.out.pl.nes;have hd1:¬gl=gu:=n3;have hd2:¬gu=gl:=fun e=>n3 e.symm;have hd3:¬g=gl:=n1;have hd4:¬g=gu:=n2;have hd5:¬w4.heap.size=gl:=(by omega);have hd6:¬w4.heap.size=gu:=(by omega);have HPn1:=ae fun j=>((HM7.out.new (below_drewN (az _ _) j)).setU r true).setO c false;have HPn2:=ae fun j=>((HM7.out.new (below_drewN (az _ _) j)).setO c false).setU r true
     have HS:Hid (∀w':World,(∀b,b≠gl->b≠gu->w'.heap[b]? =w7.heap[b]?)->w'.cell? ⟨g,1,none⟩=some (slice (some ⟨gl,0,none⟩) n n)/\w'.cell? ⟨g,2,none⟩=some (slice (some ⟨gu,0,none⟩) N N)/\w'.cell? ⟨w4.heap.size,0,none⟩=some (int i64 r)/\w'.cell? ⟨w4.heap.size,1,none⟩=some (int i64 c)):=ae fun w' h=>
      ⟨(World.cell?_of_block (w:=w7) (a:=⟨g,1,none⟩) (h g hd3 hd4)).trans t1,(World.cell?_of_block (w:=w7) (a:=⟨g,2,none⟩) (h g hd3 hd4)).trans t2,(World.cell?_of_block (w:=w7) (a:=⟨w4.heap.size,0,none⟩) (h _ hd5 hd6)).trans m0,(World.cell?_of_block (w:=w7) (a:=⟨w4.heap.size,1,none⟩) (h _ hd5 hd6)).trans m1⟩
     clear hco;go_region_held3 (fun w'=>w'.cell? ⟨g,1,none⟩=some (slice (some ⟨gl,0,none⟩) n n)/\w'.cell? ⟨g,2,none⟩=some (slice (some ⟨gu,0,none⟩) N N)/\w'.cell? ⟨w4.heap.size,0,none⟩=some (int i64 r)/\w'.cell? ⟨w4.heap.size,1,none⟩=some (int i64 c)) (exact HS.out _ (fun b h1 h2=>by first | exact rfl | exact bE _ _ _ _ h1 | exact bE _ _ _ _ h2 | exact(bE _ _ _ _ h2).trans (bE _ _ _ _ h1) | exact(bE _ _ _ _ h1).trans (bE _ _ _ _ h2))) (fail)
     all_goals(
      go_wp2_with fail;go_step3
      first
      | exact .inl ⟨rfl,sK op,hx,g,gl,gu,Go,C,_,_,_,_,_,_,⟨HCT.out,ae (HPn1.out 1),HIn⟩,eP _ _ rfl⟩
      | exact .inl ⟨rfl,sK op,hx,g,gl,gu,Go,C,_,_,_,_,_,_,⟨HCT.out,ae (HPn2.out 1),HIn⟩,eP _ _ rfl⟩)
    ·have hba:=(az w4.heap.size w4).alloc (ah _) (cells #[int i64 0,int i64 0] 359)
     have HM5:=ae (hM4.new hba);have HNO:=ae hno;have CM:=ae (DV g gl gu n N al cl _ op us L _ HM5.out.pl (by omega) ((l7 L).new HLw4.out hba) HN.out hNb HCN2.out HOP.out);clear hba hM4 HLw HLw4 CS hno hb HOP;go_upto_region 15 with fail;generalize w4.alloc (cells #[int i64 0,int i64 0] 359)=w5 at*;go_wp2_with fail;refine CM.out.mono ?_;rintro e w6 ⟨⟨c,rfl,hcn,hco⟩,hb6⟩;have hM6:=HM5.out.new hb6;clear hb6 CM HM5;obtain⟨aD,nD,cD,rfl⟩:=OwnI.sl hM6.de;have c1:=hM6.go.cell 1;have hC6:=hM6.hi.2.2.2.2.2;have hGC:=hM6.hi.2.1;have HM6:=ae hM6;clear hM6
     go_wp2_with (at_builtin;refine nN (w:=w6) (y:=c) rfl _ _ ?hi rfl HM6.out.de hC6 (by omega) rfl rfl ?_)
     case hi=>first | rfl | trivial
     intro v7 w7 hO7 hb7 hs7 hk7 hat7;obtain⟨a7,n7,c7,rfl⟩:=OwnI.sl hO7;have hM8:=HM6.out.dead rfl hO7 hb7 hk7;have hG7:Blk w7 Go 290 #[vS,slice aD nD cD,slice none 0 0]:=(hb7.block Go hGC).trans HM6.out.go;have d1:=hG7.cell 1;have f1:=hG7.frozen 1;have q1:=hM8.pl.blk.cell 1;have q2:=hM8.pl.cellO hcn;have q3:=hM8.pl.opb.frozen c;have HMn:=ae (hM8.setO c false);have HIn:=ae (HI.out.dead (by rw[HN.out];exact HNO.out) hcn hco);have HCT:=ae (Bx hco);have hcI:(c:Int)<(n:Int):=(by omega);rw[hco] at q2;clear hco hO7 hb7 hs7 hk7 hat7 hM8 hG7 HM6 c1;go_wp2_with fail;go_step3;exact .inl ⟨rfl,sK op,hx,g,gl,gu,Go,C,_,_,_,_,_,_,⟨HCT.out,ae HMn.out,HIn⟩,eP _ _ rfl⟩
 ·rintro a2 w2 ⟨g,gl,gu,Go,C,op,us,vS,vD,St,De,⟨HO,HM,HI⟩,f,rfl⟩
  have hM:=HM.out;have p2:=hM.pl.blk.cell 2
  have HI0:Hid (oM n L St De ((range N).filter fun i=> !us.getD i false)):=ae (by
   have:=HI.out.done HO.out
   rwa [HN.out] at this)
  have HQ0:Hid (∃vL,PM w w2 w.heap.size C w.heap.size Go g gl gu n N (slice al N cl) op us vS vD vL St De ((range 0).filter fun i=> !us.getD i false)):=ae ⟨_,hM⟩;clear hM HM HI HO;go_wp2_with fail;clear p2;go_loopw [93] (fun i wr=>∃k:Nat,k<=N/\i=int i64 k/\Hid (∃vL,PM w wr w.heap.size C w.heap.size Go g gl gu n N (slice al N cl) op us vS vD vL St De ((range k).filter fun i=> !us.getD i false))) (fun i _=>N-(intOf i).toNat)
  case atStart=>exact⟨0,by omega,rfl,HQ0⟩
  case round=>
   clear HQ0;obtain⟨k,hkN,rfl,HQ⟩:=hrel;obtain⟨vL,hM⟩:=HQ.out;by_cases hlt:k<N
   ·have hltI:(k:Int)<(N:Int):=by omega
    have hcu:=hM.pl.cellU hlt
    have HT:Hid ((range (k+1)).filter (fun i=> !us.getD i false)=((range k).filter fun i=> !us.getD i false)++if us.getD k false=true then [] else [k]):=ae (by
     rw[range_succ,filter_append,filter_cons];cases us.getD k false <;> rfl)
    have hll:((range k).filter fun i=> !us.getD i false).length<=2000:=aO (length_filter_le _ _) (by rw[aY];omega);generalize (range k).filter (fun i=> !us.getD i false)=Le at*;cases hky:us.getD k false with
    | true=>
      rw[hky] at hcu HT;rw[bf rfl,append_nil] at HT;have HM:=ae hM;clear hM hky HQ;go_wp2_with fail;go_roundw
      case rel=>exact⟨k+1,by omega,by go_num,ae ⟨_,by rw[HT.out];exact HM.out⟩⟩
      case measure=>simp[intOf];omega
    | false=>
      rw[hky] at hcu HT;rw[bg (by decide)] at HT;obtain⟨aL,nL,cL,rfl⟩:=OwnI.sl hM.le;have c2:=hM.go.cell 2;have hC6:=hM.hi.2.2.2.2.2;have hGC:=hM.hi.2.1;have HM:=ae hM;clear hM hky HQ
      go_wp2_with (at_builtin;refine nN (w:=wr) (y:=k) rfl _ _ ?hi rfl HM.out.le hC6 (by omega) rfl rfl ?_)
      case hi=>first | rfl | trivial
      intro v7 w7 hO7 hb7 hs7 hk7 hat7;obtain⟨a7,n7,c7,rfl⟩:=OwnI.sl hO7;have hM7:=HM.out.left hO7 hb7 hk7 hat7;have hG7:Blk w7 Go 290 #[vS,vD,slice aL nL cL]:=(hb7.block Go hGC).trans HM.out.go;have d2:=hG7.cell 2;have f2:=hG7.frozen 2;rw[<-HT.out] at hM7;have HM7:=ae hM7;clear hO7 hb7 hs7 hk7 hat7 hM7 hG7 HM c2;go_wp2_with fail;go_roundw
      case rel=>exact⟨k+1,by omega,by go_num,ae ⟨_,HM7.out⟩⟩
      case measure=>simp[intOf];omega
   ·obtain rfl:k=N:=by omega
    obtain⟨aS,nS,cS,rfl⟩:=hM.st.sl;obtain⟨aD,nD,cD,rfl⟩:=OwnI.sl hM.de;obtain⟨aL,nL,cL,rfl⟩:=OwnI.sl hM.le;have c0:=hM.go.cell 0;have c1:=hM.go.cell 1;have c2:=hM.go.cell 2;have HM:=ae hM;clear hM HQ
    go_wp2_with (change wpList _ _ _ (Oper.mk none (Op.store 290 _ _) _ _ _ _ :: _) _ _;refine wpList_store_row rfl 290 _ _ rfl w.heap.size #[slice aS nS cS,slice aD nD cD,slice aL nL cL] rfl rfl 290 _ HM.out.gr (by kernel_rfl) rfl (by kernel_rfl) ?_)
    have HR:=ae (HM.out.gr.row #[slice aS nS cS,slice aD nD cD,slice aL nL cL]);have HB6:=ae (bW HM.out.bl (ah _) #[slice aS nS cS,slice aD nD cD,slice aL nL cL]);clear c0 c1 c2;have hrow:∀b,b≠w.heap.size->(wr.setRow w.heap.size #[slice aS nS cS,slice aD nD cD,slice aL nL cL]).heap[b]? =wr.heap[b]? :=fun b hb=>setRow_other wr w.heap.size b _ hb;have hlo:=HM.out.hi;have HS2:Hid (OwnS (wr.setRow w.heap.size #[slice aS nS cS,slice aD nD cD,slice aL nL cL]) C 359 2 (fun _=>False) (slice aS nS cS) (St.map iD)):=ae (HM.out.st.keepAt (fun b hb=>hrow b (by have:=(HM.out.st.lt b hb).1;omega)) fun b hb=>hb.elim);have HD2:Hid (OwnI (wr.setRow w.heap.size #[slice aS nS cS,slice aD nD cD,slice aL nL cL]) C (slice aD nD cD) De):=ae (bZ HM.out.de fun b hb=>hrow b (by have:=(World.ownsRow.lt HM.out.de b hb).1;omega));have HE2:Hid (OwnI (wr.setRow w.heap.size #[slice aS nS cS,slice aD nD cD,slice aL nL cL]) C (slice aL nL cL) ((range k).filter fun i=> !us.getD i false)):=ae (bZ HM.out.le fun b hb=>hrow b (by have:=(World.ownsRow.lt HM.out.le b hb).1;omega));clear hrow;generalize wr.setRow w.heap.size #[slice aS nS cS,slice aD nD cD,slice aL nL cL]=w6 at*;go_wp2_with fail;simp only[dn]
    (try simp only[Exit.inBlock,Exit.then])
    refine bodyPost_ret (eH rfl _ _ w.heap.size 290 #[slice aS nS cS,slice aD nD cD,slice aL nL cL] (0,0) _ rfl HR.out underlying290 rfl (by kernel_rfl)) rfl ?_;exact⟨_,_,_,_,_,_,rfl,HI0.out,HS2.out.base (by omega) (fun _ h=>h),HD2.out.base (by omega),HE2.out.base (by omega),HM.out.ap,HB6.out⟩
def svC(gf K H Z:Nat)(vals rest vS vD vL way more:Value):Array Value:=#[pointer (some ⟨gf,0,none⟩),int i64 K,int i64 H,int i64 Z,vals,rest,vS,vD,vL,way,more]
theorem Fld.belowC{w w':World}{gf C:Nat}(h:Fld w gf)(hb:Below C w w')(hg:gf<C):Fld w' gf:=(hb.block gf hg).trans h
theorem Blk.belowC{w w':World}{g C:Nat}{t:TypeId}{cs:Array Value}(h:Blk w g t cs)(hb:Below C w w')(hg:g<C):Blk w' g t cs:=(hb.block g hg).trans h
theorem Mj(g gf K H Z n t c C D gw gm aL1 aL2:Nat)(vals rest vS vD vL:Value)(aw am ax ay:Option Addr)(cx cy:Nat)(wl ml xl yl:List Nat)(w:World)
 (hg:Blk w g 292 (svC gf K H Z vals rest vS vD vL (slice (some ⟨gw,0,none⟩) n n) (slice (some ⟨gm,0,none⟩) n n)))(hF:Fld w gf)(hC:g<C/\gf<C/\gw<C/\gm<C)(ht:t<256)(hc:c<n)
 (hw:w.cell? ⟨gw,c,none⟩=some (slice aw D aL1))(hm:w.cell? ⟨gm,c,none⟩=some (slice am Z aL2))(hRw:Rd w C aw D (bF wl))(hRm:Rd w C am Z (bF ml))(hbw:By wl)(hbm:By ml)
 (hx:OwnB w C (slice ax D cx) xl)(hy:OwnB w C (slice ay Z cy) yl)(hxl:xl.length=D)(hyl:yl.length=Z)(hbx:By xl)(hby:By yl)(hap:∀b,(Value.slice ax D cx).ownBlock=some b->(Value.slice ay Z cy).ownBlock≠some b)(hD:D<=1000000)(hZ:Z<=1000000):
 Calls prog 299 #[pointer (some ⟨g,0,none⟩),.int .u8 t,int i64 c,slice ax D cx,slice ay Z cy] w fun e w'=>e=returned (.tuple #[])/\OwnB w' C (slice ax D cx) (kS t wl xl)/\OwnB w' C (slice ay Z cy) (kS t ml yl)/\Below C w w':=by
 have hlw:wl.length=D:=by have:=hRw.len;rwa [bI] at this
 have hlm:ml.length=Z:=by have:=hRm.len;rwa [bI] at this
 have hcI:(c:Int)<(n:Int):=by omega
 have HG:=ae hg;have HF:=ae hF;have HRW:=ae hRw;have HRM:=ae hRm;have HBW:=ae hbw;have HBM:=ae hbm;have HBX:=ae hbx;have HBY:=ae hby;have HLX:Hid (wl.length=xl.length):=ae (by omega);have HLY:Hid (ml.length=yl.length):=ae (by omega);have HXL:=ae hxl;have HYL:=ae hyl;have HAP:=ae hap;have HX:Hid (OwnB w C (slice ax D cx) (iJ t wl xl 0)):=ae hx;have HY:=ae hy;have HW:=ae hw;have HM:=ae hm;have HB0:=ae (az C w);have p9:=hg.cell 9;have hw0:=hw;clear hg hF hRw hRm hbw hbm hbx hby hx hy hw hm hap hlw hlm hxl hyl;go_enter func299,ntmps299;unfold svC at p9;go_wp2_with fail;clear p9 hw0;go_loopw [22] (fun i wr=>∃k:Nat,k<=D/\i=int i64 k/\Hid (OwnB wr C (slice ax D cx) (iJ t wl xl k))/\Hid (OwnB wr C (slice ay Z cy) yl)/\Hid (Below C w wr)) (fun i _=>D-(intOf i).toNat)
 case atStart=>exact⟨0,by omega,rfl,HX,HY,HB0⟩
 case round=>
  clear HX HY HB0;obtain⟨k,hkD,rfl,HX,HY,HB⟩:=hrel;by_cases hlt:k<D
  ·have hltI:(k:Int)<(D:Int):=by omega
   obtain⟨bx,ox,rfl,hbx,hcx⟩:=(HRW.out.below HB.out (ah _)).atB hlt;have qx:=hcx k hlt;have hml:(iJ t wl xl k).length=D:=(by rw[pU HLX.out (by rw[HXL.out];omega)];exact HXL.out);obtain⟨g2,cap,e2,hgC,hgs⟩:=HX.out.form (by omega);injection e2 with e2 e4 e3;clear e4;subst e2 e3;obtain⟨qy,fy⟩:=HX.out.cell hml hlt;rw[pV HLX.out (by rw[HXL.out];exact hlt)] at qy;have hst:=HX.out.stored hml k (xl.getD k 0 ^^^ fm t (wl.getD k 0));rw[pW HLX.out (by rw[HXL.out];exact hlt)] at hst;have hxb:=getD_lt HBW.out k;have hyb:=getD_lt HBX.out k;have p0:=(HG.out.belowC HB.out hC.1).cell 0;have HFw:=ae (HF.out.belowC HB.out hC.2.1);clear hcx hml;generalize wl.getD k 0=x at*;generalize xl.getD k 0=y at*;have CM:=ae (uz gf t x ht hxb wr.drew (Blk.drew HFw.out));have hz:=gQ t x;generalize fm t x=z at*;have e1:=u8_xor_nat y z hyb hz;generalize y ^^^ z=q at*;have HST:=ae hst;clear hst hxb hyb hz;have HAPk:=ae (HAP.out g2 rfl);unfold svC at p0;go_wp2_with fail
   go_region_with ((go_at_call 307;refine CM.out.mono ?_;rintro e w3 ⟨rfl,j,rfl⟩))
   all_goals(
    have HX2:Hid (OwnB ((wr.drewN (1+j)).setCell ⟨g2,k,none⟩ (.int .u8 (q:Nat))) C (slice (some ⟨g2,0,none⟩) D cx) (iJ t wl xl (k+1))):=ae HST.out.1;have HY2:Hid (OwnB ((wr.drewN (1+j)).setCell ⟨g2,k,none⟩ (.int .u8 (q:Nat))) C (slice ay Z cy) yl):=ae (bZ (HY.out.drewN (1+j)) fun b hb=>bE _ _ _ _ (fun e=>HAPk.out (by rw[hb,e])));have HB2:Hid (Below C w ((wr.drewN (1+j)).setCell ⟨g2,k,none⟩ (.int .u8 (q:Nat)))):=ae ((below_drewN HB.out (1+j)).setCell (p:=⟨g2,k,none⟩) hgC _);clear HST HX HY HB HFw CM qx qy fy p0 HAPk;generalize (wr.drewN (1+j)).setCell ⟨g2,k,none⟩ (.int .u8 (q:Nat))=w4 at*;go_wp2_with fail;go_roundw
    case rel=>exact⟨k+1,by omega,by go_num,HX2,HY2,HB2⟩
    case measure=>simp[intOf];omega)
  ·obtain rfl:k=D:=by omega
   have hfx:iJ t wl xl k=kS t wl xl:=(by rw[<-HXL.out];exact mP HLX.out);rw[hfx] at HX;clear hfx;have HY0:Hid (OwnB wr C (slice ay Z cy) (iJ t ml yl 0)):=HY;have p10:=(HG.out.belowC HB.out hC.1).cell 10;have hm0:=(HB.out.cell (p:=⟨gm,c,none⟩) hC.2.2.2).trans HM.out;clear HY;unfold svC at p10;go_wp2_with fail;clear p10 hm0;go_loopw [49] (fun i wq=>∃j:Nat,j<=Z/\i=int i64 j/\Hid (OwnB wq C (slice ax k cx) (kS t wl xl))/\Hid (OwnB wq C (slice ay Z cy) (iJ t ml yl j))/\Hid (Below C w wq)) (fun i _=>Z-(intOf i).toNat)
   case atStart=>exact⟨0,by omega,rfl,HX,HY0,HB⟩
   case round=>
    clear HX HY0 HB;obtain⟨j,hjZ,rfl,HX,HY,HB⟩:=hrel;by_cases hlt2:j<Z
    ·have hltI:(j:Int)<(Z:Int):=by omega
     obtain⟨bx,ox,rfl,hbx,hcx⟩:=(HRM.out.below HB.out (ah _)).atB hlt2;have qx:=hcx j hlt2;have hml:(iJ t ml yl j).length=Z:=(by rw[pU HLY.out (by rw[HYL.out];omega)];exact HYL.out);obtain⟨g2,cap,e2,hgC,hgs⟩:=HY.out.form (by omega);injection e2 with e2 e4 e3;clear e4;subst e2 e3;obtain⟨qy,fy⟩:=HY.out.cell hml hlt2;rw[pV HLY.out (by rw[HYL.out];exact hlt2)] at qy;have hst:=HY.out.stored hml j (yl.getD j 0 ^^^ fm t (ml.getD j 0));rw[pW HLY.out (by rw[HYL.out];exact hlt2)] at hst;have hxb:=getD_lt HBM.out j;have hyb:=getD_lt HBY.out j;have p0:=(HG.out.belowC HB.out hC.1).cell 0;have HFw:=ae (HF.out.belowC HB.out hC.2.1);clear hcx hml;generalize ml.getD j 0=x at*;generalize yl.getD j 0=y at*;have CM:=ae (uz gf t x ht hxb wr.drew (Blk.drew HFw.out));have hz:=gQ t x;generalize fm t x=z at*;have e1:=u8_xor_nat y z hyb hz;generalize y ^^^ z=q at*;have HST:=ae hst;have HAPk:Hid ((Value.slice ax k cx).ownBlock≠some g2):=ae fun e=>HAP.out g2 e rfl;clear hst hxb hyb hz;unfold svC at p0;go_wp2_with fail
     go_region_with ((go_at_call 307;refine CM.out.mono ?_;rintro e w3 ⟨rfl,i,rfl⟩))
     all_goals(
      have HY2:Hid (OwnB ((wr.drewN (1+i)).setCell ⟨g2,j,none⟩ (.int .u8 (q:Nat))) C (slice (some ⟨g2,0,none⟩) Z cy) (iJ t ml yl (j+1))):=ae HST.out.1;have HX2:Hid (OwnB ((wr.drewN (1+i)).setCell ⟨g2,j,none⟩ (.int .u8 (q:Nat))) C (slice ax k cx) (kS t wl xl)):=ae (bZ (HX.out.drewN (1+i)) fun b hb=>bE _ _ _ _ (fun e=>HAPk.out (by rw[hb,e])));have HB2:Hid (Below C w ((wr.drewN (1+i)).setCell ⟨g2,j,none⟩ (.int .u8 (q:Nat)))):=ae ((below_drewN HB.out (1+i)).setCell (p:=⟨g2,j,none⟩) hgC _);clear HST HX HY HB HFw CM qx qy fy p0 HAPk;generalize (wr.drewN (1+i)).setCell ⟨g2,j,none⟩ (.int .u8 (q:Nat))=w4 at*;go_wp2_with fail;go_roundw
      case rel=>exact⟨j+1,by omega,by go_num,HX2,HY2,HB2⟩
      case measure=>simp[intOf];omega)
    ·obtain rfl:j=Z:=by omega
     have hfy:iJ t ml yl j=kS t ml yl:=(by rw[<-HYL.out];exact mP HLY.out);rw[hfy] at HY;clear hfy;go_wp2_with fail
     go_end0
     exact⟨rfl,HX.out,HY.out,HB.out⟩
def Oa(w:World)(B:Nat)(p:Nat->Bool)(xs:List Nat):Prop:=∀x∈xs,Calls prog 298 #[int i64 (x:Nat),pointer (some ⟨B,0,none⟩)] w fun e w'=>e=returned (bool (p x))/\∃j,w'=w.drewN j
theorem Az(B n c:Nat)(a:Option Addr)(xs:List Nat)(p:Nat->Bool)(w:World)(hx:Rd w w.heap.size a n (bG xs))(hf:∀j,Oa (w.drewN j) B p xs)(hn:n<=1000000):
 Calls prog 123 #[slice a n c,.func (.func 298) #[] #[pointer (some ⟨B,0,none⟩)]] w fun e w'=>(∃z:Int,e=returned (int i64 z)/\((z= -1/\∀i,i<n->p (xs.getD i 0)=false)\/∃i:Nat,z=(i:Int)/\i<n/\p (xs.getD i 0)=true/\∀k,k<i->p (xs.getD k 0)=false))/\∃j,w'=w.drewN j:=by
 have hl:xs.length=n:=by have:=hx.len;simpa[bG] using this
 have HX:=ae hx;have HF:=ae hf;have HL:=ae hl;clear hx hf hl;go_enter func123,ntmps123;go_wp2_with fail;go_loopw [8] (fun i wr=>∃k:Nat,k<=n/\i=int i64 k/\Hid (∀i,i<k->p (xs.getD i 0)=false)/\Hid (∃j,wr=w.drewN j)) (fun i _=>n-(intOf i).toNat)
 case atStart=>exact⟨0,by omega,rfl,ae fun i h=>absurd h (by omega),ae ⟨0,rfl⟩⟩
 case round=>
  obtain⟨k,hk,rfl,H0,HJ⟩:=hrel;obtain⟨j,hj⟩:=HJ.out;clear HJ;by_cases hlt:k<n
  ·obtain⟨bx,ox,rfl,_,hcx⟩:=iz HX.out hlt
   have cx:wr.cell? ⟨bx,ox+k,none⟩=some (int i64 (xs.getD k 0:Nat)):=(by rw[hj];exact hcx);have hm:xs.getD k 0∈xs:=(by rw[getD_at (by rw[HL.out];exact hlt)];exact aP _);have CL:=ae (HF.out j _ hm);rw[<-hj] at CL;clear hcx hm;generalize hg:xs.getD k 0=x at*;have HGX:=ae hg;have hlt':(k:Int)<(n:Int):=(by omega);have HJ:=ae hj;clear hj hg;cases hpx:p x with
   | false=>
     rw[hpx] at CL;have HP:=ae hpx;clear hpx;go_wp2_with fail;refine CL.out.mono ?_;rintro e w2 ⟨rfl,i,hw2⟩;have HJ2:Hid (∃j,w2=w.drewN j):=ae ⟨j+i,by rw[hw2,HJ.out,World.drewN_drewN]⟩
     have HN0:Hid (∀i,i<k+1->p (xs.getD i 0)=false):=ae fun i h=>by
      rcases Nat.lt_succ_iff_lt_or_eq.1 h with h1 | rfl
      ·exact H0.out i h1
      ·rw[HGX.out];exact HP.out
     clear hw2;go_wp2_with fail;go_roundw
     case rel=>exact⟨k+1,by omega,by go_num,HN0,HJ2⟩
     case measure=>simp[intOf];omega
   | true=>
     rw[hpx] at CL;have HP:=ae hpx;clear hpx;go_wp2_with fail;refine CL.out.mono ?_;rintro e w2 ⟨rfl,i,hw2⟩;have HJ2:Hid (∃j,w2=w.drewN j):=ae ⟨j+i,by rw[hw2,HJ.out,World.drewN_drewN]⟩;clear hw2;go_wp2_with fail;go_ret;exact⟨⟨_,rfl,.inr ⟨k,rfl,hlt,by rw[HGX.out];exact HP.out,H0.out⟩⟩,HJ2.out⟩
  ·obtain rfl:k=n:=by omega
   have HJ:=ae hj;clear hj;go_wp2_with fail;go_ret;exact⟨⟨-1,rfl,.inl ⟨rfl,H0.out⟩⟩,j,HJ.out⟩
theorem kL{α:Type}{p:α->Bool}{l:List α}{j:Nat}(h:j<l.length):(l.take (j+1)).filter p=(l.take j).filter p++if p l[j]=true then [l[j]] else []:=by
 rw[aN h,filter_append,filter_cons];split <;> simp
theorem oC{α:Type}{l:List α}{i:Nat}(h:i<l.length)(u:α):(l.set i u).take (i+1)=l.take i++[u]:=by
 rw[aN (by rw[length_set];exact h),getElem_set_self,take_set_of_le (ah _)]
theorem rZ{α:Type}{l:List α}{i j:Nat}(h:i<j)(u:α):(l.set i u).drop j=l.drop j:=by
 rw[drop_set,bf h]
theorem EH{w w':World}{C e k n m cap g:Nat}{xs ys:List Value}(h:w.ownsRow C e k (slice (some ⟨g,0,none⟩) n cap) n xs)(hm:m<=n)(hw:∃cur cur':Array Value,w.heap[g]? =some (.cells cur e (0,0))/\w'.heap[g]? =some (.cells cur' e (0,0))/\cur'.size=cur.size/\∀i,i<m*k->cur'[i]? =cur[i]?)(hy:ys=xs.take (m*k)):w'.ownsRow C e k (slice (some ⟨g,0,none⟩) m cap) m ys:=by
 obtain⟨h1,h2⟩:=h;rcases h2 with⟨e1,_⟩ | ⟨g',cap',cur,e1,hg,hh,h3,h4,h5,h6⟩
 ·cases e1
 ·injection e1 with e1 e2 e3
  injection e1 with e1;injection e1 with e1 _ _;subst e1 e3;obtain⟨c1,c2,a1,a2,a3,a4⟩:=hw;rw[hh] at a1;injection a1 with a1;injection a1 with a1 _ _;subst a1;have hmk:m*k<=n*k:=Nat.mul_le_mul_right k hm;refine⟨by rw[hy,aG,h1];omega,.inr ⟨g,cap,c2,rfl,hg,a2,by omega,h4,by rw[a3];exact h5,?_⟩⟩;rw[hy,<-h6,take_take,Nat.min_eq_left hmk];apply ext_getElem?;intro i;rw[List.getElem?_take,List.getElem?_take];split
  ·rename_i hi
   have:=a4 i hi;simpa using this
  ·rfl
theorem oD{b:Nat}{e:TypeId}:∀(vs:List Value) (o:Nat) (w:World) (cur:Array Value),w.heap[b]? =some (.cells cur e (0,0))->∃cur':Array Value,(w.setCells b o vs).heap[b]? =some (.cells cur' e (0,0))/\cur'.size=cur.size/\∀i,i<o->cur'[i]? =cur[i]? :=by
 intro vs
 induction vs with
 | nil=>intro o w cur h;exact⟨cur,h,rfl,fun _ _=>rfl⟩
 | cons v vs ih=>
   intro o w cur h;obtain⟨c',h1,h2,h3⟩:=ih (o+1) (w.setCell ⟨b,o,none⟩ v) _ (heap_setCell_same w b o cur e v h);refine⟨c',h1,by rw[h2];simp,fun i hi=> ?_⟩;rw[h3 i (by omega),Array.getElem?_setIfInBounds,bg (by omega)]
theorem qB{b k:Nat}(hk:k≠b):∀(vs:List Value) (o:Nat) (w:World),(w.setCells b o vs).heap[k]? =w.heap[k]? :=by
 intro vs
 induction vs with
 | nil=>intro o w;rfl
 | cons v vs ih=>intro o w;exact(ih (o+1) _).trans (bE _ _ _ _ hk)
structure Sz0 (w w':World):Prop where
 sz:w'.heap.size=w.heap.size
 bl:Below 0 w w'
theorem Sz0.refl(w:World):Sz0 w w:=⟨rfl,az _ _⟩
theorem Sz0.dr{w w1:World}(h:Sz0 w w1)(q:Nat):Sz0 w (w1.drewN q):=⟨h.sz,below_drewN h.bl q⟩
theorem Sz0.set{w w1:World}(h:Sz0 w w1)(p:Addr)(u:Value):Sz0 w (w1.setCell p u):=⟨by simpa using h.sz,h.bl.setCell (bu _) u⟩
theorem Sz0.cells{w w1:World}(h:Sz0 w w1)(b o:Nat)(vs:List Value):Sz0 w (w1.setCells b o vs):=by
 induction vs generalizing o w1 with
 | nil=>exact h
 | cons v vs ih=>exact ih (h.set ⟨b,o,none⟩ v) (o+1)
theorem yS{w w1:World}(h:Below 0 w w1)(b o:Nat)(vs:List Value):Below 0 w (w1.setCells b o vs):=by
 induction vs generalizing o w1 with
 | nil=>exact h
 | cons v vs ih=>exact ih (h.setCell (p:=⟨b,o,none⟩) (bu _) v) (o+1)
theorem yT(B C n c:Nat)(a:Option Addr)(xs:List Nat)(p:Nat->Bool)(w:World)(hx:OwnI w C (slice a n c) xs)(hl:xs.length=n)(hC:C<=w.heap.size)
 (hf:∀w',(∀b,b<w.heap.size->some b≠(Value.slice a n c).ownBlock->w'.heap[b]? =w.heap[b]?)->Oa w' B p xs)(hn:n<=1000000):
 Calls prog 66 #[slice a n c,.func (.func 298) #[] #[pointer (some ⟨B,0,none⟩)]] w fun e w'=>∃m,e=returned (slice a m c)/\OwnI w' C (slice a m c) (xs.filter fun x=> !p x)/\Sz0 w w'/\∀b,some b≠(Value.slice a n c).ownBlock->w'.heap[b]? =w.heap[b]? :=by
 have hRd:Rd w w.heap.size a n (bG xs):=by
  obtain⟨a',c',e,h,_⟩:=hx.rd2 hl;injection e with e1 _ _;subst e1;exact h
 have CI:=ae (Az B n c a xs p w hRd (fun j=>hf _ fun b _ _=>rfl) hn);have HF:=ae hf;have HL:=ae hl;have HO:=ae hx;clear hRd hf hl hx;go_enter func66,ntmps66;go_wp2_with fail;refine CI.out.mono ?_;rintro e w1 ⟨⟨z,rfl,hz⟩,j,hw1⟩;have HW1:=ae hw1;clear hw1 CI;rcases hz with⟨rfl,hno⟩ | ⟨i,rfl,hin,hpi,hno⟩
 ·have HNO:=ae hno
  clear hno;go_wp2_with fail;go_ret
  have hfl:xs.filter (fun x=> !p x)=xs:=filter_eq_self.2 fun x hx=>by
   obtain⟨i,hi,rfl⟩:=bC hx;have:=HNO.out i (by rw[<-HL.out];exact hi);rw[getD_at hi] at this;rw[this];rfl
  refine⟨n,rfl,by rw[hfl,HW1.out];exact HO.out,by rw[HW1.out];exact(Sz0.refl w).dr _,fun b _=>by rw[HW1.out];rfl⟩
 ·obtain⟨g,rfl,hgC,hgs⟩:=HO.out.formA HL.out (by omega)
  have hcap:n<=c/\c<=maxLen:=by
   rcases HO.out.2 with⟨e1,_⟩ | ⟨g',cap',cur,e1,hg,hh,h3,h4,h5,h6⟩
   ·cases e1
   ·injection e1 with _ _ e3
    subst e3;rw[<-HL.out];exact⟨h3,h4⟩
  have HQ0:Hid (∃ys:List Nat,ys.length=n/\OwnI w1 C (slice (some ⟨g,0,none⟩) n c) ys/\ys.take i=(xs.take (i+1)).filter (fun x=> !p x)/\ys.drop (i+1)=xs.drop (i+1)/\Sz0 w w1/\∀b,b≠g->w1.heap[b]? =w.heap[b]?):=ae ⟨xs,HL.out,by rw[HW1.out];exact HO.out,by
   rw[kL (by rw[HL.out];exact hin),filter_eq_self.2 fun x hx=> ?_]
   ·rw[getD_at (by rw[HL.out];exact hin)] at hpi
    rw[hpi];simp
   ·obtain⟨k,hk,rfl⟩:=bC hx
    rw[aG] at hk;have:=hno k (by omega);rw[getD_at (by omega)] at this;rw[getElem_take,this];rfl,rfl,by rw[HW1.out];exact(Sz0.refl w).dr _,fun b _=>by rw[HW1.out];rfl⟩
  clear hpi hno HW1 HO;go_wp2_with fail;go_loopw [5,6] (fun u v wr=>∃i j:Nat,i<j/\j<=n/\u=int i64 i/\v=int i64 j/\Hid (∃ys:List Nat,ys.length=n/\OwnI wr C (slice (some ⟨g,0,none⟩) n c) ys/\ys.take i=(xs.take j).filter (fun x=> !p x)/\ys.drop j=xs.drop j/\Sz0 w wr/\∀b,b≠g->wr.heap[b]? =w.heap[b]?)) (fun _ v _=>n-(intOf v).toNat)
  case atStart=>exact⟨i,i+1,by omega,by omega,rfl,by go_num,HQ0⟩
  case round=>
   clear HQ0 hin;obtain⟨i,j,hij,hjn,rfl,rfl,HQ⟩:=hrel;obtain⟨ys,hyl,hO,ht,hd,hs,hk⟩:=HQ.out;by_cases hlt:j<n
   ·have hltI:(j:Int)<(n:Int):=by omega
    have hiI:(i:Int)<(n:Int):=(by omega);obtain⟨cj,fj⟩:=hO.cellA hyl hlt;obtain⟨ci,fi⟩:=hO.cellA hyl (show i<n by omega)
    have hjx:ys.getD j 0=xs.getD j 0:=by
     have h1:(ys.drop j)[0]? =(xs.drop j)[0]? :=(by rw[hd]);rw[List.getElem?_drop,List.getElem?_drop,Nat.add_zero] at h1;rw[af,af,h1]
    rw[hjx] at cj;have hjl:j<xs.length:=(by rw[HL.out];exact hlt);have hm:xs.getD j 0∈xs:=(by rw[getD_at hjl];exact aP _);have CF:=ae (HF.out wr (fun b _ hb=>hk b (fun e=>hb (by rw[e];rfl))) _ hm);have HT:=ae (kL (p:=fun x=> !p x) hjl);rw[<-getD_at hjl] at HT;have hd2:ys.drop (j+1)=xs.drop (j+1):=(by rw[<-drop_drop,hd,drop_drop]);have HYT:=ae ht;have HD:=ae hd2;have HO:=ae hO;have HY:=ae hyl;have HS:=ae hs;have HK:=ae hk;clear hjx hm hjl hd2 ht hd hO hyl hs hk HQ;generalize xs.getD j 0=x at*;generalize ys.getD i 0=yo at*;cases hpx:p x with
    | true=>
      rw[hpx] at CF;have HP:=ae hpx;clear hpx ci fi;go_wp2_with fail;refine CF.out.mono ?_;rintro e w2 ⟨rfl,q,hw2⟩;have HQn:Hid (∃ys:List Nat,ys.length=n/\OwnI w2 C (slice (some ⟨g,0,none⟩) n c) ys/\ys.take i=(xs.take (j+1)).filter (fun x=> !p x)/\ys.drop (j+1)=xs.drop (j+1)/\Sz0 w w2/\∀b,b≠g->w2.heap[b]? =w.heap[b]?):=ae ⟨ys,HY.out,by rw[hw2];exact HO.out,by rw[HT.out,HP.out,HYT.out];simp,HD.out,by rw[hw2];exact HS.out.dr _,fun b hb=>by rw[hw2];exact HK.out b hb⟩;clear hw2 HO HS HK CF;go_wp2_with fail;go_roundw
      case rel=>(repeat apply Exists.intro);exact⟨⟨i,j+1,by omega,by omega,rfl,by go_num,HQn⟩,rfl⟩
      case measure=>simp[intOf];omega
    | false=>
      rw[hpx] at CF;have HP:=ae hpx;clear hpx;go_wp2_with fail;refine CF.out.mono ?_;rintro e w2 ⟨rfl,q,hw2⟩;have ci2:w2.cell? ⟨g,i,none⟩=some (int i64 yo):=(by rw[hw2];exact ci);have fi2:w2.frozen? ⟨g,i,none⟩=false:=(by rw[hw2];exact fi);have HQn:Hid (∃ys:List Nat,ys.length=n/\OwnI (w2.setCell ⟨g,i,none⟩ (int i64 x)) C (slice (some ⟨g,0,none⟩) n c) ys/\ys.take (i+1)=(xs.take (j+1)).filter (fun x=> !p x)/\ys.drop (j+1)=xs.drop (j+1)/\Sz0 w (w2.setCell ⟨g,i,none⟩ (int i64 x))/\∀b,b≠g->(w2.setCell ⟨g,i,none⟩ (int i64 x)).heap[b]? =w.heap[b]?):=ae ⟨ys.set i x,by rw[length_set];exact HY.out,by rw[hw2];exact OwnI.storedA (w:=w2.drewN 0) (by rw[hw2];exact HO.out) HY.out i x |> (fun h=>by rw[hw2] at h;exact h),by rw[oC (by rw[HY.out];omega),HT.out,HP.out,HYT.out];simp,by rw[rZ (by omega)];exact HD.out,by rw[hw2];exact(HS.out.dr _).set _ _,fun b hb=>(bE _ _ _ _ hb).trans (by rw[hw2];exact HK.out b hb)⟩;clear hw2 HO HS HK CF ci fi;go_wp2_with fail;go_roundw
      case rel=>(repeat apply Exists.intro);exact⟨⟨i+1,j+1,by omega,by omega,by go_num,by go_num,HQn⟩,rfl⟩
      case measure=>simp[intOf];omega
   ·obtain rfl:j=n:=by omega
    have hic:(i:Int)<=(c:Int):=(by omega);have hicn:¬c=i:=by omega
    have hcl:∀ty,(Builtin.clear_ #[22] ty #[slice (some ⟨g,i,none⟩) (j-i) (c-i)]).run prog wr=.ok (.tuple #[]) (wr.setCells g i (replicate (j-i) (int i64 0))):=
     fun ty=>Lib.run_clear_slice wr _ 3 ty _ underlying22 Tryz.zeroValue3 rfl rfl g i _ _ (by omega) (fun t ht=>by rw[(hO.cellA hyl (show i+t<j by omega)).1];rfl) (fun t ht=>(hO.cellA hyl (show i+t<j by omega)).2)
    have hxj:xs.take j=xs:=aJ (by rw[HL.out];exact ah _);rw[hxj] at ht;clear hxj;have hlen:(xs.filter fun x=> !p x).length=i:=by rw[<-ht,aG,hyl];omega
    have HFin:Hid (∃m,Value.slice (some ⟨g,0,none⟩) i c=slice (some ⟨g,0,none⟩) m c/\OwnI (wr.setCells g i (replicate (j-i) (int i64 0))) C (slice (some ⟨g,0,none⟩) m c) (xs.filter fun x=> !p x)/\Sz0 w (wr.setCells g i (replicate (j-i) (int i64 0)))/\∀b,some b≠(Value.slice (some ⟨g,0,none⟩) j c).ownBlock->(wr.setCells g i (replicate (j-i) (int i64 0))).heap[b]? =w.heap[b]?):=ae (by
     refine⟨i,rfl,?_,hs.cells _ _ _,fun b hb=>(qB (fun e=>hb (by rw[e];rfl)) _ _ _).trans (hk b (fun e=>hb (by rw[e];rfl)))⟩;unfold OwnI at hO ⊢;rw[hyl] at hO;rw[hlen];have hO':=hO;obtain⟨h1,⟨e1,_⟩ | ⟨g',cap',cur,e1,hg,hh,h3,h4,h5,h6⟩⟩:=hO'
     ·cases e1
     ·injection e1 with e1 e2 e3
      injection e1 with e1;injection e1 with e1 _ _;subst e1;obtain⟨cur',d1,d2,d3⟩:=oD (replicate (j-i) (int i64 0)) i wr cur hh;refine EH hO (by omega) ⟨cur,cur',hh,d1,d2,fun q hq=>d3 q (by omega)⟩ ?_;rw[Nat.mul_one,<-ht];unfold bG;rw[map_take])
    have HCL:=hcl;clear hcl ht hlen hyl hO hd hs hk HQ HF HL;go_wp2_with fail;go_ret;exact HFin.out.elim fun m h=>⟨m,by rw[h.1];rfl,h.2⟩
