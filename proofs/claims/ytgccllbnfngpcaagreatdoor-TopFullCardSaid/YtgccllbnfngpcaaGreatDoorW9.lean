import Derived.Test.YtgccllbnfngpcaaGreatDoorW8
set_option linter.unusedVariables false
set_option maxRecDepth 100000
set_option maxHeartbeats 400000000
namespace Go.Proofs.YtgccllbnfngpcaaGreatDoor
open Go.RowKit _root_.Go.Proofs.Tryz List
open Value (int slice pointer bool)
open IntKind (i64)
open Ending (returned)
open Obj (cells)
theorem xL:(prog.info? 22).map (λa=>(a.zero,a.size,a.bytes))=some (some (slice none 0 0),1,24):=by kernel_rfl
theorem Ps{w:World}{g c:Nat}{F:Nat->Prop}(a:Blk w g 3 #[int i64 (c:Nat)])(b:F g):(rI [c]).ok w F [slice (some ⟨g,0,none⟩) 1 1]:=
 ⟨_,_,_,rfl,aj _,(by unfold maxLen;omega),λd=>(by cases d),rfl,λ_=>⟨g,0,rfl,b,λd f e=>by
   rw[Nat.zero_add,a.cell d];simpa[bH] using e⟩⟩
theorem za(k:Nat)(p:Nat->Bool):cW (k+1) p=cW k p++if p k=true then [[k]] else []:=by
 unfold cW;rw[range_succ,filter_append,aU,filter_cons];split <;> rfl
theorem mI(k:Nat)(p:Nat->Bool):(cW k p).length<=k:=by
 unfold cW;rw[aC];exact aP (length_filter_le _ _) (by rw[aZ];exact aj _)
theorem zb{w:World}{C D e k n:Nat}{v:Value}{xs:List Value}(a:w.ownsRow C e k v n xs)(b:D<=C):w.ownsRow D e k v n xs:=by
 refine⟨a.1,?_⟩;rcases a.2 with c | ⟨d,f,g,rfl,h,i⟩
 ·exact .inl c
 ·exact .inr ⟨d,f,g,rfl,aP b h,i⟩
theorem nK{a:PK}{n m c b:Nat}(d:(Value.slice a n c).ownBlock=some b):(Value.slice a m c).ownBlock=some b:=by
 cases a with
 | none=>simp[Value.ownBlock] at d
 | some a=>exact d
theorem Hr{w:World}{C:Nat}{v:Value}{St:List (Nat×Nat)}(d:OwnS w C 359 2 (λ_=>False) v (St.map gY)):OwnT w C v St:=by
 obtain⟨b,c,g⟩:=d;rw[aC] at c;have t:=c.1
 have h:b=iE St:=by
  apply ext_getElem?;intro a;by_cases u:a<b.length
  ·have f:a/2<St.length:=by omega
   have i:=g (a/2) (gY (St.getD (a/2) (0,0))) (by rw[List.getElem?_map,af,ah f];rfl);obtain⟨j,k,e,l,m⟩:=i;have n:j=[int i64 ((St.getD (a/2) (0,0)).1:Nat)]:=l.1;have o:k=[int i64 ((St.getD (a/2) (0,0)).2:Nat)]:=m.1;rw[n,o] at e
   have p:b[a/2*2]? =some (int i64 ((St.getD (a/2) (0,0)).1:Nat)):=by
    have:((b.drop (a/2*2)).take 2)[0]? =some (int i64 ((St.getD (a/2) (0,0)).1:Nat)):=(by rw[e];rfl);rw[List.getElem?_take,bg (by decide),List.getElem?_drop,Nat.add_zero] at this;exact this
   have q:b[a/2*2+1]? =some (int i64 ((St.getD (a/2) (0,0)).2:Nat)):=by
    have:((b.drop (a/2*2)).take 2)[1]? =some (int i64 ((St.getD (a/2) (0,0)).2:Nat)):=(by rw[e];rfl);rw[List.getElem?_take,bg (by decide),List.getElem?_drop] at this;exact this
   obtain⟨r,s⟩:=nP f;rcases Nat.mod_two_eq_zero_or_one a with d | d
   ·rw[show a=a/2*2 by omega,p,r]
   ·rw[show a=a/2*2+1 by omega,q,s]
  ·rw[List.getElem?_eq_none (by omega),List.getElem?_eq_none (by rw[iL];omega)]
 rw[h] at c;exact c
theorem Ht(g gf K H Z n u N cK:Nat)(O aK:PK)(ab ak al am ac ad:Value)(F:Nat->Prop)(kn:List Bool)(rest:List (PI×PI))(w:World)
 (hg:Blk w g 292 (svC gf K H Z ab (slice O u N) ak al am ac ad))(hR:(fe rest).ok w F [slice O u N])(hF:∀b,F b->b≠g)(S:Rd w w.heap.size aK n (bX kn))(cd:∀p:Addr,aK=some p->p.block≠g)
 (W:rest.length=u)(ce:u<=1000)(hn:n<=64)(aO:∀x∈rest,x.1.length<=1000/\(∀c∈x.1,c<n)/\Pd x.1):
 Calls prog 234 #[pointer (some ⟨g,0,none⟩),slice aK n cK] w λe C=>e=returned (.tuple #[])/\∃vS vD vL St De Le,oI n (rest.map Prod.fst++cW n λc=>kn.getD c false) St De Le/\
  OwnT C w.heap.size vS (St.filter λI=> !decide (u<=I.1))/\OwnI C w.heap.size vD De/\OwnI C w.heap.size vL (Le.filter λv=> !decide (u<=v))/\
  Blk C g 292 (svC gf K H Z ab (slice O u N) vS vD vL ac ad)/\Below 0 w C/\∀b,b<w.heap.size->b≠g->C.heap[b]? =w.heap[b]? :=by
 have i:=(az w.heap.size w).alloc (aj _) (cells #[pointer (some ⟨g,0,none⟩)] 287);have P:=Blk.new w 287 #[pointer (some ⟨g,0,none⟩)]
 have S0:PH (Sx (w.alloc (cells #[pointer (some ⟨g,0,none⟩)] 287)) (w.alloc (cells #[pointer (some ⟨g,0,none⟩)] 287)) [bS w.heap.size 287 #[pointer (some ⟨g,0,none⟩)],mF aK n (bX kn),eR F (slice O u N) (fe rest),bS g 292 (svC gf K H Z ab (slice O u N) ak al am ac ad)]):=
  ae (((((Sx.nil _).add (bS g _ _) (hg.below i hg.lt)).add (eR F (slice O u N) (fe rest)) ((fe rest).new hR i)).add (mF aK n (bX kn)) ((S.below i (aj _)).more i.size)).add (bS w.heap.size _ _) P)
 have ar:=ae i;have HN:=ae W;have bv:=ae aO;have bw:=hg.lt;have bx:PH ((fe rest).ok (w.alloc (cells #[pointer (some ⟨g,0,none⟩)] 287)) (Bl w.heap.size) [slice O u N]):=ae ((fe rest).new ((fe rest).bl hR) i);have f:=P.cell 0;have d:=(hg.below i bw).cell 5;unfold svC at d;clear hg hR S i P W aO;go_enter func234,ntmps234;go_wp2_with fail;clear f d;generalize d:w.alloc (cells #[pointer (some ⟨g,0,none⟩)] 287)=y at*;have cf:=ae d;clear d;have ag:PH (OwnS y y.heap.size 22 1 Any (slice none 0 0) ((rest.take 0).map λx=>rI x.1)):=ae (OwnS.nil _ _ _ _ _);have aT:=ae (az y.heap.size y);go_loopw [4,16] (λQ v wr=>∃j:Nat,j<=u/\v=int i64 j/\PH (OwnS wr y.heap.size 22 1 Any Q ((rest.take j).map λx=>rI x.1))/\PH (Below y.heap.size y wr)) (λ_ v _=>u-(intOf v).toNat)
 case atStart=>exact⟨0,by omega,rfl,ag,aT⟩
 case round=>
  clear ag aT;obtain⟨j,cg,rfl,z,s⟩:=hrel;have X:=ae (S0.o.step s.o);have L:=s.o.size;obtain⟨Y,M,T,rfl⟩:=z.o.sl;by_cases aV:j<u
  ·have aq:(j:Int)<(u:Int):=by omega
   have l:j<rest.length:=(by rw[HN.o];exact aV);obtain⟨b,au,k,m,o,t,A,B,rfl,_,d,V,aa,r,ai,an,ao⟩:=mH ((fe rest).new bx.o s.o) HN.o aV;have i:=(az wr.heap.size wr).alloc (aj _) (cells #[slice k m o,slice t A B] 286);have G:=Blk.new wr 286 #[slice k m o,slice t A B];have J:=(rI _).new r i;have k0:=G.cell 0;have q:=ae (z.o.new i);have D:=ae (s.o.trans (i.mono L));have W:((rest.take j).map λx=>rI x.1).length<=1000000:=(by rw[aC,aG];omega);have f:PH ((rest.take (j+1)).map (λx=>rI x.1)=((rest.take j).map λx=>rI x.1)++[rI (rest.getD j ([],[])).1]):=ae (by rw[aN l,aU,af,ah l];rfl);have U:y.heap.size<=(wr.alloc (cells #[slice k m o,slice t A B] 286)).heap.size:=aP L i.size;have ap:w.heap.size<=y.heap.size:=ar.o.size;have E:PH ((rI (rest.getD j ([],[])).1).ok (wr.alloc (cells #[slice k m o,slice t A B] 286)) (λb=>Any b/\some b≠(Value.slice Y M T).ownBlock) [slice k m o]):=ae (q.o.off J λb d=>⟨trivial,.inl (aW d ap)⟩);clear i G r J ai an ao l z s X;generalize rest.getD j ([],[])=x at*;generalize (rest.take j).map (λx=>rI x.1)=LL at*;go_upto_region 5 with fail;clear V aa;generalize wr.alloc (cells #[slice k m o,slice t A B] 286)=wa at*
   go_wp2_with (at_builtin;refine gT (w:=wa) (w1:=wa) rfl _ _ rfl underlying98 xL rfl (by decide) (by decide) q.o (az _ _) U W (R:=rI x.1) E.o rfl rfl rfl ?_)
   intro v6 r l G;rw[<-f.o] at l;have J:=ae l;have V:=ae (D.o.trans G);clear l G q E D k0;obtain⟨b6,M,T,rfl⟩:=J.o.sl;go_wp2_with fail;go_roundw
   case rel=>exact⟨j+1,by omega,by go_num,J,V⟩
   case measure=>simp[intOf];omega
  ·obtain rfl:j=u:=by omega
   rw[aJ (by rw[HN.o];exact aj _)] at z
   have ag:PH (OwnS wr y.heap.size 22 1 Any (slice Y M T) ((rest.map Prod.fst++cW 0 λc=>kn.getD c false).map rI)):=ae (by
    have e:(rest.map Prod.fst++cW 0 λc=>kn.getD c false).map rI=rest.map λx=>rI x.1:=by
     rw[show cW 0 (λc=>kn.getD c false)=[] from rfl,append_nil,map_map];rfl
    rw[e];exact z.o)
   clear z X;go_wp2_with fail;clear L;have aX:=s;clear s;go_loopw [4,28] (λQ v wr=>∃j:Nat,j<=n/\v=int i64 j/\PH (OwnS wr y.heap.size 22 1 Any Q ((rest.map Prod.fst++cW j λc=>kn.getD c false).map rI))/\PH (Below y.heap.size y wr)) (λ_ v _=>n-(intOf v).toNat)
   case atStart=>exact⟨0,by omega,rfl,ag,aX⟩
   case round=>
    clear ag aX;obtain⟨k,ch,rfl,z,s⟩:=hrel;have X:=ae (S0.o.step s.o);have L:=s.o.size;obtain⟨Y,M,T,rfl⟩:=z.o.sl;by_cases bB:k<n
    ·have B:(k:Int)<(n:Int):=by omega
     obtain⟨Q,ok,rfl,aa,m⟩:=tG (X.o.rd 1 rfl) bB;have f:=ae (za k λc=>kn.getD c false);have ai:=mI k λc=>kn.getD c false;have W:((rest.map Prod.fst++cW k λc=>kn.getD c false).map rI).length<=1000000:=(by rw[aC,aH,aC,HN.o];omega);generalize cW k (λc=>kn.getD c false)=o at*;cases hky:kn.getD k false with
     | false=>
       rw[hky] at m;have t:PH (OwnS wr y.heap.size 22 1 Any (slice Y M T) ((rest.map Prod.fst++cW (k+1) λc=>kn.getD c false).map rI)):=ae (by rw[f.o,hky,bh (by decide),append_nil];exact z.o);clear hky z f X;go_wp2_with fail;go_roundw
       case rel=>exact⟨k+1,by omega,by go_num,t,s⟩
       case measure=>simp[intOf];omega
     | true=>
       rw[hky] at m f;rw[bg rfl] at f;have t:PH ((rest.map Prod.fst++cW (k+1) λc=>kn.getD c false).map rI=(rest.map Prod.fst++o).map rI++[rI [k]]):=ae (by rw[f.o,<-append_assoc,aU];rfl);have i:=(az wr.heap.size wr).alloc (aj _) (cells #[int i64 k] 3);have q:=ae (z.o.new i);have D:=ae (s.o.trans (i.mono L));have U:y.heap.size<=(wr.alloc (cells #[int i64 k] 3)).heap.size:=aP L i.size;have A:(wr.alloc (cells #[int i64 k] 3)).heap.size=wr.heap.size+1:=(by simp);have E:PH ((rI [k]).ok (wr.alloc (cells #[int i64 k] 3)) (λb=>Any b/\some b≠(Value.slice Y M T).ownBlock) [slice (some ⟨wr.heap.size,0,none⟩) 1 1]):=ae (z.o.off (Ps (Blk.new wr _ _) (F:=λb=>b=wr.heap.size) rfl) λb d=>⟨trivial,.inr (by rw[d];exact aj _)⟩);clear hky i f z s X;generalize (rest.map Prod.fst++o).map rI=LL at*
       go_wp2_with (at_builtin;refine gT (w:=wr.alloc (cells #[int i64 k] 3)) (w1:=wr.alloc (cells #[int i64 k] 3)) rfl _ _ rfl underlying98 xL rfl (by decide) (by decide) q.o (az _ _) U W (R:=rI [k]) E.o rfl rfl (by rw[A];rfl) ?_)
       intro v6 r l G;rw[<-t.o] at l;have J:=ae l;have V:=ae (D.o.trans G);clear l G q E D;obtain⟨b6,M,T,rfl⟩:=J.o.sl;go_wp2_with fail;go_roundw
       case rel=>exact⟨k+1,by omega,by go_num,J,V⟩
       case measure=>simp[intOf];omega
    ·obtain rfl:k=n:=by omega
     have l:(rest.map Prod.fst++cW k λc=>kn.getD c false).length<=2000:=by
      have:=mI k λc=>kn.getD c false;rw[aH,aC,HN.o];omega
     obtain⟨f,-⟩:=z.o.len;rw[aC] at f
     have CP:=ae (DY k M Y T _ (rest.map Prod.fst++cW k λc=>kn.getD c false) wr z.o.rep f (by omega) hn (λx hx=>by
      rcases bz.1 hx with h | h
      ·obtain⟨m,o,rfl⟩:=aY.1 h
       exact bv.o m o
      ·obtain⟨c,m,rfl⟩:=aY.1 h
       have:=bA.1 (mem_filter.1 m).1;exact⟨by simp,λaa o=>by rw[mem_singleton.1 o];exact this,λv hi=>by simp at hi⟩))
     have a0:=ae f;have ci:M<=2000:=(by omega);clear f l;go_wp2_with fail;refine CP.o.mono ?_;rintro e U ⟨vS,vD,vL,St,De,Le,rfl,t,hS,A,B,aM,f⟩;obtain⟨l,Q,m,rfl⟩:=hS.sl;obtain⟨D,E,G,rfl⟩:=OwnI.sl A;obtain⟨o,J,q,rfl⟩:=OwnI.sl B;have V:=Hr hS;have i:=(az U.heap.size U).alloc (aj _) (cells #[slice l Q m,slice D E G,slice o J q] 290);have ai:=Blk.new U 290 #[slice l Q m,slice D E G,slice o J q];have aq:=kN V i;have a3:=fI A i;have au:=fI B i;have S3:=S0.o.step ((s.o.trans (f.mono L)).trans (i.mono (aP L f.size)));have b1:w.heap.size<y.heap.size:=(S0.o.blk 0 rfl).lt;have P:=S3.blk 0 rfl;have an:=S3.blk 3 rfl
     have a4:St.length=Q:=by
      obtain⟨a',c',e,_⟩:=dB aq;injection e with _ e _;exact e.symm
     have a5:Le.length=J:=by
      obtain⟨a',c',e,_⟩:=dB au;injection e with _ e _;exact e.symm
     have a7:St.length<=1000000/\Le.length<=1000000:=by
      constructor
      ·have h1:(St.map Prod.fst).length<=M:=jb t.rows λav hr=>by
        obtain⟨⟨r',aa⟩,h5,e5⟩:=aY.1 hr;obtain⟨v,hi,h6⟩:=bC h5;have:r'=av:=e5;subst this;have:=(t.step v r' aa (by rw[ah hi,h6])).1
        rwa [a0.o] at this
       rw[aC] at h1;omega
      ·rw[t.left]
       exact aP (length_filter_le _ _) (by rw[aZ,a0.o];omega)
     have cj:=f.size;have ao:=World.ownsRow.lt V;have a8:=World.ownsRow.lt A;have a9:=World.ownsRow.lt B;have bb:=ju V A (by decide);have bc:=ju V B (by decide);have bd:PH (∀b,b<w.heap.size->(U.alloc (cells #[slice l Q m,slice D E G,slice o J q] 290)).heap[b]? =w.heap[b]?):=ae λb d=>(((s.o.trans (f.mono L)).trans (i.mono (aP L f.size))).block b (Nat.lt_trans d b1)).trans (ar.o.block b d);have be:PH (Below 0 w (U.alloc (cells #[slice l Q m,slice D E G,slice o J q] 290))):=ae ((((ar.o.mono (bu _)).trans (s.o.mono (bu _))).trans (f.mono (bu _))).trans (i.mono (bu _)));have ck:=i.size;have cl:=ai.lt
     have CD:=ae (wN w.heap.size wr.heap.size Q m l St (λI=>decide (j<=I.1)) _ aq a4 (by omega) (λC aa S I hs=>by
      obtain⟨av,c⟩:=I;have e1:C.heap[w.heap.size]? =_:=S w.heap.size P.lt (λe=>by have:=ao _ e.symm;omega);have e2:C.heap[g]? =_:=S g an.lt (λe=>by have:=ao _ e.symm;omega);exact GU w.heap.size g gf K H Z j N av c O ab ak al am ac ad C ((World.cell?_of_block (a:=⟨w.heap.size,0,none⟩) e1).trans (P.cell 0)) (by have:=P.lt;omega) (e2.trans an)) (by omega))
     have b2:=ai.cell 0;have aw:=ae ai;have ax:=ae a3;have ay:=ae au;have aA:=ae P;have aB:=ae an;have b3:=ae t;have aE:=ae a5;have b5:=ae a7;have b7:=ae bb;have bi:=ae bc;have b8:=ae aM;have ap:=ae ao;have aF:=ae a8;have aa:=ae a9;clear V hS A B i ai aq a3 au S3 P an t aM a4 a5 a7 ao a8 a9 bb bc CP f z s;go_upto_region 14 with fail;generalize U.alloc (cells #[slice l Q m,slice D E G,slice o J q] 290)=w3 at*;generalize t:U.heap.size=f at*;clear t;go_wp2_with fail;refine CD.o.mono ?_;rintro e t ⟨A,rfl,a3,B,a4⟩;have cm:=B.size;have a5:=ae (be.o.trans B);clear B be;have b9:f<w3.heap.size:=aw.o.lt
     have B:∀b,b<w3.heap.size->(b<wr.heap.size\/b=f\/(Value.slice D E G).ownBlock=some b\/(Value.slice o J q).ownBlock=some b)->t.heap[b]? =w3.heap[b]? :=λb d au=>a4 b d λe=>by
      have h1:=ap.o b e.symm;rcases au with h | h | h | h
      ·omega
      ·omega
      ·exact b7.o b e.symm h
      ·exact bi.o b e.symm h
     have an:Blk t f 290 #[slice l Q m,slice D E G,slice o J q]:=(B f b9 (.inr (.inl rfl))).trans aw.o;have a7:OwnI t wr.heap.size (slice D E G) De:=bZ ax.o λb d=>B b (World.ownsRow.lt ax.o b d).2 (.inr (.inr (.inl d)));have a8:OwnI t wr.heap.size (slice o J q) Le:=bZ ay.o λb d=>B b (World.ownsRow.lt ay.o b d).2 (.inr (.inr (.inr d)));have a9:Blk t w.heap.size 287 _:=(B w.heap.size aA.o.lt (.inl (by omega))).trans aA.o;have bb:Blk t g 292 _:=(B g aB.o.lt (.inl (by omega))).trans aB.o;have bc:∀b,b<w.heap.size->t.heap[b]? =w.heap[b]? :=λb d=>(B b (by omega) (.inl (by omega))).trans (bd.o b d);have ca:=an.cell 0;have cb:=an.frozen 0;have V:=λ(b:Nat) (d:b≠f)=>bE t ⟨f,0,none⟩ (slice l A m) b d;have aM:=ae (an.set 0 (slice l A m));have be:PH (OwnT (t.setCell ⟨f,0,none⟩ (slice l A m)) wr.heap.size (slice l A m) (St.filter λI=> !decide (j<=I.1))):=ae (jr a3 λb d=>V b (λe=>by have:=ap.o b (nK d);omega));have bj:OwnI (t.setCell ⟨f,0,none⟩ (slice l A m)) wr.heap.size (slice D E G) De:=bZ a7 λb d=>V b (λe=>by have:=aF.o b d;omega);have bl:OwnI (t.setCell ⟨f,0,none⟩ (slice l A m)) wr.heap.size (slice o J q) Le:=bZ a8 λb d=>V b (λe=>by have:=aa.o b d;omega);have ao:Blk (t.setCell ⟨f,0,none⟩ (slice l A m)) w.heap.size 287 _:=(V w.heap.size (by omega)).trans a9;have aq:Blk (t.setCell ⟨f,0,none⟩ (slice l A m)) g 292 _:=(V g (by omega)).trans bb;have bm:∀b,b<w.heap.size->(t.setCell ⟨f,0,none⟩ (slice l A m)).heap[b]? =w.heap[b]? :=λb d=>(V b (by omega)).trans (bc b d);have ai:(t.setCell ⟨f,0,none⟩ (slice l A m)).heap.size=t.heap.size:=(by simp);have bo:=ae ai;have bp:=ae (a5.o.setCell (p:=⟨f,0,none⟩) (bu _) (slice l A m));clear a5
     have CE:=ae (yI w.heap.size wr.heap.size J q o Le (λv=>decide (j<=v)) _ bl aE.o (by rw[ai];omega) (λC S x hx=>by
      have e1:C.heap[w.heap.size]? =_:=S w.heap.size ao.lt (λe=>by have:=aa.o _ e.symm;omega);have e2:C.heap[g]? =_:=S g aq.lt (λe=>by have:=aa.o _ e.symm;omega);exact GT w.heap.size g gf K H Z j N x O ab ak al am ac ad C ((World.cell?_of_block (a:=⟨w.heap.size,0,none⟩) e1).trans (ao.cell 0)) (e2.trans aq)) (by have:=b5.o.2;rw[aE.o] at this;exact this))
     have cc:=aM.o.cell 2;have a5:=ae bj;have br:=ae ao;have bs:=ae aq;have bt:=ae bm;clear ai bl bj ao aq bm V an a7 a8 a9 bb bc B a3 aw ax ay aA aB bd CD a4;go_upto_region 15 with fail;clear ca cb b2;generalize t.setCell ⟨f,0,none⟩ (slice l A m)=w5 at*;go_wp2_with fail;refine CE.o.mono ?_;rintro e r ⟨C,rfl,aq,V,aw⟩;have a4:=V.sz;have a7:=ae ((bp.o.trans V.bl).setCell (p:=⟨f,2,none⟩) (bu _) (slice o C q));clear V bp;have ai:=bo.o
     have B:∀b,(b<wr.heap.size\/b=f\/(Value.slice D E G).ownBlock=some b\/(Value.slice l Q m).ownBlock=some b)->r.heap[b]? =w5.heap[b]? :=λb au=>aw b λe=>by
      have h1:=aa.o b e.symm;rcases au with h | h | h | h
      ·omega
      ·omega
      ·exact b8.o b h e.symm
      ·exact bi.o b h e.symm
     have an:Blk r f 290 _:=(B f (.inr (.inl rfl))).trans aM.o;have au:OwnI r wr.heap.size (slice D E G) De:=bZ a5.o λb d=>B b (.inr (.inr (.inl d)));have ax:OwnT r wr.heap.size (slice l A m) (St.filter λI=> !decide (j<=I.1)):=jr be.o λb d=>B b (.inr (.inr (.inr (nK d))));have ay:Blk r w.heap.size 287 _:=(B w.heap.size (.inl (by omega))).trans br.o;have aA:Blk r g 292 _:=(B g (.inl (by omega))).trans bs.o;have aB:∀b,b<w.heap.size->r.heap[b]? =w.heap[b]? :=λb d=>(B b (.inl (by omega))).trans (bt.o b d);have a8:=an.frozen 2;have a9:=an.cell 2;have V:=λ(b:Nat) (d:b≠f)=>bE r ⟨f,2,none⟩ (slice o C q) b d;have ao:=an.set 2 (slice o C q);have bb:PH (OwnT (r.setCell ⟨f,2,none⟩ (slice o C q)) wr.heap.size (slice l A m) (St.filter λI=> !decide (j<=I.1))):=ae (jr ax λb d=>V b (λe=>by have:=ap.o b (nK d);omega));have bc:PH (OwnI (r.setCell ⟨f,2,none⟩ (slice o C q)) wr.heap.size (slice D E G) De):=ae (bZ au λb d=>V b (λe=>by have:=aF.o b d;omega));have bd:PH (OwnI (r.setCell ⟨f,2,none⟩ (slice o C q)) wr.heap.size (slice o C q) (Le.filter λv=> !decide (j<=v))):=ae (bZ aq λb d=>V b (λe=>by have:=aa.o b (nK d);omega));have I:Blk (r.setCell ⟨f,2,none⟩ (slice o C q)) w.heap.size 287 _:=(V w.heap.size (by omega)).trans ay;have v:Blk (r.setCell ⟨f,2,none⟩ (slice o C q)) g 292 _:=(V g (by omega)).trans aA;have bj:PH (∀b,b<w.heap.size->(r.setCell ⟨f,2,none⟩ (slice o C q)).heap[b]? =w.heap[b]?):=ae λb d=>(V b (by omega)).trans (aB b d);have a3:w.heap.size<=(r.setCell ⟨f,2,none⟩ (slice o C q)).heap.size:=(by simp;omega);have bm:=ae a3;have b0:=I.cell 0;have e0:=ao.cell 0;have e1:=ao.cell 1;have e2:=ao.cell 2;have g6:=v.cell 6;have g7:=v.cell 7;have g8:=v.cell 8;have y6:=v.frozen 6;have y7:=v.frozen 7;have y8:=v.frozen 8;unfold svC at g6 g7 g8;have bl:=ae v;clear I ao v ai a3 an au ax ay aA aB V B aq aM a5 be br bs bt CE aw aE a4 bo;go_upto_region 16 with fail;clear a8 a9 cc;generalize r.setCell ⟨f,2,none⟩ (slice o C q)=V at*;have ao:¬g=f:=(by omega);have aq:¬f=g:=(by omega);have au:¬w.heap.size=g:=(by omega);go_wp2_with fail
     go_end0
     have v:∀b,b≠g->(((V.setCell ⟨g,6,none⟩ (slice l A m)).setCell ⟨g,7,none⟩ (slice D E G)).setCell ⟨g,8,none⟩ (slice o C q)).heap[b]? =V.heap[b]? :=λb d=>((bE _ _ _ _ d).trans (bE _ _ _ _ d)).trans (bE _ _ _ _ d);have I:w.heap.size<=wr.heap.size:=(by omega);refine⟨rfl,slice l A m,slice D E G,slice o C q,St,De,Le,b3.o,?_,?_,?_,?_,?_,?_⟩
     ·exact zb (jr bb.o λb d=>v b (λe=>by have:=ap.o b (nK d);omega)) I
     ·exact zb (bZ bc.o λb d=>v b (λe=>by have:=aF.o b d;omega)) I
     ·exact zb (bZ bd.o λb d=>v b (λe=>by have:=aa.o b (nK d);omega)) I
     ·exact((bl.o.set 6 _).set 7 _).set 8 _
     ·exact((a7.o.setCell (bu _) _).setCell (bu _) _).setCell (bu _) _
     ·exact λb d an=>(v b an).trans (bj.o b d)
def gB(L:List (Nat×PI)):Rp:=rS 2 (L.map λa=>sG a.1 a.2)
theorem yZ{L:List (Nat×PI)}{w:World}{F:Nat->Prop}{a:PK}{n c i:Nat}(j:(gB L).ok w F [slice a n c])(v:L.length=n)(k:i<n):
 ∃b o d f e,a=some ⟨b,o,none⟩/\F b/\b<w.heap.size/\w.cell? ⟨b,o+i*2,none⟩=some (int i64 ((L.getD i (0,[])).1:Nat))/\w.cell? ⟨b,o+i*2+1,none⟩=some (slice d f e)/\(rB (L.getD i (0,[])).2).ok w F [slice d f e]/\f=(L.getD i (0,[])).2.length:=by
 have l:i<L.length:=by omega
 have m:(L.map λf=>sG f.1 f.2)[i]? =some (sG (L.getD i (0,[])).1 (L.getD i (0,[])).2):=by rw[List.getElem?_map,af,ah l];rfl
 obtain⟨b,o,x,rfl,p,q,r,y,h⟩:=uQ j (by decide) k m;obtain⟨f,z,rfl,s,g⟩:=r;have t:f=[int i64 ((L.getD i (0,[])).1:Nat)]:=s.1;subst t;have u:=(rB (L.getD i (0,[])).2).len g;obtain⟨A,rfl⟩:=length_eq_one_iff.1 u;obtain⟨d,e,rfl,-⟩:=fC g rfl;exact⟨b,o,d,_,e,rfl,p,q,h 0 _ rfl,h 1 _ rfl,g,rfl⟩
theorem Hf(K H Z id c:Nat)(a:PK)(w:World)(f:id<=65535):
 Calls prog 172 #[.agg #[int i64 K,int i64 H,int i64 Z],.agg #[int i64 id,slice a Z c]] w λb d=>b=returned (bool true)/\Below w.heap.size w d:=by
 have b:=(az w.heap.size w).alloc (aj _) (cells #[int i64 K,int i64 H,int i64 Z] 25);have d:=Blk.new w 25 #[int i64 K,int i64 H,int i64 Z];have e:(w.alloc (cells #[int i64 K,int i64 H,int i64 Z] 25)).heap.size=w.heap.size+1:=by simp
 generalize w.alloc (cells #[int i64 K,int i64 H,int i64 Z] 25)=g at*;have i:(0:Int)<=(id:Int):=by omega
 have j:(id:Int)<=65535:=by omega
 clear d e b;go_enter func172,ntmps172;go_wp2_with fail;go_ret;refine⟨rfl,?_⟩;exact(((az w.heap.size w).alloc (aj _) _).alloc (by simp) _)
theorem Nq(d c:Nat)(a:PK)(F:Nat->Prop)(L:List (Nat×PI))(w:World)(n:(gB L).ok w F [slice a d c])(o:L.length=d)(K:d<=1000):
 Calls prog 174 #[slice a d c] w λe b=>∃v,e=returned v/\OwnI b w.heap.size v (L.map Prod.fst)/\Below w.heap.size w b:=by
 have A:=ae n;have l:=ae o;have p:PH (OwnI w w.heap.size (slice none 0 0) ((L.take 0).map Prod.fst)):=ae (OwnI.nil _ _);have q:=ae (az w.heap.size w);clear n o;go_enter func174,ntmps174;go_wp2_with fail;go_loopw [3,8] (λv e wr=>∃b:Nat,b<=d/\e=int i64 b/\PH (OwnI wr w.heap.size v ((L.take b).map Prod.fst))/\PH (Below w.heap.size w wr)) (λ_ e _=>d-(intOf e).toNat)
 case atStart=>exact⟨0,by omega,rfl,p,q⟩
 case round=>
  clear p q;obtain⟨b,M,rfl,e,f⟩:=hrel;have r:=f.o.size;obtain⟨N,B,C,rfl⟩:=OwnI.sl e.o;by_cases s:b<d
  ·have O:(b:Int)<(d:Int):=by omega
   have m:b<L.length:=(by rw[l.o];exact s);obtain⟨P,Q,g,i,j,rfl,_,R,x,z,-,D⟩:=yZ ((gB L).new A.o f.o) l.o s;have k:=(az wr.heap.size wr).alloc (aj _) (cells #[int i64 ((L.getD b (0,[])).1:Nat),slice g i j] 154);have E:=(Blk.new wr 154 #[int i64 ((L.getD b (0,[])).1:Nat),slice g i j]).cell 0;have t:PH (OwnI _ _ _ _):=ae (fI e.o k);have u:=ae (f.o.trans (k.mono r));have G:w.heap.size<=(wr.alloc (cells #[int i64 ((L.getD b (0,[])).1:Nat),slice g i j] 154)).heap.size:=aP r k.size;have H:PH ((L.take (b+1)).map Prod.fst=(L.take b).map Prod.fst++[(L.getD b (0,[])).1]):=ae (by rw[aN m,aU,af,ah m];rfl);have I:((L.take b).map Prod.fst).length<=1000000:=(by rw[aC,aG];omega);clear k D m e f;generalize (L.getD b (0,[])).1=m at*;generalize (L.take b).map Prod.fst=S at*;go_upto_region 5 with fail;clear x z;generalize wr.alloc (cells #[int i64 (m:Nat),slice g i j] 154)=D at*
   go_wp2_with (at_builtin;refine nJ (w:=D) (y:=m) rfl _ _ ?hi rfl t.o G I rfl rfl ?_)
   case hi=>first | rfl | trivial
   intro T U k x _ _ _;rw[<-H.o] at k;have z:=ae k;have J:=ae (u.o.trans x);clear k x t u E;obtain⟨k,B,C,rfl⟩:=OwnI.sl z.o;go_wp2_with fail;go_roundw
   case rel=>exact⟨b+1,by omega,by go_num,z,J⟩
   case measure=>simp[intOf];omega
  ·obtain rfl:b=d:=by omega
   rw[aJ (by rw[l.o];exact aj _)] at e;go_wp2_with fail;go_ret;exact⟨_,rfl,e.o,f.o⟩
theorem Jp(B K H Z id c:Nat)(a:PK)(w:World)(d:Blk w B 25 #[int i64 K,int i64 H,int i64 Z])(j:id<=65535):
 Calls prog 171 #[.agg #[int i64 id,slice a Z c],pointer (some ⟨B,0,none⟩)] w λg b=>g=returned (bool false)/\Below w.heap.size w b:=by
 have e:=(az w.heap.size w).alloc (aj _) (cells #[int i64 id,slice a Z c] 154);have f:=Blk.new w 154 #[int i64 id,slice a Z c];have k:=f.cell 0;have l:=f.cell 1;have b:=d.below e d.lt;have m:=b.cell 0;have n:=b.cell 1;have o:=b.cell 2;have i:=ae e;clear e f b d;go_enter func171,ntmps171;go_wp2_with fail;have b:=ae (Hf K H Z id c a (w.alloc (cells #[int i64 id,slice a Z c] 154)) j);refine b.o.mono ?_;rintro g p ⟨rfl,e⟩;have f:=ae (i.o.trans (e.mono i.o.size));clear e b m n o k l;go_wp2_with fail;go_ret;exact⟨rfl,f.o⟩
theorem Ce(B K H Z d c:Nat)(a:PK)(F:Nat->Prop)(L:List (Nat×PI))(w:World)(f:(gB L).ok w F [slice a d c])(g:L.length=d)(G:d<=1000)(i:Blk w B 25 #[int i64 K,int i64 H,int i64 Z])
 (j:∀x∈L,x.1<=65535/\x.2.length=Z):
 Calls prog 230 #[slice a d c,.func (.func 171) #[] #[pointer (some ⟨B,0,none⟩)]] w λk b=>k=returned (int i64 (-1))/\Below w.heap.size w b:=by
 have u:=ae f;have l:=ae g;have v:=ae j;have m:=ae i;have n:=ae (az w.heap.size w);clear f g j i;go_enter func230,ntmps230;go_wp2_with fail;go_loopw [8] (λe wr=>∃b:Nat,b<=d/\e=int i64 b/\PH (Below w.heap.size w wr)) (λe _=>d-(intOf e).toNat)
 case atStart=>exact⟨0,by omega,rfl,n⟩
 case round=>
  clear n;obtain⟨b,I,rfl,e⟩:=hrel;by_cases o:b<d
  ·have J:(b:Int)<(d:Int):=by omega
   have p:b<L.length:=(by rw[l.o];exact o);have q:L.getD b (0,[])∈L:=(by rw[af,ah p];exact aQ _);obtain⟨r,y⟩:=v.o _ q;obtain⟨M,N,z,s,A,rfl,_,O,C,D,-,E⟩:=yZ ((gB L).new u.o e.o) l.o o;obtain rfl:s=Z:=(by omega);have t:=ae (Jp B K H s (L.getD b (0,[])).1 A z wr (m.o.below e.o m.o.lt) r);clear p q r y E;generalize (L.getD b (0,[])).1=x at*;go_wp2_with fail;refine t.o.mono ?_;rintro k r ⟨rfl,p⟩;have q:=ae (e.o.trans (p.mono e.o.size));clear p e t C D;go_wp2_with fail;go_roundw
   case rel=>exact⟨b+1,by omega,by go_num,q⟩
   case measure=>simp[intOf];omega
  ·obtain rfl:b=d:=by omega
   go_wp2_with fail;go_ret;exact⟨rfl,e.o⟩
theorem wu(B K H Z b c:Nat)(a:PK)(F:Nat->Prop)(L:List (Nat×PI))(w:World)(d:(gB L).ok w F [slice a b c])(e:L.length=b)(l:b<=1000)(f:Blk w B 25 #[int i64 K,int i64 H,int i64 Z])
 (g:∀x∈L,x.1<=65535/\x.2.length=Z):
 Calls prog 170 #[slice a b c,.func (.func 171) #[] #[pointer (some ⟨B,0,none⟩)]] w λi j=>i=returned (bool false)/\Below w.heap.size w j:=by
 have j:=ae (Ce B K H Z b c a F L w d e l f g);clear d e g f;go_enter func170,ntmps170;go_wp2_with fail;refine j.o.mono ?_;rintro i n ⟨rfl,k⟩;have m:=ae k;clear k j;go_wp2_with fail;go_ret;exact⟨rfl,m.o⟩
structure Hs (w:World) (g n:Nat) (F:Nat->Prop) (W:Nat->PI):Prop where
 ex:∃hs:List Value,Blk w g 30 hs.toArray/\hs.length=n/\∀c,c<n->(rB (W c)).ok w F [hs.getD c undef]
theorem Hs.new{w w':World}{g n:Nat}{F:Nat->Prop}{W:Nat->PI}(c:Hs w g n F W)(a:Below w.heap.size w w'):Hs w' g n F W:=by
 obtain⟨d,b,e,f⟩:=c.ex;exact⟨d,b.below a b.lt,e,λh i=>(rB _).new (f h i) a⟩
theorem Hs.keep{w w':World}{g n:Nat}{F G:Nat->Prop}{W:Nat->PI}(a:Hs w g n F W)(b:w'.heap[g]? =w.heap[g]?)(c:∀k,F k->k<w.heap.size->w'.heap[k]? =w.heap[k]? /\G k):Hs w' g n G W:=by
 obtain⟨d,e,f,h⟩:=a.ex;exact⟨d,b.trans e,f,λi j=>(rB _).keep (h i j) c⟩
theorem Hs.lt{w:World}{g n:Nat}{F:Nat->Prop}{W:Nat->PI}(a:Hs w g n F W):g<w.heap.size:=by
 obtain⟨c,b,_⟩:=a.ex;exact b.lt
theorem Hs.at{w:World}{g n c:Nat}{F:Nat->Prop}{W:Nat->PI}(h:Hs w g n F W)(i:c<n):
 ∃a q d,w.cell? ⟨g,c,none⟩=some (slice a q d)/\q=(W c).length/\(rB (W c)).ok w F [slice a q d]/\Rd w w.heap.size a q (bF (W c))/\(a=none->d=0)/\q<=d/\d<=maxLen/\w.frozen? ⟨g,c,none⟩=false:=by
 obtain⟨hs,e,p,j⟩:=h.ex;have b:=j c i;obtain⟨a,d,f,k,l,m,o⟩:=fC b rfl;rw[f] at b;exact⟨a,_,d,(e.cell c).trans (by rw[<-f];simpa using rJ (hs:=hs) (by omega)),rfl,b,k,l,m,o,e.frozen c⟩
theorem Hs.put{w w':World}{g n c:Nat}{F:Nat->Prop}{W:Nat->PI}{u:Value}{d:PI}(h:Hs w g n F W)(i:(rB d).ok w' F [u])(j:∀b,F b->b<w.heap.size->w'.heap[b]? =w.heap[b]?)
 (k:∀hs:Array Value,Blk w g 30 hs->Blk w' g 30 (hs.setIfInBounds c u)):Hs w' g n F (jd W c d):=by
 obtain⟨hs,l,m,o⟩:=h.ex;refine⟨hs.set c u,by simpa using k _ l,by rw[length_set];exact m,λe p=> ?_⟩;by_cases a:e=c
 ·subst a
  rw[lh,af,List.getElem?_set,bg rfl,bg (by omega)];exact i
 ·rw[jX _ _ a,af,List.getElem?_set,bh (λf=>a f.symm),<-af]
  exact(rB _).keep (o e p) λq f r=>⟨j q f r,f⟩
theorem Hs.begin{w:World}{g n:Nat}{F:Nat->Prop}(a:Blk w g 30 (replicate n (Value.slice none 0 0)).toArray):Hs w g n F (λ_=>[]):=
 ⟨_,a,aI,λc b=>by
   rw[af,List.getElem?_replicate,bg b];exact⟨none,0,0,rfl,aj _,bu _,λ_=>rfl,rfl,λa=>absurd a (Nat.lt_irrefl _)⟩⟩
structure SvSt (w:World) (g gf K H Z n:Nat) (gv gw gm:Nat) (rest vS vD vL:Value) (F:Nat->Prop) (V W M:Nat->PI):Prop where
 blk:Blk w g 292 (svC gf K H Z (slice (some ⟨gv,0,none⟩) n n) rest vS vD vL (slice (some ⟨gw,0,none⟩) n n) (slice (some ⟨gm,0,none⟩) n n))
 fld:Fld w gf
 vls:∃hs:List Value,Blk w gv 30 hs.toArray/\hs.length=n/\∀c,c<n->(rN (V c)).ok w F [hs.getD c undef]
 way:Hs w gw n F W
 mor:Hs w gm n F M
 ne:gv≠gw/\gv≠gm/\gw≠gm
 off:∀b,F b->b≠g/\b≠gv/\b≠gw/\b≠gm
def Kept2(w w':World)(b c:Nat):Prop:=Below 0 w w'/\∀a,a<w.heap.size->a≠b->a≠c->w'.heap[a]? =w.heap[a]?
theorem Kept2.refl(w:World)(a b:Nat):Kept2 w w a b:=⟨az _ _,λ_ _ _ _=>rfl⟩
theorem Kept2.trans{w w1 d:World}{a b:Nat}(c:Kept2 w w1 a b)(e:Kept2 w1 d a b):Kept2 w d a b:=⟨c.1.trans e.1,λf g h i=>(e.2 f (aW g c.1.size) h i).trans (c.2 f g h i)⟩
theorem Kept2.below{w w':World}{b c:Nat}(a:Below w.heap.size w w'):Kept2 w w' b c:=⟨a.mono (bu _),λd e _ _=>a.block d e⟩
def gD(V:Nat->PI)(X W:Nat->PI)(k:Nat):Nat->PI:=λa=>if a<k/\V a≠[] then X a else W a
theorem vQ{V X W:Nat->PI}{k:Nat}(c:V k≠[]):gD V X W (k+1)=jd (gD V X W k) k (X k):=funext λa=>by
 unfold gD jd;by_cases d:a=k
 ·subst d;rw[bg rfl,bg ⟨by omega,c⟩]
 ·rw[bh d]
  show(if a<k+1/\V a≠[] then X a else W a)=if a<k/\V a≠[] then X a else W a;by_cases b:a<k/\V a≠[]
  ·rw[bg b,bg ⟨by omega,b.2⟩]
  ·rw[bh b,bh (λc=>b ⟨by omega,c.2⟩)]
theorem SvSt.new{w w':World}{g c K H Z n d gw gm:Nat}{rest e f h:Value}{F:Nat->Prop}{V W M:Nat->PI}(a:SvSt w g c K H Z n d gw gm rest e f h F V W M)(b:Below w.heap.size w w'):SvSt w' g c K H Z n d gw gm rest e f h F V W M:=by
 obtain⟨j,i,k,l⟩:=a.vls;exact⟨a.blk.below b a.blk.lt,Blk.below (t:=337) a.fld b (Blk.lt (t:=337) a.fld),⟨j,i.below b i.lt,k,λm o=>(rN _).new (l m o) b⟩,a.way.new b,a.mor.new b,a.ne,a.off⟩
theorem SvSt.put2{w wa w':World}{g i K H Z n j gw gm k:Nat}{rest q r s u1 u2:Value}{F:Nat->Prop}{V W M:Nat->PI}{u v:PI}(b:SvSt w g i K H Z n j gw gm rest q r s F V W M)(c:Below w.heap.size w wa)
 (C:w'=(wa.setCell ⟨gw,k,none⟩ u1).setCell ⟨gm,k,none⟩ u2)(D:(rB u).ok wa F [u1])(E:(rB v).ok wa F [u2]):SvSt w' g i K H Z n j gw gm rest q r s F V (jd W k u) (jd M k v)/\Kept2 w w' gw gm:=by
 subst C;obtain⟨G,I,x⟩:=b.ne;have y:∀a,a≠gw->a≠gm->((wa.setCell ⟨gw,k,none⟩ u1).setCell ⟨gm,k,none⟩ u2).heap[a]? =wa.heap[a]? :=λa d e=>(bE _ _ _ _ e).trans (bE _ _ _ _ d);have h:∀a,F a->a≠gw/\a≠gm:=λa c=>⟨(b.off a c).2.2.1,(b.off a c).2.2.2⟩;have z:∀ {f l},(rB f).ok wa F [l]->(rB f).ok ((wa.setCell ⟨gw,k,none⟩ u1).setCell ⟨gm,k,none⟩ u2) F [l]:=λf=>(rB _).keep f λa c _=>⟨y a (h a c).1 (h a c).2,c⟩;have f:∀a,a<w.heap.size->a≠gw->a≠gm->((wa.setCell ⟨gw,k,none⟩ u1).setCell ⟨gm,k,none⟩ u2).heap[a]? =w.heap[a]? :=λa l d e=>(y a d e).trans (c.block a l);obtain⟨O,A,-⟩:=b.way.ex;obtain⟨P,B,-⟩:=b.mor.ex;have l:∀a,F a->a<w.heap.size->((wa.setCell ⟨gw,k,none⟩ u1).setCell ⟨gm,k,none⟩ u2).heap[a]? =w.heap[a]? :=λa c m=>f a m (h a c).1 (h a c).2;refine⟨⟨?_,?_,?_,?_,?_,b.ne,b.off⟩,?_,f⟩
 ·exact(f g b.blk.lt (Blk.ne b.blk A (by decide)) (Blk.ne b.blk B (by decide))).trans b.blk
 ·exact(f i (Blk.lt (t:=337) b.fld) (Blk.ne (t:=337) b.fld A (by decide)) (Blk.ne (t:=337) b.fld B (by decide))).trans b.fld
 ·obtain⟨o,d,e,J⟩:=b.vls
  exact⟨o,(f j d.lt G I).trans d,e,λL N=>(rN _).keep (J L N) λa c m=>⟨l a c m,c⟩⟩
 ·exact b.way.put (z D) l λo a=>Blk.far (p:=⟨gm,k,none⟩) (Blk.set (a.below c a.lt) k u1) x _
 ·exact b.mor.put (z E) l λo a=>Blk.set (Blk.far (p:=⟨gw,k,none⟩) (a.below c a.lt) (λa=>x a.symm) _) k u2
 ·exact((c.mono (bu _)).setCell (bu _) _).setCell (bu _) _
theorem K6(g o K H Z n l gw gm D q:Nat)(r:PK)(rest s t:Value)(F:Nat->Prop)(V W M:Nat->PI)(w:World)(e:SvSt w g o K H Z n l gw gm rest s (slice r D q) t F V W M)(hn:n<=1000)(hD:D<=1000)(L:∀b,w.heap.size<=b->F b):
 Calls prog 236 #[pointer (some ⟨g,0,none⟩)] w λk c=>k=returned (.tuple #[])/\SvSt c g o K H Z n l gw gm rest s (slice r D q) t F V (gD V (λ_=>replicate D 0) W n) (gD V V M n)/\Kept2 w c gw gm:=by
 have N:PH (SvSt w g o K H Z n l gw gm rest s (slice r D q) t F V (gD V (λ_=>replicate D 0) W 0) (gD V V M 0)/\Kept2 w w gw gm):=ae ⟨by
  have x:gD V (λ_=>replicate D 0) W 0=W:=funext λf=>bh (λh=>absurd h.1 (Nat.not_lt_zero f));have e2:gD V V M 0=M:=funext λf=>bh (λh=>absurd h.1 (Nat.not_lt_zero f));rw[x,e2];exact e,Kept2.refl _ _ _⟩
 have c:=e.blk.cell 4;have ag:∀w:World,(Instr.makeSlice 30 (int i64 (D:Int)) (int i64 (D:Int))).run prog w=.ok (slice (some ⟨w.heap.size,0,none⟩) D D) (w.alloc (cells (bK (replicate D 0)) 5)):=λw=>dR (n:=D) (by omega) w;have HF:=ae L;clear e L;go_enter func236,ntmps236;unfold svC at c;go_wp2_with fail;clear c;go_loopw [9] (λd wr=>∃c:Nat,c<=n/\d=int i64 c/\PH (SvSt wr g o K H Z n l gw gm rest s (slice r D q) t F V (gD V (λ_=>replicate D 0) W c) (gD V V M c)/\Kept2 w wr gw gm)) (λd _=>n-(intOf d).toNat)
 case atStart=>exact⟨0,by omega,rfl,N⟩
 case round=>
  clear N;obtain⟨c,ap,rfl,z⟩:=hrel;obtain⟨e,u⟩:=z.o;by_cases A:c<n
  ·have aq:(c:Int)<(n:Int):=by omega
   obtain⟨ai,B,O,C⟩:=e.vls;have v:=C c A;obtain⟨a,f,k,Q,R,S,T,E,G⟩:=KT v;have cv:wr.cell? ⟨l,c,none⟩=some (slice a (V c).length f):=(B.cell c).trans (by rw[<-k];simpa using rJ (hs:=ai) (by omega));by_cases j:V c=[]
   ·obtain⟨rfl,rfl⟩:=E j
    have i:(V c).length=0:=(by rw[j];rfl);rw[i] at cv
    have y:PH (SvSt wr g o K H Z n l gw gm rest s (slice r D q) t F V (gD V (λ_=>replicate D 0) W (c+1)) (gD V V M (c+1))/\Kept2 w wr gw gm):=ae ⟨by
     have x:∀d W:Nat->PI,gD V d W (c+1)=gD V d W c:=λd W=>funext λf=>by
      unfold gD;by_cases J:f=c
      ·subst J;rw[bh (λh=>h.2 j),bh (λh=>h.2 j)]
      ·by_cases m:f<c/\V f≠[]
       ·rw[bg m,bg ⟨by omega,m.2⟩]
       ·rw[bh m,bh (λh=>m ⟨by omega,h.2⟩)]
     rw[x,x];exact e,u⟩
    clear e u B O C v Q R S T E G k z j i;have I:=λW a d f=>run_neq_slice_nil (P:=prog) W 30 5 a d f underlying30
    go_wp2_with (simp only[I])
    go_roundw
    case rel=>exact⟨c+1,by omega,by go_num,y⟩
    case measure=>simp[intOf];omega
   ·obtain⟨p,rfl⟩:∃p,a=some p:=by
     cases a with
     | none=>exact absurd rfl (G j)
     | some p=>exact⟨p,rfl⟩
    have I:=λW a d f=>run_neq_slice_nil (P:=prog) W 30 5 a d f underlying30;obtain⟨U,X,Y,cw,-,-,-,-,-,-,fw⟩:=e.way.at A;obtain⟨am,qm,dm,cm,-,-,-,-,-,-,aa⟩:=e.mor.at A;have p9:=e.blk.cell 9;have ak:=e.blk.cell 10;have p7:=e.blk.cell 7;unfold svC at p9 ak p7;have d:=ae e;have HK:=ae u;have HV:=ae j;have HR:=ae v
    have al:PH ((rB (V c)).ok (wr.alloc (cells (bK (replicate D 0)) 5)) F [slice (some p) (V c).length f]):=ae (by
     have y:=v;rw[k] at y;unfold rN at y;rw[bh j] at y;exact(rB _).new y ((az wr.heap.size wr).alloc (aj _) _))
    obtain⟨n1,n2,n3⟩:=e.ne;have ar:¬gw=gm:=n3;have au:¬gm=gw:=λk=>n3 k.symm;clear e u j B O C v Q R S T E G k z;generalize (V c).length=an at*;have i:∀J,Below wr.heap.size wr ((wr.alloc (cells (bK (replicate D 0)) 5)).drewN J):=λJ=>below_drewN ((az wr.heap.size wr).alloc (aj _) _) J;have av:(wr.alloc (cells (bK (replicate D 0)) 5)).drew.frozen? ⟨gw,c,none⟩=false:=(World.frozen?_of_block (w:=wr) (a:=⟨gw,c,none⟩) ((i 1).block gw d.o.way.lt)).trans fw;have ax:(wr.alloc (cells (bK (replicate D 0)) 5)).drew.frozen? ⟨gm,c,none⟩=false:=(World.frozen?_of_block (w:=wr) (a:=⟨gm,c,none⟩) ((i 1).block gm d.o.mor.lt)).trans aa;have ay:(wr.alloc (cells (bK (replicate D 0)) 5)).drew.cell? ⟨gw,c,none⟩=some (slice U X Y):=((i 1).cell (p:=⟨gw,c,none⟩) d.o.way.lt).trans cw;have aA:(wr.alloc (cells (bK (replicate D 0)) 5)).drew.cell? ⟨gm,c,none⟩=some (slice am qm dm):=((i 1).cell (p:=⟨gm,c,none⟩) d.o.mor.lt).trans cm;have aB:(wr.alloc (cells (bK (replicate D 0)) 5)).frozen? ⟨gw,c,none⟩=false:=(World.frozen?_of_block (w:=wr) (a:=⟨gw,c,none⟩) ((i 0).block gw d.o.way.lt)).trans fw;have aE:(wr.alloc (cells (bK (replicate D 0)) 5)).frozen? ⟨gm,c,none⟩=false:=(World.frozen?_of_block (w:=wr) (a:=⟨gm,c,none⟩) ((i 0).block gm d.o.mor.lt)).trans aa;have aF:(wr.alloc (cells (bK (replicate D 0)) 5)).cell? ⟨gw,c,none⟩=some (slice U X Y):=((i 0).cell (p:=⟨gw,c,none⟩) d.o.way.lt).trans cw;have aK:(wr.alloc (cells (bK (replicate D 0)) 5)).cell? ⟨gm,c,none⟩=some (slice am qm dm):=((i 0).cell (p:=⟨gm,c,none⟩) d.o.mor.lt).trans cm;have J:=((d.o.blk.below (i 1) d.o.blk.lt).cell 9);have ab:=((d.o.blk.below (i 1) d.o.blk.lt).cell 10);have ac:=((d.o.blk.below (i 0) d.o.blk.lt).cell 9);have ad:=((d.o.blk.below (i 0) d.o.blk.lt).cell 10);unfold svC at J ab ac ad;change (wr.alloc (cells (bK (replicate D 0)) 5)).drew.cell? _=_ at J ab;change (wr.alloc (cells (bK (replicate D 0)) 5)).cell? _=_ at ac ad;have ao:=ae i;clear i;go_upto_region 4 with(simp only[I]);go_region_law (simp only[ag])
    all_goals(
     go_wp2_with fail;refine⟨⟨c+1,by omega,by go_num,ae ?_⟩,by simp[intOf];omega⟩
     have i:(rB (replicate D 0)).ok (wr.alloc (cells (bK (replicate D 0)) 5)) F [slice (some ⟨wr.heap.size,0,none⟩) D D]:=by
      have h:=mq (F:=F) (Blk.new wr 5 (bK (replicate D 0))) (HF.o _ HK.o.1.size) (by rw[aI];unfold maxLen;omega)
      rwa [aI] at h
     have hv:(rB (V c)).ok (wr.alloc (cells (bK (replicate D 0)) 5)) F [slice (some p) an f]:=al.o;obtain⟨h1,m⟩:=SvSt.put2 (wa:=wr.alloc (cells (bK (replicate D 0)) 5)) d.o (ao.o 0) rfl i hv;rw[vQ HV.o,vQ HV.o];exact⟨h1.new (below_drewN (az _ _) 1),HK.o.trans (m.trans (Kept2.below (below_drewN (az _ _) 1)))⟩)
  ·obtain rfl:c=n:=by omega
   go_wp2_with fail
   go_end0
   exact⟨rfl,e,u⟩
theorem DF{c:Nat}{a b:PI}(d:a.length=b.length):lU c a b=xr b (kE c a):=by
 have e:b.length=(kE c a).length:=by rw[qE,d]
 refine iM (by rw[gS d,jB e]) λf=> ?_;rw[mN d,lS e,jl]
def gF(f:Nat->PI)(De:PI):Nat->Nat->PI
 | 0=>λ_=>[]
 | k+1=>jd (gF f De k) (De.getD k 0) (f k)
theorem DG{l:PI}(b:l.Nodup){i j:Nat}(c:i<j)(a:j<l.length):l.getD i 0≠l.getD j 0:=by
 rw[af,af,ah (by omega),ah a];exact(pairwise_iff_getElem.1 b) i j (by omega) a c
theorem EK{f:Nat->PI}{De:PI}(a:De.Nodup):∀k,k<=De.length->∀i,i<k->gF f De k (De.getD i 0)=f i:=by
 intro k
 induction k with
 | zero=>intro _ i b;omega
 | succ k c=>
   intro e i b;show jd (gF f De k) (De.getD k 0) (f k) (De.getD i 0)=f i;by_cases d:i=k
   ·subst d;exact lh _ _ _
   ·rw[jX _ _ (DG a (by omega) (by omega))]
    exact c (by omega) i (by omega)
theorem A8{D:Nat}{l:List PI}{St:List (Nat×Nat)}{De:PI}
 (P:∀(k r c:Nat),St[k]? =some (r,c)->r<l.length/\c∈l.getD r []/\∀d∈l.getD r [],d≠c->d∈De\/∃b g,b<k/\St[b]? =some (g,d)){W0 z:Nat->PI}(o:∀r,r<l.length->Byt D (z r))(p:∀c∈De,Byt D (W0 c)):
 ∀k,k<=St.length->∀c,c∈De\/c∈(St.take k).map Prod.snd->Byt D (dh l z W0 (St.take k) c):=by
 intro k
 induction k with
 | zero=>
   intro _ c a;rcases a with a | a
   ·exact p c a
   ·simp at a
 | succ k e=>
   intro B c a;have j:k<St.length:=(by omega);obtain⟨r,d,m⟩:∃r d,St[k]=(r,d):=⟨_,_,rfl⟩;have q:St[k]? =some (r,d):=(by rw[ah j,m]);have n:St.take (k+1)=St.take k++[(r,d)]:=(by rw[aN j,m]);obtain⟨s,C,t⟩:=P k r d q;have e:=e (by omega);rw[n,kG];by_cases h:c=d
   ·subst h
    rw[lh];refine dF (o r s) λf u=>e f ?_;obtain⟨v,w⟩:=mem_filter.1 u;have u:f≠c:=(by simpa using w);rcases t f v u with x | ⟨b,g,y,A⟩
    ·exact .inl x
    ·right
     refine aY.2 ⟨(g,f),?_,rfl⟩;refine mem_of_getElem? (i:=b) ?_;rw[List.getElem?_take,bg y];exact A
   ·rw[jX _ _ h]
    refine e c ?_;rcases a with a | a
    ·exact .inl a
    ·right
     rw[n,aU] at a;rcases bz.1 a with a | a
     ·exact a
     ·exact absurd (by simpa using a) h
theorem A9{cols:PI}{j x:Nat}(b:j<cols.length):(cols.take (j+1)).filter (λa=> !(a == x))=(cols.take j).filter (λa=> !(a == x))++if cols.getD j 0=x then [] else [cols.getD j 0]:=by
 have c:cols.getD j 0=cols[j]:=by rw[af,ah b];rfl
 rw[aN b,filter_append,c];congr 1;by_cases a:cols[j]=x
 ·rw[bg a];simp[a]
 ·rw[bh a];simp[a]
theorem xI(m:Nat->PI)(L:PI)(c:Nat)(z:PI):bR m (L++[c]) z=xr (bR m L z) (m c):=by unfold bR;rw[foldl_append];rfl
theorem SvSt.putG{w w':World}{g e K H Z n f gw gm k:Nat}{rest j l m u1 u2:Value}{F:Nat->Prop}{V W M:Nat->PI}{o p:PI}(a:SvSt w g e K H Z n f gw gm rest j l m F V W M)(v:Below 0 w w')
 (d:∀b,b<w.heap.size->b≠gw->b≠gm->w'.heap[b]? =w.heap[b]?)(x:∀hs:Array Value,Blk w gw 30 hs->Blk w' gw 30 (hs.setIfInBounds k u1))(y:∀hs:Array Value,Blk w gm 30 hs->Blk w' gm 30 (hs.setIfInBounds k u2))
 (z:(rB o).ok w' F [u1])(A:(rB p).ok w' F [u2]):SvSt w' g e K H Z n f gw gm rest j l m F V (jd W k o) (jd M k p)/\Kept2 w w' gw gm:=by
 obtain⟨B,C,J⟩:=a.ne;have q:∀b,F b->b≠gw/\b≠gm:=λb c=>⟨(a.off b c).2.2.1,(a.off b c).2.2.2⟩;obtain⟨L,r,-⟩:=a.way.ex;obtain⟨N,s,-⟩:=a.mor.ex;have h:∀b,F b->b<w.heap.size->w'.heap[b]? =w.heap[b]? :=λb c i=>d b i (q b c).1 (q b c).2;refine⟨⟨?_,?_,?_,?_,?_,a.ne,a.off⟩,v,d⟩
 ·exact(d g a.blk.lt (Blk.ne a.blk r (by decide)) (Blk.ne a.blk s (by decide))).trans a.blk
 ·exact(d e (Blk.lt (t:=337) a.fld) (Blk.ne (t:=337) a.fld r (by decide)) (Blk.ne (t:=337) a.fld s (by decide))).trans a.fld
 ·obtain⟨hs,u,D,E⟩:=a.vls
  exact⟨hs,(d f u.lt B C).trans u,D,λG I=>(rN _).keep (E G I) λb c i=>⟨h b c i,c⟩⟩
 ·exact a.way.put z h λhs c=>x hs c
 ·exact a.mor.put A h λhs c=>y hs c
theorem Jm{w:World}{C:Nat}{v:Value}{ys:List (Nat×Nat)}(h:OwnT w C v ys):(rS 2 (ys.map gY)).ok w (Fr C) [v]:=by
 obtain⟨i,j,rfl,k,l,m,u,n⟩:=dB h;refine⟨i,ys.length,j,rfl,l,m,k,by rw[aC],iE ys,iL ys,λo=> ?_,λc x d=> ?_⟩
 ·obtain⟨b,e,a,⟨f,_⟩,_,g⟩:=n o
  exact⟨b,e,a,f,g⟩
 ·rw[List.getElem?_map] at d
  obtain⟨b,e,rfl⟩:=Option.map_eq_some_iff.1 d;have p:=(List.getElem?_eq_some_iff.1 e).1;have ex:ys.getD c (0,0)=b:=(by rw[af,e];rfl);obtain⟨f,g⟩:=nP p;rw[ex] at f g;have y:=iL ys;obtain⟨q,r⟩:=List.getElem?_eq_some_iff.1 f;obtain⟨s,a⟩:=List.getElem?_eq_some_iff.1 g
  have t:((iE ys).drop (c*2)).take 2=[int i64 (b.1:Nat)]++[int i64 (b.2:Nat)]:=by
   rw[drop_eq_getElem_cons q,drop_eq_getElem_cons s,r,a];rfl
  rw[t];exact rY (rZ rfl) (rZ rfl)
theorem Jn{L:List (Nat×Nat)}{w:World}{F:Nat->Prop}{a:PK}{n c i:Nat}(e:(rS 2 (L.map gY)).ok w F [slice a n c])(u:L.length=n)(f:i<n):
 ∃b o,a=some ⟨b,o,none⟩/\F b/\b<w.heap.size/\w.cell? ⟨b,o+i*2,none⟩=some (int i64 ((L.getD i (0,0)).1:Nat))/\w.cell? ⟨b,o+i*2+1,none⟩=some (int i64 ((L.getD i (0,0)).2:Nat)):=by
 have g:i<L.length:=by omega
 have h:(L.map gY)[i]? =some (gY (L.getD i (0,0))):=by rw[List.getElem?_map,af,ah g];rfl
 obtain⟨b,o,v,rfl,j,k,l,x,d⟩:=uQ e (by decide) f h;obtain⟨m,p,rfl,q,r⟩:=l;have s:m=[int i64 ((L.getD i (0,0)).1:Nat)]:=q.1;have t:p=[int i64 ((L.getD i (0,0)).2:Nat)]:=r.1;subst s t;exact⟨b,o,rfl,j,k,d 0 _ rfl,d 1 _ rfl⟩
theorem qd(w:World)(X Y:Array Value)(tX tY:TypeId):Blk ((w.alloc (.cells X tX)).alloc (.cells Y tY)) w.heap.size tX X/\Blk ((w.alloc (.cells X tX)).alloc (.cells Y tY)) (w.heap.size+1) tY Y/\Below w.heap.size w ((w.alloc (.cells X tX)).alloc (.cells Y tY)):=by
 have a:(w.alloc (.cells X tX)).heap.size=w.heap.size+1:=by simp
 have e:=(az w.heap.size w).alloc (aj _) (.cells X tX);have b:=(az (w.alloc (.cells X tX)).heap.size (w.alloc (.cells X tX))).alloc (aj _) (.cells Y tY);have c:=Blk.new w tX X;have d:=Blk.new (w.alloc (.cells X tX)) tY Y;have f:=c.below b c.lt;rw[a] at d;exact⟨f,d,e.trans (b.mono (by rw[a];omega))⟩
theorem SvSt.begin{w w':World}{g e K H Z n a gw gm:Nat}{rest f h i r s:Value}{F:Nat->Prop}{V:Nat->PI}
 (j:Blk w g 292 (svC e K H Z (slice (some ⟨a,0,none⟩) n n) rest f h i r s))(k:Fld w e)
 (u:∃hs:List Value,Blk w a 30 hs.toArray/\hs.length=n/\∀c,c<n->(rN (V c)).ok w F [hs.getD c undef])(q:∀b,F b->b≠g/\b≠a){l:Nat}
 (v:Blk w' g 292 (svC e K H Z (slice (some ⟨a,0,none⟩) n n) rest f h i (slice (some ⟨gw,0,none⟩) n n) (slice (some ⟨gm,0,none⟩) n n)))
 (x:Blk w' gw 30 (replicate n (Value.slice none 0 0)).toArray)(y:Blk w' gm 30 (replicate n (Value.slice none 0 0)).toArray)(m:∀b,b<w.heap.size->b≠g->w'.heap[b]? =w.heap[b]?)
 (G:w.heap.size<=gw/\gw<l)(I:w.heap.size<=gm/\gm<l)(z:gw≠gm):
 SvSt w' g e K H Z n a gw gm rest f h i (λb=>(F b/\b<w.heap.size)\/l<=b) V (λ_=>[]) (λ_=>[]):=by
 obtain⟨hs,o,A,B⟩:=u;have J:g<w.heap.size:=j.lt;have C:a<w.heap.size:=o.lt;have D:e≠g:=Blk.ne (t:=337) k j (by decide);have E:a≠g:=Blk.ne o j (by decide);refine⟨v,(m e (Blk.lt (t:=337) k) D).trans k,⟨hs,(m a C E).trans o,A,λc d=>(rN _).keep (B c d) λb d p=>⟨m b p (q b d).1,.inl ⟨d,p⟩⟩⟩,Hs.begin x,Hs.begin y,⟨by omega,by omega,z⟩,λb d=> ?_⟩;rcases d with⟨d,p⟩ | d
 ·have:=q b d
  exact⟨this.1,this.2,by omega,by omega⟩
 ·exact⟨by omega,by omega,by omega,by omega⟩
theorem SvSt.begin2{w:World}{g e K H Z n a gw gm:Nat}{rest h i j u v:Value}{F:Nat->Prop}{V:Nat->PI}{d:Array Value}(q:(replicate n (Value.slice none 0 0)).toArray=d)
 (k:Blk w g 292 (svC e K H Z (slice (some ⟨a,0,none⟩) n n) rest h i j u v))(x:Fld w e)
 (y:∃hs:List Value,Blk w a 30 hs.toArray/\hs.length=n/\∀c,c<n->(rN (V c)).ok w F [hs.getD c undef])(z:∀b,F b->b≠g/\b≠a)
 (r:gw=w.heap.size/\gm=w.heap.size+1\/gw=w.heap.size+1/\gm=w.heap.size){w':World}(l:w'=(((w.setCell ⟨g,9,none⟩ (slice (some ⟨gw,0,none⟩) n n)).setCell ⟨g,10,none⟩ (slice (some ⟨gm,0,none⟩) n n)).alloc (.cells d 30)).alloc (.cells d 30)):
 (w.heap.size<=gw/\w.heap.size<=gm)/\SvSt w' g e K H Z n a gw gm rest h i j (λb=>(F b/\b<w.heap.size)\/w.heap.size+2<=b) V (λ_=>[]) (λ_=>[])/\w'.heap.size=w.heap.size+2/\(∀b,b<w.heap.size->b≠g->w'.heap[b]? =w.heap[b]?)/\Below 0 w w':=by
 have A:Below 0 w w':=by rw[l];exact((((az 0 w).setCell (bu _) _).setCell (bu _) _).alloc (bu _) _).alloc (bu _) _
 have s:((w.setCell ⟨g,9,none⟩ (slice (some ⟨gw,0,none⟩) n n)).setCell ⟨g,10,none⟩ (slice (some ⟨gm,0,none⟩) n n)).heap.size=w.heap.size:=by simp
 have B:Blk ((w.setCell ⟨g,9,none⟩ (slice (some ⟨gw,0,none⟩) n n)).setCell ⟨g,10,none⟩ (slice (some ⟨gm,0,none⟩) n n)) g 292 (svC e K H Z (slice (some ⟨a,0,none⟩) n n) rest h i j (slice (some ⟨gw,0,none⟩) n n) (slice (some ⟨gm,0,none⟩) n n)):=(k.set 9 _).set 10 _;have C:∀b,b≠g->((w.setCell ⟨g,9,none⟩ (slice (some ⟨gw,0,none⟩) n n)).setCell ⟨g,10,none⟩ (slice (some ⟨gm,0,none⟩) n n)).heap[b]? =w.heap[b]? :=λb f=>(bE _ _ _ _ f).trans (bE _ _ _ _ f);generalize (w.setCell ⟨g,9,none⟩ (slice (some ⟨gw,0,none⟩) n n)).setCell ⟨g,10,none⟩ (slice (some ⟨gm,0,none⟩) n n)=D at*;obtain⟨m,o,p⟩:=qd D d d 30 30;have E:w'.heap.size=w.heap.size+2:=by rw[l];simp[s]
 rw[<-l,s] at m o p;have t:∀b,b<w.heap.size->b≠g->w'.heap[b]? =w.heap[b]? :=λb f G=>(p.block b f).trans (C b G);refine⟨by omega,SvSt.begin k x y z (B.below p k.lt) ?_ ?_ t (by omega) (by omega) (by omega),E,t,A⟩
 ·rw[q]
  rcases r with⟨rfl,rfl⟩ | ⟨rfl,rfl⟩
  ·exact m
  ·exact o
 ·rw[q]
  rcases r with⟨rfl,rfl⟩ | ⟨rfl,rfl⟩
  ·exact o
  ·exact m
theorem uC{a w':World}{gw gm c:Nat}{u1 u2:Value}{X Y:Array Value}{tX tY:TypeId}(l:gw<a.heap.size)(m:gm<a.heap.size)(h:gw≠gm)(i:w'=(((a.setCell ⟨gw,c,none⟩ u1).setCell ⟨gm,c,none⟩ u2).alloc (.cells X tX)).alloc (.cells Y tY)):
 Blk w' a.heap.size tX X/\Blk w' (a.heap.size+1) tY Y/\Below 0 a w'/\(∀b,b<a.heap.size->b≠gw->b≠gm->w'.heap[b]? =a.heap[b]?)/\
 (∀hs:Array Value,Blk a gw 30 hs->Blk w' gw 30 (hs.setIfInBounds c u1))/\(∀hs:Array Value,Blk a gm 30 hs->Blk w' gm 30 (hs.setIfInBounds c u2)):=by
 have n:((a.setCell ⟨gw,c,none⟩ u1).setCell ⟨gm,c,none⟩ u2).heap.size=a.heap.size:=by simp
 have o:Below 0 a w':=by rw[i];exact((((az 0 a).setCell (bu _) _).setCell (bu _) _).alloc (bu _) _).alloc (bu _) _
 have q:∀b,b≠gw->b≠gm->((a.setCell ⟨gw,c,none⟩ u1).setCell ⟨gm,c,none⟩ u2).heap[b]? =a.heap[b]? :=λb f g=>(bE _ _ _ _ g).trans (bE _ _ _ _ f);have f:∀hs:Array Value,Blk a gw 30 hs->Blk ((a.setCell ⟨gw,c,none⟩ u1).setCell ⟨gm,c,none⟩ u2) gw 30 (hs.setIfInBounds c u1):=λhs d=>Blk.far (p:=⟨gm,c,none⟩) (Blk.set d c u1) h _;have g:∀hs:Array Value,Blk a gm 30 hs->Blk ((a.setCell ⟨gw,c,none⟩ u1).setCell ⟨gm,c,none⟩ u2) gm 30 (hs.setIfInBounds c u2):=λhs d=>Blk.set (Blk.far (p:=⟨gw,c,none⟩) d (λe=>h e.symm) _) c u2;generalize (a.setCell ⟨gw,c,none⟩ u1).setCell ⟨gm,c,none⟩ u2=r at*;obtain⟨j,k,e⟩:=qd r X Y tX tY;rw[<-i,n] at j k e;exact⟨j,k,o,λb s t u=>(e.block b s).trans (q b t u),λhs d=>(f hs d).below e l,λhs d=>(g hs d).below e m⟩
def y9(K H Z:Nat)(s:Int)(L:List (Nat×PI)):List (PI×PI):=L.map λa=>(gQ K H Z s (a.1:Nat),a.2)
theorem xJ{n Z:Nat}{m:Nat->PI}{kn:List Bool}{vl:List PI}(e:ConsP n m kn vl)(g:∀c,c<n->(m c).length=Z)(i:1<=Z)(X W:Nat->PI){c:Nat}(a:c<n):
 gD (λc=>vl.getD c []) X W n c=zh (λc=>kn.getD c false) W X c:=by
 unfold gD zh;cases hk:kn.getD c false with
 | true=>
   have b:=(e c a).1 hk;have d:=g c a
   rw[bg ⟨a,λh=>by
    have f:vl.getD c []=[]:=h;rw[b] at f;rw[f] at d;simp at d;omega⟩,bg (show(λc=>kn.getD c false) c=true from hk)]
 | false=>
   have b:=(e c a).2 hk;rw[bh (λd=>d.2 b),bh (λd:(λc=>kn.getD c false) c=true=>absurd (hk.symm.trans d) (by decide))]
theorem KP{n Z:Nat}{m:Nat->PI}{kn:List Bool}{L:List (PI×PI)}(f:vI n Z m L)(g:∀x∈L,x.1.Nodup){r:Nat}(b:r<(fL kn m Z L).length):
 ∃x∈L,(fL kn m Z L).getD r ([],[])=vU kn m Z x:=by
 have a:(fL kn m Z L).getD r ([],[])∈fL kn m Z L:=by rw[af,ah b];exact aQ _
 unfold fL at a;obtain⟨c,_⟩:=mem_filter.1 a;obtain⟨x,d,e⟩:=aY.1 c;exact⟨x,d,e.symm⟩
theorem eG(l:List (PI×PI))(r:Nat):(l.map Prod.fst).getD r []=(l.getD r ([],[])).1:=by
 rw[af,af,List.getElem?_map];cases l[r]? <;> rfl
theorem Hp{K H:Nat}{row:PI}(d:row∈cG K H H):∃i,i<H/\row=kC (K+H) (K+i) i K:=by
 obtain⟨i,b,rfl⟩:=bC d;have a:=b;rw[dP] at a;have c:=tK K H H a;rw[af,ah b] at c;exact⟨i,a,c⟩
theorem Ba(a b:Nat):decide (a<b)= !decide (b<=a):=by
 rcases bq a b with c | c
 ·rw[bf c,decide_eq_false (by omega)];rfl
 ·rw[decide_eq_false (by omega),bf c];rfl
def sM(K H D:Nat)(R:List PI)(W:Nat->PI)(Le:PI):List PI:=Le.map (λa=>bR W (R.getD a []) (replicate D 0))++(cG K H H).map λa=>dH W a (replicate D 0) (K+H)
def wJ(K H Z:Nat)(R:List PI)(z M:Nat->PI)(Le:PI):List PI:=Le.map (λa=>bR M (R.getD a []) (z a))++(cG K H H).map λa=>dH M a (replicate Z 0) (K+H)
theorem Ns{K H Z:Nat}{s:Int}{g:List PI}{L:List (Nat×PI)}{kn:List Bool}{vl:List PI}{R:List (Nat×Nat)}{De S:PI}{rest:List (PI×PI)}
 (v:fB K H Z=true)(hm:MidOK K H Z s g)(hL:∀x∈L,x.1<=65535/\x.2=gN K H Z s g x.1)
 (j:ConsP (K+H) (λc=>g.getD c []) kn vl)(h:rest=fL kn (λc=>g.getD c []) Z (y9 K H Z s L))
 (hP:oI (K+H) (rest.map Prod.fst++cW (K+H) λc=>kn.getD c false) R De S)(hf:dK K H Z s (L.map Prod.fst)=true)
 (D:Nat)(T:De.length=D)(W M V z:Nat->PI)(St:List (Nat×Nat))(Le:PI)(ap:St=R.filter λs=> !decide (rest.length<=s.1))(aq:Le=S.filter λi=> !decide (rest.length<=i))
 (U:V=λc=>vl.getD c [])(hz:z=λr=>(rest.getD r ([],[])).2)
 (hW:W=gD V (λ_=>replicate D 0) (dh (rest.map Prod.fst) (λ_=>replicate D 0) (gF (dO D) De D) St) (K+H))
 (hM:M=gD V V (dh (rest.map Prod.fst) z (gF (λ_=>replicate Z 0) De D) St) (K+H)):
 (∀(k r c:Nat),St[k]? =some (r,c)->r<(rest.map Prod.fst).length/\c∈(rest.map Prod.fst).getD r []/\∀d∈(rest.map Prod.fst).getD r [],d≠c->d∈De\/∃a e,a<k/\St[a]? =some (e,d))/\
 (∀c∈De,c<K+H)/\De.Nodup/\(∀i∈Le,i<rest.length)/\(∀r,∀c∈(rest.map Prod.fst).getD r [],c<K+H)/\(∀r,r<rest.length->Byt Z (z r))/\
 (∀c,c<K+H->Byt D (W c)/\Byt Z (M c))/\
 (0<D->jH D (sM K H D (rest.map Prod.fst) W Le) (wJ K H Z (rest.map Prod.fst) z M Le)=0/\jI D (sM K H D (rest.map Prod.fst) W Le) (wJ K H Z (rest.map Prod.fst) z M Le)=De.map λc=>g.getD c [])/\
 (D=0->∀b∈wJ K H Z (rest.map Prod.fst) z M Le,b=replicate Z 0)/\
 ∀c,c<K+H->V c=[]->dH (λi=>(De.map λc=>g.getD c []).getD i []) (W c) (M c) D=g.getD c []:=by
 have aD:=ba v;have hZ:1<=Z:=by omega
 have t:∀c,c<K+H->Byt Z (g.getD c []):=λc a=>hm.row a
 have X:vI (K+H) Z (λc=>g.getD c []) (y9 K H Z s L):=by
  intro x n;obtain⟨A,hy,rfl⟩:=aY.1 n;obtain⟨N,Y⟩:=kw (s:=s) (id:=(A.1:Nat)) v;refine⟨?_,N,(hL A hy).2⟩;have:=jb (mg Y) N;show(gQ K H Z s (A.1:Nat)).length<=64;omega
 have ad:∀x∈y9 K H Z s L,x.1.Nodup:=by
  intro x n;obtain⟨A,hy,rfl⟩:=aY.1 n;exact mg (kw (s:=s) (id:=(A.1:Nat)) v).2
 have B:∀r,r<rest.length->∃x∈y9 K H Z s L,rest.getD r ([],[])=vU kn (λc=>g.getD c []) Z x:=by
  subst h;exact λr a=>KP X ad a
 have ag:∀r,((rest.map Prod.fst).getD r []).Nodup:=λr=>by
  rw[eG];rcases bq r rest.length with a | a
  ·obtain⟨x,n,p⟩:=B r a
   rw[p];exact(ad x n).filter _
  ·rw[af,List.getElem?_eq_none a];exact nodup_nil
 have w:∀r,∀c∈(rest.map Prod.fst).getD r [],c<K+H/\kn.getD c false=false:=λr c a=>by
  rw[eG] at a;rcases bq r rest.length with C | C
  ·obtain⟨x,n,p⟩:=B r C
   rw[p] at a;obtain⟨o,e⟩:=mem_filter.1 a;exact⟨(X x n).2.1 c o,by simpa using e⟩
  ·rw[af,List.getElem?_eq_none C] at a;simp at a
 have y:∀r,r<rest.length->Byt Z (z r)/\∀e,sX (λc e=>(g.getD c []).getD e 0) e ((rest.map Prod.fst).getD r [])=(z r).getD e 0:=λr a=>by
  obtain⟨x,n,p⟩:=B r a;have O:∀c∈dL kn x.1,c<K+H:=λc j=>(X x n).2.1 c (mem_filter.1 j).1;have ar:z r=(rest.getD r ([],[])).2:=(by rw[hz]);rw[eG,ar,p];refine⟨dF (Byt.zero Z) λc j=>t c (O c j),λe=> ?_⟩;show sX (λc e=>(g.getD c []).getD e 0) e (dL kn x.1)=(bR (λc=>g.getD c []) (dL kn x.1) (replicate Z 0)).getD e 0;rw[iQ e aI λc j=>(t c (O c j)).1,qK,Nat.zero_xor]
 have P:(rest.map Prod.fst).length=rest.length:=aC _;have q:=EQ hP w;rw[P] at q;have e1:(R.filter λs=>decide (s.1<rest.length))=St:=by rw[ap];exact filter_congr λs _=>Ba _ _
 have e2:(S.filter λi=>decide (i<rest.length))=Le:=by rw[aq];exact filter_congr λi _=>Ba _ _
 rw[e1,e2] at q;have aa:De.Nodup:=(nodup_append.1 q.cols).2.1
 have hg:∀i,i<D->gF (dO D) De D (De.getD i 0)=dO D i/\gF (λ_=>replicate Z 0) De D (De.getD i 0)=replicate Z 0:=λi l=>
  ⟨EK aa D (by omega) i l,EK (f:=λ_=>replicate Z 0) aa D (by omega) i l⟩
 have au:∀c,c<K+H->kn.getD c false=true->V c=g.getD c []:=λc C o=>by rw[U];exact(j c C).1 o
 have ai:∀c,c<K+H->W c=zh (λc=>kn.getD c false) (dh (rest.map Prod.fst) (λ_=>replicate D 0) (gF (dO D) De D) St) (λ_=>replicate D 0) c:=λc a=>by
  rw[hW,U];exact xJ j (λc a=>(t c a).1) hZ _ _ a
 have av:∀c,c<K+H->M c=zh (λc=>kn.getD c false) (dh (rest.map Prod.fst) z (gF (λ_=>replicate Z 0) De D) St) V c:=λc a=>by
  rw[hM,U];exact xJ j (λc a=>(t c a).1) hZ _ _ a
 obtain⟨u,G⟩:∃u,u=De.map λc=>g.getD c []:=⟨_,rfl⟩;have I:=H5 (Z:=Z) q T ag (m:=λc=>g.getD c []) t (z:=z) (vl:=V) (λr a=>y r (by rwa [P] at a)) au hg G
 have o:∀c,c<K+H->Byt D (W c)/\Byt Z (M c)/\∀e,(g.getD c []).getD e 0=comes D (λi e=>(u.getD i []).getD e 0) (W c) e ^^^ (M c).getD e 0:=λc a=>by
  rw[ai c a,av c a];exact I c a
 clear I;have I:∀i∈Le,i<rest.length:=λi l=>by have:=((q.left i).1 l).1;rwa [P] at this
 have ab:=qN K H H
 have ak:∀Q∈cG K H H,∀e,dN (vO Q) (λc=>(g.getD c []).getD e 0) (K+H)=0:=λQ a e=>by
  obtain⟨i,l,rfl⟩:=Hp a;exact hm.pre i l e
 have ac:Wf Z u:=by
  intro r h;rw[G] at h;obtain⟨c,j,rfl⟩:=aY.1 h;exact t c (q.bd c (.inr j))
 have J:u.length=D:=by rw[G,aC];exact T
 refine⟨λk r c a=>q.step k r c a,λc a=>q.bd c (.inr a),aa,I,λr c a=>(w r c a).1,λr a=>(y r a).1,λc a=>⟨(o c a).1,(o c a).2.1⟩,?_,?_,?_⟩
 ·intro al
  have am:u≠[]:=λp=>by rw[p] at J;simp at J;omega
  have aw:je (sM K H D (rest.map Prod.fst) W Le) u=wJ K H Z (rest.map Prod.fst) z M Le:=
   C7 (λc e=>(g.getD c []).getD e 0) ac J am (λc a=>(o c a).1) (λc a=>(o c a).2.1) (λc a=>(o c a).2.2) (λr h c a=>(w r c a).1) (λr h=>(y r (I r h)).1) (λr h=>(y r (I r h)).2) ab ak
  have an:∀i∈L.map Prod.fst,i<=65535:=λi l=>by obtain⟨x,n,rfl⟩:=aY.1 l;exact(hL x n).1
  have ax:(dS (sM K H D (rest.map Prod.fst) W Le)).length=D:=by
   refine Ci (W0:=gF (dO D) De D) q T ag w (λi l=>(hg i l).1) (λc a=>ai c a) (λc a=>(o c a).1) ab (E:=(L.map Prod.fst).map λi=>gQ K H Z s (i:Nat)) (F:=eP K H Z s (L.map Prod.fst)) ?_ (mY v an) ?_ (ba hf)
   ·intro aE ay
    obtain⟨i,l,rfl⟩:=aY.1 ay;obtain⟨x,n,rfl⟩:=aY.1 l;obtain⟨N,Y⟩:=kw (s:=s) (id:=(x.1:Nat)) v;refine⟨mg Y,N,?_⟩;by_cases h0:dL kn (gQ K H Z s (x.1:Nat))=[]
    ·exact .inl h0
    ·right
     have aA:vU kn (λc=>g.getD c []) Z (gQ K H Z s (x.1:Nat),x.2)∈rest:=by
      rw[h];unfold fL;refine mem_filter.2 ⟨aY.2 ⟨_,aY.2 ⟨x,n,rfl⟩,rfl⟩,?_⟩;have:(dL kn (gQ K H Z s (x.1:Nat))).length≠0:=λp=>h0 (eq_nil_of_length_eq_zero p);show((dL kn (gQ K H Z s (x.1:Nat))).length != 0)=true;simpa using this
     obtain⟨r,ao,aB⟩:=bC aA;refine⟨r,by rw[P];exact ao,?_⟩;rw[eG,af,ah ao,Option.getD_some,aB];rfl
   ·intro Q B
    rcases bz.1 B with a | a
    ·exact .inl a
    ·right
     obtain⟨i,l,rfl⟩:=aY.1 a;have ao:=an i l;exact⟨_,aY.2 ⟨i,l,rfl⟩,(tq (s:=s) (id:=(i:Nat)) v (by omega) (by omega)).2.2.1⟩
  have hA:Wf D (sM K H D (rest.map Prod.fst) W Le):=by
   intro r h;rcases bz.1 h with a | a
   ·obtain⟨i,_,rfl⟩:=aY.1 a
    exact dF (Byt.zero D) λc j=>(o c (w i c j).1).1
   ·obtain⟨Q,_,rfl⟩:=aY.1 a
    exact fA (Byt.zero D) (K+H) λc j=>(o c j).1.1
  have Q:sM K H D (rest.map Prod.fst) W Le≠[]:=λp=>by
   have:=congrArg List.length p;unfold sM at this;rw[aH,aC,aC,dP] at this;simp at this;omega
  rw[<-aw,<-G];exact Fg hA ac J am Q ax
 ·intro al b O
  refine DT (M:=M) (z:=z) (m:=λc e=>(g.getD c []).getD e 0) (λc a=>(o c a).2.1) (λc a e=> ?_) (λr h c a=>(w r c a).1) (λr h=>(y r (I r h)).1) (λr h=>(y r (I r h)).2) ab ak b O;have:=(o c a).2.2 e;rw[this,al];show 0 ^^^ _=_;rw[Nat.zero_xor]
 ·intro c a Q
  rw[<-G];exact K5 ac J (o c a).2.1.1 (t c a).1 (o c a).2.2
theorem tv{w:PI}(a:By w):kE 1 w=w:=by
 refine iM (qE 1 w) λb=> ?_;rw[jl,iP _ (getD_lt a b)]
theorem uW(g w K H Z n C gw gm t c D h i:Nat)(j k:PK)(x y z A:Value)(F:Nat->Prop)(V W M:Nat->PI)(l m:PI)(d e:World)
 (a:SvSt d g w K H Z n C gw gm x y z A F V W M)(f:Below d.heap.size d e)(E:t<256)(o:c<n)(q:Byt D (W c))(r:Byt Z (M c))
 (G:OwnB e d.heap.size (slice j D h) l)(I:OwnB e d.heap.size (slice k Z i) m)(s:Byt D l)(u:Byt Z m)(J:∀b,(Value.slice j D h).ownBlock=some b->(Value.slice k Z i).ownBlock≠some b)(L:D<=1000000)(N:Z<=1000000):
 Calls prog 299 #[pointer (some ⟨g,0,none⟩),.int .u8 t,int i64 c,slice j D h,slice k Z i] e λB v=>B=returned (.tuple #[])/\OwnB v d.heap.size (slice j D h) (xr l (kE t (W c)))/\OwnB v d.heap.size (slice k Z i) (xr m (kE t (M c)))/\Below d.heap.size e v:=by
 obtain⟨O,v,P,Q,R,-,S,-,-,-,-⟩:=a.way.at o;obtain⟨T,B,U,X,Y,-,aa,-,-,-,-⟩:=a.mor.at o;obtain rfl:v=D:=by rw[R];exact q.1
 obtain rfl:B=Z:=by rw[Y];exact r.1
 have:=Mj g w K H B n t c d.heap.size v gw gm P U _ x y z A O T j k h i (W c) (M c) l m e (a.blk.below f a.blk.lt) (Fld.belowC a.fld f (Blk.lt (t:=337) a.fld)) ⟨a.blk.lt,Blk.lt (t:=337) a.fld,a.way.lt,a.mor.lt⟩ E o
  ((f.cell (p:=⟨gw,c,none⟩) a.way.lt).trans Q) ((f.cell (p:=⟨gm,c,none⟩) a.mor.lt).trans X) (S.below f (aj _)) (aa.below f (aj _)) q.2 r.2 G I s.1 u.1 s.2 u.2 J L N
 rw[DF (by rw[q.1,s.1]),DF (by rw[r.1,u.1])] at this;exact this
theorem nk{wr a:World}{D Z c:Nat}{x:PI}{v:Value}(p:x.length=Z)(i:D<=maxLen)(h:OwnB a wr.heap.size v x)(j:Blk a c 5 (bK (replicate D 0)))(k:wr.heap.size<=c)(l:v.ownBlock≠some c)(m:Below wr.heap.size wr a):
 ∃f g d e,Value.slice (some ⟨c,0,none⟩) D D=slice f D g/\v=slice d Z e/\PH (OwnB a wr.heap.size (slice f D g) (replicate D 0))/\PH (OwnB a wr.heap.size (slice d Z e) x)/\PH (∀b,(Value.slice f D g).ownBlock=some b->(Value.slice d Z e).ownBlock≠some b)/\PH (Below wr.heap.size wr a):=by
 obtain⟨d,n,e,rfl,q⟩:=OwnB.sl h;obtain rfl:n=Z:=by omega
 have f:=j6 (C:=wr.heap.size) j k (by rw[aI];exact i);rw[aI] at f;refine⟨_,_,_,_,rfl,rfl,ae f,ae h,ae λb g o=>l (o.trans ?_),ae m⟩;simp[Value.ownBlock] at g;rw[g]
structure Two (w:World) (C:Nat) (va:Value) (A:List PI) (vb:Value) (B:List PI):Prop where
 oa:OwnS w C 30 1 (fun b=>Fr C b/\some b≠vb.ownBlock) va (A.map rB)
 ob:OwnS w C 30 1 (fun b=>Fr C b/\some b≠va.ownBlock) vb (B.map rB)
 ap:∀b,va.ownBlock=some b->vb.ownBlock≠some b
theorem Two.swap{w:World}{C:Nat}{b c:Value}{d B:List PI}(a:Two w C b d c B):Two w C c B b d:=⟨a.ob,a.oa,λe f g=>a.ap e g f⟩
theorem Two.begin(w:World)(C:Nat):Two w C (slice none 0 0) [] (slice none 0 0) []:=⟨OwnS.nil _ _ _ _ _,OwnS.nil _ _ _ _ _,λb a=>by simp[Value.ownBlock] at a⟩
theorem Two.new{w w':World}{C:Nat}{b c:Value}{d B:List PI}(a:Two w C b d c B)(e:Below w.heap.size w w'):Two w' C b d c B:=⟨a.oa.new e,a.ob.new e,a.ap⟩
theorem Two.one{w i:World}{C:Nat}{j f k:Value}{l B:List PI}{d:PI}(g:Two w C j l k B)(q:OwnS i C 30 1 (λb=>Fr C b/\some b≠k.ownBlock) f ((l++[d]).map rB))
 (m:∀b,b<w.heap.size->some b≠j.ownBlock->i.heap[b]? =w.heap[b]?)(n:f.ownBlock=j.ownBlock\/∃b,f.ownBlock=some b/\w.heap.size<=b):Two i C f (l++[d]) k B:=by
 have o:=g.ob.lt;refine⟨q,?_,λb c h=> ?_⟩
 ·obtain⟨r,c,h⟩:=g.ob
  refine⟨r,jr c λb e=>m b (o b e).2 λa=>g.ap b a.symm e,λs p t=>p.keep (h s p t) λb e p=>⟨m b p e.1.2,⟨e.1.1,?_⟩,e.2⟩⟩;rcases n with a | ⟨p,a,s⟩
  ·rw[a];exact e.1.2
  ·rw[a];intro e;injection e with e;omega
 ·rcases n with a | ⟨p,a,s⟩
  ·rw[a] at c;exact g.ap b c h
  ·rw[a] at c;injection c with c;have:=(o b h).2;omega
theorem Two.row{w0 w:World}{C:Nat}{d e:Value}{h B:List PI}{R:Rp}{f:List Value}(g:Two w0 C d h e B)(i:C<=w0.heap.size)(j:R.ok w (Fr w0.heap.size) f):R.ok w (λa=>(Fr C a/\some a≠e.ownBlock)/\some a≠d.ownBlock) f:=
 R.more j λa b _=>⟨⟨aP i b,λc=>by have:=(g.ob.lt a c.symm).2;have:w0.heap.size<=a:=b;omega⟩,λc=>by have:=(g.oa.lt a c.symm).2;have:w0.heap.size<=a:=b;omega⟩
theorem nu{w f:World}{P:Nat->Prop}{c d g:Value}{R:Rp}{h:List Value}(j:R.ok w (λb=>(P b/\some b≠g.ownBlock)/\some b≠c.ownBlock) h)(k:∀b,b<w.heap.size->some b≠c.ownBlock->f.heap[b]? =w.heap[b]?)
 (l:d.ownBlock=c.ownBlock\/∃b,d.ownBlock=some b/\w.heap.size<=b):R.ok f (λb=>(P b/\some b≠d.ownBlock)/\some b≠g.ownBlock) h:=
 R.keep j λb a e=>⟨k b e a.2,⟨a.1.1,by
  rcases l with e | ⟨m,e,n⟩
  ·rw[e];exact a.2
  ·rw[e];intro i;injection i with i;omega⟩,a.1.2⟩
theorem zL{P:Program}{Q:Exit->Act->World->Prop}{a:Act}{w:World}{body i d:Code}(j e:Nat)(m:findLabel body j=some (Code.skip.seq i))(n:findLabel body e=some (Code.skip.seq d))
 (o:∀X:Nat->Act->World->Prop,(∀a w,i.wp P (dz (λc f g=>c=e/\d.wp P (dz (λ_ _ _=>False) Q) f g) Q) a w->X j a w)->(∀a w,d.wp P (dz (λ_ _ _=>False) Q) a w->X e a w)->body.wp P (dz X Q) a w):(Code.scope body).wp P Q a w:=by
 refine iF (λc k a w=>(c=j/\k=1/\i.wp P (dz (λc f g=>c=e/\d.wp P (dz (λ_ _ _=>False) Q) f g) Q) a w)\/(c=e/\k=0/\d.wp P (dz (λ_ _ _=>False) Q) a w)) ?_ ?_
 ·exact o _ (λa w b=>⟨1,.inl ⟨rfl,rfl,b⟩⟩) (λa w b=>⟨0,.inr ⟨rfl,rfl,b⟩⟩)
 ·intro c k a w h
  rcases h with⟨rfl,rfl,h⟩ | ⟨rfl,rfl,h⟩
  ·refine⟨_,m,wp_seq (wp_skip (wp_mono h ?_))⟩
   intro l f g b;cases l with
   | goto c=>exact⟨0,by omega,.inr ⟨b.1,rfl,b.2⟩⟩
   | normal=>exact b
   | exit id=>exact b
   | ret=>exact b
   | panic ch=>exact b
   | outgrown=>exact b
  ·refine⟨_,n,wp_seq (wp_skip (wp_mono h ?_))⟩
   intro l f g b;cases l with
   | goto c=>exact b.elim
   | normal=>exact b
   | exit id=>exact b
   | ret=>exact b
   | panic ch=>exact b
   | outgrown=>exact b
theorem mR{P:Program}{w:World}{ops:Array Oper}{o:Oper}{a:Act}{K:Act->World->Prop}{Q:Exit->Act->World->Prop}{E:Prop}(y:o.guard=none)(s x:Operand){T e:TypeId}{z:Value}{k h:Nat}
 (A:o.op=.call { callee:=.builtin .append,args:=#[s,x],argTypes:=#[T,T] })(B:P.underlying T=some (.slice e))(D:(P.info? e).map (λd=>(d.zero,d.size,d.bytes))=some (some z,k,h))(G:z.cells.size=k)(H:0<k)(I:h<=1000)
 {C:Nat}{v:Value}{L:List Rp}{F:Nat->Prop}{R:Rp}{f:Array Value}(q:OwnS w C e k F v L)(l:C<=w.heap.size)(hl:L.length<=1000000)
 (m:R.ok w (λb=>F b/\some b≠v.ownBlock) f.toList)(J:R.sz=k)
 (hs:a.eval s=v)(M:a.eval x=slice (some ⟨w.heap.size,0,none⟩) 1 1)
 (N:∀g c,OwnS c C e k F g (L++[R])->Below C w c->w.heap.size<=c.heap.size->(∀b,b<w.heap.size->some b≠v.ownBlock->c.heap[b]? =w.heap[b]?)->(g.ownBlock=v.ownBlock\/∃b,g.ownBlock=some b/\w.heap.size<=b)->K (a.put o.dst g) c):
 if Region.wanted o (yielded ops a.tmps)=true then Oper.wp P o a (w.alloc (.cells f e)) K Q else E:=by
 have c:=(az w.heap.size w).alloc (aj _) (.cells f e);have O:=q.lt;have S:=q.new c;obtain⟨U,r,V⟩:=S;obtain⟨d,W,X,Y,Z⟩:=info_parts D;have aa:f.toList.length=k:=by rw[R.len m];exact J
 have ab:=R.new m c;have hw:Region.wanted o (yielded ops a.tmps)=true:=by simp[Region.wanted,y]
 rw[bg hw]
 have ac:∀(n:Nat) (p:Value),f.toList[n]? =some p->(w.alloc (.cells f e)).cell? ((⟨w.heap.size,0,none⟩:Addr).add n)=some p:=by
  intro n p hj;rw[Addr.add_lit,Nat.zero_add,dZ];simpa using hj
 have i:(L.length+1)*h<=140737488355328:=by
  have:=bn (show L.length+1<=1000001 by omega) I;omega
 obtain⟨g,w',ad,ag,j,_,t⟩:=run_append_own_at (P:=P) (w.alloc (.cells f e)) C T o.type e d z k h B W X Y Z G H v L.length U r ⟨w.heap.size,0,none⟩ 1 1 f.toList (by rw[aa,Nat.one_mul]) ac (R.one m) (by unfold maxLen;omega) i (aP l c.size);unfold Oper.wp execOp;simp only[A,resolve,invoke,builtin,Sem.run_bind,Sem.run_pure,Result.andThen_ok,map_toArray,map_cons,map_nil,hs,M,ad];refine N g w' (OwnS.app r V (λd R' u=> ?_) ag j t) (((c.mono l).grown j (aP l c.size) λb ai=>(O b ai).1)) (aP c.size j.size) (λb i ai=>(j.block b (aW i c.size) ai).trans (c.block b i)) (t.elim .inl λe=>.inr ⟨_,e,c.size⟩);cases d with
 | succ d=>simp at u
 | zero=>
   obtain rfl:R=R':=(by simpa using u);rw[Nat.zero_mul,drop_zero,aJ (by omega)];exact ab
