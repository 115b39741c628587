import Derived.Test.YtgccllbnfngpcaaGreatDoorW8
set_option linter.unusedVariables false
set_option maxRecDepth 100000
set_option maxHeartbeats 400000000
namespace Go.Proofs.YtgccllbnfngpcaaGreatDoor
open Go.RowKit _root_.Go.Proofs.Tryz List
open Value (int slice pointer bool)
open IntKind (i64)
open Ending (returned)
open Obj (cells)
theorem zw:(prog.info? 22).map (λa=>(a.zero,a.size,a.bytes))=some (some (slice none 0 0),1,24):=by kernel_rfl
theorem Sb{w:World}{g c:Nat}{F:Nat->Prop}(a:Blk w g 3 #[int i64 (c:Nat)])(b:F g):(rI [c]).ok w F [slice (some ⟨g,0,none⟩) 1 1]:=
 ⟨_,_,_,rfl,aj _,(by unfold maxLen;omega),λd=>(by cases d),rfl,λ_=>⟨g,0,rfl,b,λd f e=>by
   rw[Nat.zero_add,a.cell d];simpa[bM] using e⟩⟩
theorem AP(k:Nat)(p:Nat->Bool):dF (k+1) p=dF k p++if p k=true then [[k]] else []:=by
 unfold dF;rw[range_succ,filter_append,aU,filter_cons];split <;> rfl
theorem oG(k:Nat)(p:Nat->Bool):(dF k p).length<=k:=by
 unfold dF;rw[aG];exact aP (length_filter_le _ _) (by rw[bg];exact aj _)
theorem AQ{w:World}{C D e k n:Nat}{v:Value}{xs:List Value}(a:w.ownsRow C e k v n xs)(b:D<=C):w.ownsRow D e k v n xs:=by
 refine⟨a.1,?_⟩;rcases a.2 with c | ⟨d,f,g,rfl,h,i⟩
 ·exact .inl c
 ·exact .inr ⟨d,f,g,rfl,aP b h,i⟩
theorem pR{a:SE}{n m c b:Nat}(d:(Value.slice a n c).ownBlock=some b):(Value.slice a m c).ownBlock=some b:=by
 cases a with
 | none=>simp[Value.ownBlock] at d
 | some a=>exact d
theorem J4{w:World}{C:Nat}{v:Value}{St:List (Nat×Nat)}(d:OwnS w C 359 2 (λ_=>False) v (St.map iY)):OwnT w C v St:=by
 obtain⟨b,c,g⟩:=d;rw[aG] at c;have t:=c.1
 have h:b=jv St:=by
  apply ext_getElem?;intro a;by_cases u:a<b.length
  ·have f:a/2<St.length:=by omega
   have i:=g (a/2) (iY (St.getD (a/2) (0,0))) (by rw[List.getElem?_map,af,ah f];rfl);obtain⟨j,k,e,l,m⟩:=i;have n:j=[int i64 ((St.getD (a/2) (0,0)).1:Nat)]:=l.1;have o:k=[int i64 ((St.getD (a/2) (0,0)).2:Nat)]:=m.1;rw[n,o] at e
   have p:b[a/2*2]? =some (int i64 ((St.getD (a/2) (0,0)).1:Nat)):=by
    have:((b.drop (a/2*2)).take 2)[0]? =some (int i64 ((St.getD (a/2) (0,0)).1:Nat)):=(by rw[e];rfl);rw[List.getElem?_take,bu (by decide),List.getElem?_drop,Nat.add_zero] at this;exact this
   have q:b[a/2*2+1]? =some (int i64 ((St.getD (a/2) (0,0)).2:Nat)):=by
    have:((b.drop (a/2*2)).take 2)[1]? =some (int i64 ((St.getD (a/2) (0,0)).2:Nat)):=(by rw[e];rfl);rw[List.getElem?_take,bu (by decide),List.getElem?_drop] at this;exact this
   obtain⟨r,s⟩:=qa f;rcases Nat.mod_two_eq_zero_or_one a with d | d
   ·rw[show a=a/2*2 by omega,p,r]
   ·rw[show a=a/2*2+1 by omega,q,s]
  ·rw[List.getElem?_eq_none (by omega),List.getElem?_eq_none (by rw[jI];omega)]
 rw[h] at c;exact c
theorem J5(g gf K H Z n N M cK:Nat)(O aK:SE)(ab ak al am ac ad:Value)(F:Nat->Prop)(kn:List Bool)(rest:List (SC×SC))(w:World)
 (hg:Blk w g 292 (svC gf K H Z ab (slice O N M) ak al am ac ad))(hR:(gq rest).ok w F [slice O N M])(hF:∀b,F b->b≠g)(S:Rd w w.heap.size aK n (dA kn))(b8:∀p:Addr,aK=some p->p.block≠g)
 (W:rest.length=N)(b9:N<=1000)(hn:n<=64)(aM:∀x∈rest,x.1.length<=1000/\(∀c∈x.1,c<n)/\RP x.1):
 Calls prog 234 #[pointer (some ⟨g,0,none⟩),slice aK n cK] w λe B=>e=returned (.tuple #[])/\∃vS vD vL St De Le,qE n (rest.map Prod.fst++dF n λc=>kn.getD c false) St De Le/\
  OwnT B w.heap.size vS (St.filter λG=> !decide (N<=G.1))/\OwnI B w.heap.size vD De/\OwnI B w.heap.size vL (Le.filter λu=> !decide (N<=u))/\
  Blk B g 292 (svC gf K H Z ab (slice O N M) vS vD vL ac ad)/\Below 0 w B/\∀b,b<w.heap.size->b≠g->B.heap[b]? =w.heap[b]? :=by
 have i:=(aC w.heap.size w).alloc (aj _) (cells #[pointer (some ⟨g,0,none⟩)] 287);have P:=Blk.new w 287 #[pointer (some ⟨g,0,none⟩)]
 have S0:Sz (Sx (w.alloc (cells #[pointer (some ⟨g,0,none⟩)] 287)) (w.alloc (cells #[pointer (some ⟨g,0,none⟩)] 287)) [bY w.heap.size 287 #[pointer (some ⟨g,0,none⟩)],mR aK n (dA kn),eR F (slice O N M) (gq rest),bY g 292 (svC gf K H Z ab (slice O N M) ak al am ac ad)]):=
  ae (((((Sx.nil _).add (bY g _ _) (hg.below i hg.lt)).add (eR F (slice O N M) (gq rest)) ((gq rest).new hR i)).add (mR aK n (dA kn)) ((S.below i (aj _)).more i.size)).add (bY w.heap.size _ _) P)
 have ar:=ae i;have HN:=ae W;have bp:=ae aM;have br:=hg.lt;have bs:Sz ((gq rest).ok (w.alloc (cells #[pointer (some ⟨g,0,none⟩)] 287)) (Bl w.heap.size) [slice O N M]):=ae ((gq rest).new ((gq rest).bl hR) i);have f:=P.cell 0;have d:=(hg.below i br).cell 5;unfold svC at d;clear hg hR S i P W aM;go_enter func234,ntmps234;go_wp2_with fail;clear f d;generalize d:w.alloc (cells #[pointer (some ⟨g,0,none⟩)] 287)=v at*;have ca:=ae d;clear d;have ag:Sz (OwnS v v.heap.size 22 1 Any (slice none 0 0) ((rest.take 0).map λx=>rI x.1)):=ae (OwnS.nil _ _ _ _ _);have aT:=ae (aC v.heap.size v);go_loopw [4,16] (λQ u wr=>∃j:Nat,j<=N/\u=int i64 j/\Sz (OwnS wr v.heap.size 22 1 Any Q ((rest.take j).map λx=>rI x.1))/\Sz (Below v.heap.size v wr)) (λ_ u _=>N-(intOf u).toNat)
 case atStart=>exact⟨0,by omega,rfl,ag,aT⟩
 case round=>
  clear ag aT;obtain⟨j,cb,rfl,y,s⟩:=hrel;have X:=ae (S0.o.step s.o);have J:=s.o.size;obtain⟨Y,L,T,rfl⟩:=y.o.sl;by_cases aV:j<N
  ·have aq:(j:Int)<(N:Int):=by omega
   have l:j<rest.length:=(by rw[HN.o];exact aV);obtain⟨b,au,k,m,o,t,z,A,rfl,_,d,V,aa,r,ai,an,ao⟩:=oF ((gq rest).new bs.o s.o) HN.o aV;have i:=(aC wr.heap.size wr).alloc (aj _) (cells #[slice k m o,slice t z A] 286);have E:=Blk.new wr 286 #[slice k m o,slice t z A];have I:=(rI _).new r i;have k0:=E.cell 0;have q:=ae (y.o.new i);have C:=ae (s.o.trans (i.mono J));have W:((rest.take j).map λx=>rI x.1).length<=1000000:=(by rw[aG,aH];omega);have f:Sz ((rest.take (j+1)).map (λx=>rI x.1)=((rest.take j).map λx=>rI x.1)++[rI (rest.getD j ([],[])).1]):=ae (by rw[aO l,aU,af,ah l];rfl);have U:v.heap.size<=(wr.alloc (cells #[slice k m o,slice t z A] 286)).heap.size:=aP J i.size;have ap:w.heap.size<=v.heap.size:=ar.o.size;have D:Sz ((rI (rest.getD j ([],[])).1).ok (wr.alloc (cells #[slice k m o,slice t z A] 286)) (λb=>Any b/\some b≠(Value.slice Y L T).ownBlock) [slice k m o]):=ae (q.o.off I λb d=>⟨trivial,.inl (aW d ap)⟩);clear i E r I ai an ao l y s X;generalize rest.getD j ([],[])=x at*;generalize (rest.take j).map (λx=>rI x.1)=LL at*;go_upto_region 5 with fail;clear V aa;generalize wr.alloc (cells #[slice k m o,slice t z A] 286)=wa at*
   go_wp2_with (at_builtin;refine iA (w:=wa) (w1:=wa) rfl _ _ rfl underlying98 zw rfl (by decide) (by decide) q.o (aC _ _) U W (R:=rI x.1) D.o rfl rfl rfl ?_)
   intro v6 r l E;rw[<-f.o] at l;have I:=ae l;have V:=ae (C.o.trans E);clear l E q D C k0;obtain⟨b6,L,T,rfl⟩:=I.o.sl;go_wp2_with fail;go_roundw
   case rel=>exact⟨j+1,by omega,by go_num,I,V⟩
   case measure=>simp[intOf];omega
  ·obtain rfl:j=N:=by omega
   rw[aN (by rw[HN.o];exact aj _)] at y
   have ag:Sz (OwnS wr v.heap.size 22 1 Any (slice Y L T) ((rest.map Prod.fst++dF 0 λc=>kn.getD c false).map rI)):=ae (by
    have e:(rest.map Prod.fst++dF 0 λc=>kn.getD c false).map rI=rest.map λx=>rI x.1:=by
     rw[show dF 0 (λc=>kn.getD c false)=[] from rfl,append_nil,map_map];rfl
    rw[e];exact y.o)
   clear y X;go_wp2_with fail;clear J;have aX:=s;clear s;go_loopw [4,28] (λQ u wr=>∃j:Nat,j<=n/\u=int i64 j/\Sz (OwnS wr v.heap.size 22 1 Any Q ((rest.map Prod.fst++dF j λc=>kn.getD c false).map rI))/\Sz (Below v.heap.size v wr)) (λ_ u _=>n-(intOf u).toNat)
   case atStart=>exact⟨0,by omega,rfl,ag,aX⟩
   case round=>
    clear ag aX;obtain⟨k,cc,rfl,y,s⟩:=hrel;have X:=ae (S0.o.step s.o);have J:=s.o.size;obtain⟨Y,L,T,rfl⟩:=y.o.sl;by_cases bt:k<n
    ·have A:(k:Int)<(n:Int):=by omega
     obtain⟨Q,ok,rfl,aa,m⟩:=vJ (X.o.rd 1 rfl) bt;have f:=ae (AP k λc=>kn.getD c false);have ai:=oG k λc=>kn.getD c false;have W:((rest.map Prod.fst++dF k λc=>kn.getD c false).map rI).length<=1000000:=(by rw[aG,aI,aG,HN.o];omega);generalize dF k (λc=>kn.getD c false)=o at*;cases hky:kn.getD k false with
     | false=>
       rw[hky] at m;have t:Sz (OwnS wr v.heap.size 22 1 Any (slice Y L T) ((rest.map Prod.fst++dF (k+1) λc=>kn.getD c false).map rI)):=ae (by rw[f.o,hky,bA (by decide),append_nil];exact y.o);clear hky y f X;go_wp2_with fail;go_roundw
       case rel=>exact⟨k+1,by omega,by go_num,t,s⟩
       case measure=>simp[intOf];omega
     | true=>
       rw[hky] at m f;rw[bu rfl] at f;have t:Sz ((rest.map Prod.fst++dF (k+1) λc=>kn.getD c false).map rI=(rest.map Prod.fst++o).map rI++[rI [k]]):=ae (by rw[f.o,<-append_assoc,aU];rfl);have i:=(aC wr.heap.size wr).alloc (aj _) (cells #[int i64 k] 3);have q:=ae (y.o.new i);have C:=ae (s.o.trans (i.mono J));have U:v.heap.size<=(wr.alloc (cells #[int i64 k] 3)).heap.size:=aP J i.size;have z:(wr.alloc (cells #[int i64 k] 3)).heap.size=wr.heap.size+1:=(by simp);have D:Sz ((rI [k]).ok (wr.alloc (cells #[int i64 k] 3)) (λb=>Any b/\some b≠(Value.slice Y L T).ownBlock) [slice (some ⟨wr.heap.size,0,none⟩) 1 1]):=ae (y.o.off (Sb (Blk.new wr _ _) (F:=λb=>b=wr.heap.size) rfl) λb d=>⟨trivial,.inr (by rw[d];exact aj _)⟩);clear hky i f y s X;generalize (rest.map Prod.fst++o).map rI=LL at*
       go_wp2_with (at_builtin;refine iA (w:=wr.alloc (cells #[int i64 k] 3)) (w1:=wr.alloc (cells #[int i64 k] 3)) rfl _ _ rfl underlying98 zw rfl (by decide) (by decide) q.o (aC _ _) U W (R:=rI [k]) D.o rfl rfl (by rw[z];rfl) ?_)
       intro v6 r l E;rw[<-t.o] at l;have I:=ae l;have V:=ae (C.o.trans E);clear l E q D C;obtain⟨b6,L,T,rfl⟩:=I.o.sl;go_wp2_with fail;go_roundw
       case rel=>exact⟨k+1,by omega,by go_num,I,V⟩
       case measure=>simp[intOf];omega
    ·obtain rfl:k=n:=by omega
     have l:(rest.map Prod.fst++dF k λc=>kn.getD c false).length<=2000:=by
      have:=oG k λc=>kn.getD c false;rw[aI,aG,HN.o];omega
     obtain⟨f,-⟩:=y.o.len;rw[aG] at f
     have CP:=ae (FR k L Y T _ (rest.map Prod.fst++dF k λc=>kn.getD c false) wr y.o.rep f (by omega) hn (λx hx=>by
      rcases bF.1 hx with h | h
      ·obtain⟨m,o,rfl⟩:=aZ.1 h
       exact bp.o m o
      ·obtain⟨c,m,rfl⟩:=aZ.1 h
       have:=bG.1 (mem_filter.1 m).1;exact⟨by simp,λaa o=>by rw[mem_singleton.1 o];exact this,λu hi=>by simp at hi⟩))
     have aY:=ae f;have cd:L<=2000:=(by omega);clear f l;go_wp2_with fail;refine CP.o.mono ?_;rintro e U ⟨vS,vD,vL,St,De,Le,rfl,t,hS,z,A,aF,f⟩;obtain⟨l,Q,m,rfl⟩:=hS.sl;obtain⟨C,D,E,rfl⟩:=OwnI.sl z;obtain⟨o,I,q,rfl⟩:=OwnI.sl A;have V:=J4 hS;have i:=(aC U.heap.size U).alloc (aj _) (cells #[slice l Q m,slice C D E,slice o I q] 290);have ai:=Blk.new U 290 #[slice l Q m,slice C D E,slice o I q];have aq:=lX V i;have a0:=gQ z i;have au:=gQ A i;have S3:=S0.o.step ((s.o.trans (f.mono J)).trans (i.mono (aP J f.size)));have bv:w.heap.size<v.heap.size:=(S0.o.blk 0 rfl).lt;have P:=S3.blk 0 rfl;have an:=S3.blk 3 rfl
     have a3:St.length=Q:=by
      obtain⟨a',c',e,_⟩:=dH aq;injection e with _ e _;exact e.symm
     have a4:Le.length=I:=by
      obtain⟨a',c',e,_⟩:=dH au;injection e with _ e _;exact e.symm
     have a5:St.length<=1000000/\Le.length<=1000000:=by
      constructor
      ·have h1:(St.map Prod.fst).length<=L:=jT t.rows λav hr=>by
        obtain⟨⟨r',aa⟩,h5,e5⟩:=aZ.1 hr;obtain⟨u,hi,h6⟩:=bH h5;have:r'=av:=e5;subst this;have:=(t.step u r' aa (by rw[ah hi,h6])).1
        rwa [aY.o] at this
       rw[aG] at h1;omega
      ·rw[t.left]
       exact aP (length_filter_le _ _) (by rw[bg,aY.o];omega)
     have ce:=f.size;have ao:=World.ownsRow.lt V;have a7:=World.ownsRow.lt z;have a8:=World.ownsRow.lt A;have a9:=kC V z (by decide);have ba:=kC V A (by decide);have bb:Sz (∀b,b<w.heap.size->(U.alloc (cells #[slice l Q m,slice C D E,slice o I q] 290)).heap[b]? =w.heap[b]?):=ae λb d=>(((s.o.trans (f.mono J)).trans (i.mono (aP J f.size))).block b (Nat.lt_trans d bv)).trans (ar.o.block b d);have bc:Sz (Below 0 w (U.alloc (cells #[slice l Q m,slice C D E,slice o I q] 290))):=ae ((((ar.o.mono (bE _)).trans (s.o.mono (bE _))).trans (f.mono (bE _))).trans (i.mono (bE _)));have cf:=i.size;have cg:=ai.lt
     have CD:=ae (yG w.heap.size wr.heap.size Q m l St (λG=>decide (j<=G.1)) _ aq a3 (by omega) (λB aa S G hs=>by
      obtain⟨av,c⟩:=G;have e1:B.heap[w.heap.size]? =_:=S w.heap.size P.lt (λe=>by have:=ao _ e.symm;omega);have e2:B.heap[g]? =_:=S g an.lt (λe=>by have:=ao _ e.symm;omega);exact JI w.heap.size g gf K H Z j M av c O ab ak al am ac ad B ((World.cell?_of_block (a:=⟨w.heap.size,0,none⟩) e1).trans (P.cell 0)) (by have:=P.lt;omega) (e2.trans an)) (by omega))
     have bw:=ai.cell 0;have aw:=ae ai;have ax:=ae a0;have ay:=ae au;have az:=ae P;have aA:=ae an;have bx:=ae t;have aB:=ae a4;have bz:=ae a5;have bB:=ae a9;have bd:=ae ba;have b1:=ae aF;have ap:=ae ao;have aE:=ae a7;have aa:=ae a8;clear V hS z A i ai aq a0 au S3 P an t aF a3 a4 a5 ao a7 a8 a9 ba CP f y s;go_upto_region 14 with fail;generalize U.alloc (cells #[slice l Q m,slice C D E,slice o I q] 290)=w3 at*;generalize t:U.heap.size=f at*;clear t;go_wp2_with fail;refine CD.o.mono ?_;rintro e t ⟨z,rfl,a0,A,a3⟩;have ch:=A.size;have a4:=ae (bc.o.trans A);clear A bc;have b2:f<w3.heap.size:=aw.o.lt
     have A:∀b,b<w3.heap.size->(b<wr.heap.size\/b=f\/(Value.slice C D E).ownBlock=some b\/(Value.slice o I q).ownBlock=some b)->t.heap[b]? =w3.heap[b]? :=λb d au=>a3 b d λe=>by
      have h1:=ap.o b e.symm;rcases au with h | h | h | h
      ·omega
      ·omega
      ·exact bB.o b e.symm h
      ·exact bd.o b e.symm h
     have an:Blk t f 290 #[slice l Q m,slice C D E,slice o I q]:=(A f b2 (.inr (.inl rfl))).trans aw.o;have a5:OwnI t wr.heap.size (slice C D E) De:=dB ax.o λb d=>A b (World.ownsRow.lt ax.o b d).2 (.inr (.inr (.inl d)));have a7:OwnI t wr.heap.size (slice o I q) Le:=dB ay.o λb d=>A b (World.ownsRow.lt ay.o b d).2 (.inr (.inr (.inr d)));have a8:Blk t w.heap.size 287 _:=(A w.heap.size az.o.lt (.inl (by omega))).trans az.o;have a9:Blk t g 292 _:=(A g aA.o.lt (.inl (by omega))).trans aA.o;have ba:∀b,b<w.heap.size->t.heap[b]? =w.heap[b]? :=λb d=>(A b (by omega) (.inl (by omega))).trans (bb.o b d);have b3:=an.cell 0;have b5:=an.frozen 0;have V:=λ(b:Nat) (d:b≠f)=>bJ t ⟨f,0,none⟩ (slice l z m) b d;have aF:=ae (an.set 0 (slice l z m));have bc:Sz (OwnT (t.setCell ⟨f,0,none⟩ (slice l z m)) wr.heap.size (slice l z m) (St.filter λG=> !decide (j<=G.1))):=ae (ky a0 λb d=>V b (λe=>by have:=ap.o b (pR d);omega));have be:OwnI (t.setCell ⟨f,0,none⟩ (slice l z m)) wr.heap.size (slice C D E) De:=dB a5 λb d=>V b (λe=>by have:=aE.o b d;omega);have bf:OwnI (t.setCell ⟨f,0,none⟩ (slice l z m)) wr.heap.size (slice o I q) Le:=dB a7 λb d=>V b (λe=>by have:=aa.o b d;omega);have ao:Blk (t.setCell ⟨f,0,none⟩ (slice l z m)) w.heap.size 287 _:=(V w.heap.size (by omega)).trans a8;have aq:Blk (t.setCell ⟨f,0,none⟩ (slice l z m)) g 292 _:=(V g (by omega)).trans a9;have bh:∀b,b<w.heap.size->(t.setCell ⟨f,0,none⟩ (slice l z m)).heap[b]? =w.heap[b]? :=λb d=>(V b (by omega)).trans (ba b d);have ai:(t.setCell ⟨f,0,none⟩ (slice l z m)).heap.size=t.heap.size:=(by simp);have bi:=ae ai;have bj:=ae (a4.o.setCell (p:=⟨f,0,none⟩) (bE _) (slice l z m));clear a4
     have CE:=ae (Al w.heap.size wr.heap.size I q o Le (λu=>decide (j<=u)) _ bf aB.o (by rw[ai];omega) (λB S x hx=>by
      have e1:B.heap[w.heap.size]? =_:=S w.heap.size ao.lt (λe=>by have:=aa.o _ e.symm;omega);have e2:B.heap[g]? =_:=S g aq.lt (λe=>by have:=aa.o _ e.symm;omega);exact JH w.heap.size g gf K H Z j M x O ab ak al am ac ad B ((World.cell?_of_block (a:=⟨w.heap.size,0,none⟩) e1).trans (ao.cell 0)) (e2.trans aq)) (by have:=bz.o.2;rw[aB.o] at this;exact this))
     have b7:=aF.o.cell 2;have a4:=ae be;have bl:=ae ao;have bm:=ae aq;have bo:=ae bh;clear ai bf be ao aq bh V an a5 a7 a8 a9 ba A a0 aw ax ay az aA bb CD a3;go_upto_region 15 with fail;clear b3 b5 bw;generalize t.setCell ⟨f,0,none⟩ (slice l z m)=w5 at*;go_wp2_with fail;refine CE.o.mono ?_;rintro e r ⟨B,rfl,aq,V,aw⟩;have a3:=V.sz;have a5:=ae ((bj.o.trans V.bl).setCell (p:=⟨f,2,none⟩) (bE _) (slice o B q));clear V bj;have ai:=bi.o
     have A:∀b,(b<wr.heap.size\/b=f\/(Value.slice C D E).ownBlock=some b\/(Value.slice l Q m).ownBlock=some b)->r.heap[b]? =w5.heap[b]? :=λb au=>aw b λe=>by
      have h1:=aa.o b e.symm;rcases au with h | h | h | h
      ·omega
      ·omega
      ·exact b1.o b h e.symm
      ·exact bd.o b h e.symm
     have an:Blk r f 290 _:=(A f (.inr (.inl rfl))).trans aF.o;have au:OwnI r wr.heap.size (slice C D E) De:=dB a4.o λb d=>A b (.inr (.inr (.inl d)));have ax:OwnT r wr.heap.size (slice l z m) (St.filter λG=> !decide (j<=G.1)):=ky bc.o λb d=>A b (.inr (.inr (.inr (pR d))));have ay:Blk r w.heap.size 287 _:=(A w.heap.size (.inl (by omega))).trans bl.o;have az:Blk r g 292 _:=(A g (.inl (by omega))).trans bm.o;have aA:∀b,b<w.heap.size->r.heap[b]? =w.heap[b]? :=λb d=>(A b (.inl (by omega))).trans (bo.o b d);have a7:=an.frozen 2;have a8:=an.cell 2;have V:=λ(b:Nat) (d:b≠f)=>bJ r ⟨f,2,none⟩ (slice o B q) b d;have ao:=an.set 2 (slice o B q);have a9:Sz (OwnT (r.setCell ⟨f,2,none⟩ (slice o B q)) wr.heap.size (slice l z m) (St.filter λG=> !decide (j<=G.1))):=ae (ky ax λb d=>V b (λe=>by have:=ap.o b (pR d);omega));have ba:Sz (OwnI (r.setCell ⟨f,2,none⟩ (slice o B q)) wr.heap.size (slice C D E) De):=ae (dB au λb d=>V b (λe=>by have:=aE.o b d;omega));have bb:Sz (OwnI (r.setCell ⟨f,2,none⟩ (slice o B q)) wr.heap.size (slice o B q) (Le.filter λu=> !decide (j<=u))):=ae (dB aq λb d=>V b (λe=>by have:=aa.o b (pR d);omega));have G:Blk (r.setCell ⟨f,2,none⟩ (slice o B q)) w.heap.size 287 _:=(V w.heap.size (by omega)).trans ay;have u:Blk (r.setCell ⟨f,2,none⟩ (slice o B q)) g 292 _:=(V g (by omega)).trans az;have be:Sz (∀b,b<w.heap.size->(r.setCell ⟨f,2,none⟩ (slice o B q)).heap[b]? =w.heap[b]?):=ae λb d=>(V b (by omega)).trans (aA b d);have a0:w.heap.size<=(r.setCell ⟨f,2,none⟩ (slice o B q)).heap.size:=(by simp;omega);have bh:=ae a0;have b0:=G.cell 0;have e0:=ao.cell 0;have e1:=ao.cell 1;have e2:=ao.cell 2;have g6:=u.cell 6;have g7:=u.cell 7;have g8:=u.cell 8;have y6:=u.frozen 6;have y7:=u.frozen 7;have y8:=u.frozen 8;unfold svC at g6 g7 g8;have bf:=ae u;clear G ao u ai a0 an au ax ay az aA V A aq aF a4 bc bl bm bo CE aw aB a3 bi;go_upto_region 16 with fail;clear a7 a8 b7;generalize r.setCell ⟨f,2,none⟩ (slice o B q)=V at*;have ao:¬g=f:=(by omega);have aq:¬f=g:=(by omega);have au:¬w.heap.size=g:=(by omega);go_wp2_with fail
     go_end0
     have u:∀b,b≠g->(((V.setCell ⟨g,6,none⟩ (slice l z m)).setCell ⟨g,7,none⟩ (slice C D E)).setCell ⟨g,8,none⟩ (slice o B q)).heap[b]? =V.heap[b]? :=λb d=>((bJ _ _ _ _ d).trans (bJ _ _ _ _ d)).trans (bJ _ _ _ _ d);have G:w.heap.size<=wr.heap.size:=(by omega);refine⟨rfl,slice l z m,slice C D E,slice o B q,St,De,Le,bx.o,?_,?_,?_,?_,?_,?_⟩
     ·exact AQ (ky a9.o λb d=>u b (λe=>by have:=ap.o b (pR d);omega)) G
     ·exact AQ (dB ba.o λb d=>u b (λe=>by have:=aE.o b d;omega)) G
     ·exact AQ (dB bb.o λb d=>u b (λe=>by have:=aa.o b (pR d);omega)) G
     ·exact((bf.o.set 6 _).set 7 _).set 8 _
     ·exact((a5.o.setCell (bE _) _).setCell (bE _) _).setCell (bE _) _
     ·exact λb d an=>(u b an).trans (be.o b d)
def iC(L:List (Nat×SC)):Rp:=rS 2 (L.map λa=>uT a.1 a.2)
theorem AL{L:List (Nat×SC)}{w:World}{F:Nat->Prop}{a:SE}{n c i:Nat}(j:(iC L).ok w F [slice a n c])(v:L.length=n)(k:i<n):
 ∃b o d f e,a=some ⟨b,o,none⟩/\F b/\b<w.heap.size/\w.cell? ⟨b,o+i*2,none⟩=some (int i64 ((L.getD i (0,[])).1:Nat))/\w.cell? ⟨b,o+i*2+1,none⟩=some (slice d f e)/\(rB (L.getD i (0,[])).2).ok w F [slice d f e]/\f=(L.getD i (0,[])).2.length:=by
 have l:i<L.length:=by omega
 have m:(L.map λf=>uT f.1 f.2)[i]? =some (uT (L.getD i (0,[])).1 (L.getD i (0,[])).2):=by rw[List.getElem?_map,af,ah l];rfl
 obtain⟨b,o,x,rfl,p,q,r,y,h⟩:=su j (by decide) k m;obtain⟨f,z,rfl,s,g⟩:=r;have t:f=[int i64 ((L.getD i (0,[])).1:Nat)]:=s.1;subst t;have u:=(rB (L.getD i (0,[])).2).len g;obtain⟨A,rfl⟩:=length_eq_one_iff.1 u;obtain⟨d,e,rfl,-⟩:=eU g rfl;exact⟨b,o,d,_,e,rfl,p,q,h 0 _ rfl,h 1 _ rfl,g,rfl⟩
theorem JR(K H Z id c:Nat)(a:SE)(w:World)(f:id<=65535):
 Calls prog 172 #[.agg #[int i64 K,int i64 H,int i64 Z],.agg #[int i64 id,slice a Z c]] w λb d=>b=returned (bool true)/\Below w.heap.size w d:=by
 have b:=(aC w.heap.size w).alloc (aj _) (cells #[int i64 K,int i64 H,int i64 Z] 25);have d:=Blk.new w 25 #[int i64 K,int i64 H,int i64 Z];have e:(w.alloc (cells #[int i64 K,int i64 H,int i64 Z] 25)).heap.size=w.heap.size+1:=by simp
 generalize w.alloc (cells #[int i64 K,int i64 H,int i64 Z] 25)=g at*;have i:(0:Int)<=(id:Int):=by omega
 have j:(id:Int)<=65535:=by omega
 clear d e b;go_enter func172,ntmps172;go_wp2_with fail;go_ret;refine⟨rfl,?_⟩;exact(((aC w.heap.size w).alloc (aj _) _).alloc (by simp) _)
theorem Qg(N c:Nat)(a:SE)(F:Nat->Prop)(L:List (Nat×SC))(w:World)(m:(iC L).ok w F [slice a N c])(n:L.length=N)(J:N<=1000):
 Calls prog 174 #[slice a N c] w λd b=>∃v,d=returned v/\OwnI b w.heap.size v (L.map Prod.fst)/\Below w.heap.size w b:=by
 have z:=ae m;have k:=ae n;have o:Sz (OwnI w w.heap.size (slice none 0 0) ((L.take 0).map Prod.fst)):=ae (OwnI.nil _ _);have p:=ae (aC w.heap.size w);clear m n;go_enter func174,ntmps174;go_wp2_with fail;go_loopw [3,8] (λv d wr=>∃b:Nat,b<=N/\d=int i64 b/\Sz (OwnI wr w.heap.size v ((L.take b).map Prod.fst))/\Sz (Below w.heap.size w wr)) (λ_ d _=>N-(intOf d).toNat)
 case atStart=>exact⟨0,by omega,rfl,o,p⟩
 case round=>
  clear o p;obtain⟨b,K,rfl,d,e⟩:=hrel;have q:=e.o.size;obtain⟨M,A,B,rfl⟩:=OwnI.sl d.o;by_cases r:b<N
  ·have O:(b:Int)<(N:Int):=by omega
   have l:b<L.length:=(by rw[k.o];exact r);obtain⟨P,Q,f,g,i,rfl,_,R,u,x,-,C⟩:=AL ((iC L).new z.o e.o) k.o r;have j:=(aC wr.heap.size wr).alloc (aj _) (cells #[int i64 ((L.getD b (0,[])).1:Nat),slice f g i] 154);have D:=(Blk.new wr 154 #[int i64 ((L.getD b (0,[])).1:Nat),slice f g i]).cell 0;have s:Sz (OwnI _ _ _ _):=ae (gQ d.o j);have t:=ae (e.o.trans (j.mono q));have E:w.heap.size<=(wr.alloc (cells #[int i64 ((L.getD b (0,[])).1:Nat),slice f g i] 154)).heap.size:=aP q j.size;have G:Sz ((L.take (b+1)).map Prod.fst=(L.take b).map Prod.fst++[(L.getD b (0,[])).1]):=ae (by rw[aO l,aU,af,ah l];rfl);have H:((L.take b).map Prod.fst).length<=1000000:=(by rw[aG,aH];omega);clear j C l d e;generalize (L.getD b (0,[])).1=l at*;generalize (L.take b).map Prod.fst=S at*;go_upto_region 5 with fail;clear u x;generalize wr.alloc (cells #[int i64 (l:Nat),slice f g i] 154)=C at*
   go_wp2_with (at_builtin;refine pQ (w:=C) (y:=l) rfl _ _ ?hi rfl s.o E H rfl rfl ?_)
   case hi=>first | rfl | trivial
   intro T U j u _ _ _;rw[<-G.o] at j;have x:=ae j;have I:=ae (t.o.trans u);clear j u s t D;obtain⟨j,A,B,rfl⟩:=OwnI.sl x.o;go_wp2_with fail;go_roundw
   case rel=>exact⟨b+1,by omega,by go_num,x,I⟩
   case measure=>simp[intOf];omega
  ·obtain rfl:b=N:=by omega
   rw[aN (by rw[k.o];exact aj _)] at d;go_wp2_with fail;go_ret;exact⟨_,rfl,d.o,e.o⟩
theorem LM(B K H Z id c:Nat)(a:SE)(w:World)(d:Blk w B 25 #[int i64 K,int i64 H,int i64 Z])(j:id<=65535):
 Calls prog 171 #[.agg #[int i64 id,slice a Z c],pointer (some ⟨B,0,none⟩)] w λg b=>g=returned (bool false)/\Below w.heap.size w b:=by
 have e:=(aC w.heap.size w).alloc (aj _) (cells #[int i64 id,slice a Z c] 154);have f:=Blk.new w 154 #[int i64 id,slice a Z c];have k:=f.cell 0;have l:=f.cell 1;have b:=d.below e d.lt;have m:=b.cell 0;have n:=b.cell 1;have o:=b.cell 2;have i:=ae e;clear e f b d;go_enter func171,ntmps171;go_wp2_with fail;have b:=ae (JR K H Z id c a (w.alloc (cells #[int i64 id,slice a Z c] 154)) j);refine b.o.mono ?_;rintro g p ⟨rfl,e⟩;have f:=ae (i.o.trans (e.mono i.o.size));clear e b m n o k l;go_wp2_with fail;go_ret;exact⟨rfl,f.o⟩
theorem Eo(B K H Z N c:Nat)(a:SE)(F:Nat->Prop)(L:List (Nat×SC))(w:World)(e:(iC L).ok w F [slice a N c])(f:L.length=N)(E:N<=1000)(g:Blk w B 25 #[int i64 K,int i64 H,int i64 Z])
 (i:∀x∈L,x.1<=65535/\x.2.length=Z):
 Calls prog 230 #[slice a N c,.func (.func 171) #[] #[pointer (some ⟨B,0,none⟩)]] w λj b=>j=returned (int i64 (-1))/\Below w.heap.size w b:=by
 have t:=ae e;have k:=ae f;have u:=ae i;have l:=ae g;have m:=ae (aC w.heap.size w);clear e f i g;go_enter func230,ntmps230;go_wp2_with fail;go_loopw [8] (λd wr=>∃b:Nat,b<=N/\d=int i64 b/\Sz (Below w.heap.size w wr)) (λd _=>N-(intOf d).toNat)
 case atStart=>exact⟨0,by omega,rfl,m⟩
 case round=>
  clear m;obtain⟨b,G,rfl,d⟩:=hrel;by_cases n:b<N
  ·have I:(b:Int)<(N:Int):=by omega
   have o:b<L.length:=(by rw[k.o];exact n);have p:L.getD b (0,[])∈L:=(by rw[af,ah o];exact aQ _);obtain⟨q,v⟩:=u.o _ p;obtain⟨J,M,y,r,z,rfl,_,O,A,C,-,D⟩:=AL ((iC L).new t.o d.o) k.o n;obtain rfl:r=Z:=(by omega);have s:=ae (LM B K H r (L.getD b (0,[])).1 z y wr (l.o.below d.o l.o.lt) q);clear o p q v D;generalize (L.getD b (0,[])).1=x at*;go_wp2_with fail;refine s.o.mono ?_;rintro j q ⟨rfl,o⟩;have p:=ae (d.o.trans (o.mono d.o.size));clear o d s A C;go_wp2_with fail;go_roundw
   case rel=>exact⟨b+1,by omega,by go_num,p⟩
   case measure=>simp[intOf];omega
  ·obtain rfl:b=N:=by omega
   go_wp2_with fail;go_ret;exact⟨rfl,d.o⟩
theorem yc(B K H Z N c:Nat)(a:SE)(F:Nat->Prop)(L:List (Nat×SC))(w:World)(b:(iC L).ok w F [slice a N c])(d:L.length=N)(k:N<=1000)(e:Blk w B 25 #[int i64 K,int i64 H,int i64 Z])
 (f:∀x∈L,x.1<=65535/\x.2.length=Z):
 Calls prog 170 #[slice a N c,.func (.func 171) #[] #[pointer (some ⟨B,0,none⟩)]] w λg i=>g=returned (bool false)/\Below w.heap.size w i:=by
 have i:=ae (Eo B K H Z N c a F L w b d k e f);clear b d f e;go_enter func170,ntmps170;go_wp2_with fail;refine i.o.mono ?_;rintro g m ⟨rfl,j⟩;have l:=ae j;clear j i;go_wp2_with fail;go_ret;exact⟨rfl,l.o⟩
structure Hs (w:World) (g n:Nat) (F:Nat->Prop) (W:Nat->SC):Prop where
 ex:∃hs:List Value,Blk w g 30 hs.toArray/\hs.length=n/\∀c,c<n->(rB (W c)).ok w F [hs.getD c undef]
theorem Hs.new{w w':World}{g n:Nat}{F:Nat->Prop}{W:Nat->SC}(c:Hs w g n F W)(a:Below w.heap.size w w'):Hs w' g n F W:=by
 obtain⟨d,b,e,f⟩:=c.ex;exact⟨d,b.below a b.lt,e,λh i=>(rB _).new (f h i) a⟩
theorem Hs.keep{w w':World}{g n:Nat}{F G:Nat->Prop}{W:Nat->SC}(a:Hs w g n F W)(b:w'.heap[g]? =w.heap[g]?)(c:∀k,F k->k<w.heap.size->w'.heap[k]? =w.heap[k]? /\G k):Hs w' g n G W:=by
 obtain⟨d,e,f,h⟩:=a.ex;exact⟨d,b.trans e,f,λi j=>(rB _).keep (h i j) c⟩
theorem Hs.lt{w:World}{g n:Nat}{F:Nat->Prop}{W:Nat->SC}(a:Hs w g n F W):g<w.heap.size:=by
 obtain⟨c,b,_⟩:=a.ex;exact b.lt
theorem Hs.at{w:World}{g n c:Nat}{F:Nat->Prop}{W:Nat->SC}(h:Hs w g n F W)(i:c<n):
 ∃a q b,w.cell? ⟨g,c,none⟩=some (slice a q b)/\q=(W c).length/\(rB (W c)).ok w F [slice a q b]/\Rd w w.heap.size a q (bK (W c))/\(a=none->b=0)/\q<=b/\b<=maxLen/\w.frozen? ⟨g,c,none⟩=false:=by
 obtain⟨hs,e,p,j⟩:=h.ex;have d:=j c i;obtain⟨a,b,f,k,l,m,o⟩:=eU d rfl;rw[f] at d;exact⟨a,_,b,(e.cell c).trans (by rw[<-f];simpa using uC (hs:=hs) (by omega)),rfl,d,k,l,m,o,e.frozen c⟩
theorem Hs.put{w w':World}{g n c:Nat}{F:Nat->Prop}{W:Nat->SC}{u:Value}{d:SC}(h:Hs w g n F W)(i:(rB d).ok w' F [u])(j:∀b,F b->b<w.heap.size->w'.heap[b]? =w.heap[b]?)
 (k:∀hs:Array Value,Blk w g 30 hs->Blk w' g 30 (hs.setIfInBounds c u)):Hs w' g n F (jV W c d):=by
 obtain⟨hs,l,m,o⟩:=h.ex;refine⟨hs.set c u,by simpa using k _ l,by rw[length_set];exact m,λe p=> ?_⟩;by_cases a:e=c
 ·subst a
  rw[mG,af,List.getElem?_set,bu rfl,bu (by omega)];exact i
 ·rw[lm _ _ a,af,List.getElem?_set,bA (λf=>a f.symm),<-af]
  exact(rB _).keep (o e p) λq f r=>⟨j q f r,f⟩
theorem Hs.begin{w:World}{g n:Nat}{F:Nat->Prop}(a:Blk w g 30 (replicate n (Value.slice none 0 0)).toArray):Hs w g n F (λ_=>[]):=
 ⟨_,a,aJ,λc b=>by
   rw[af,List.getElem?_replicate,bu b];exact⟨none,0,0,rfl,aj _,bE _,λ_=>rfl,rfl,λa=>absurd a (Nat.lt_irrefl _)⟩⟩
structure SvSt (w:World) (g gf K H Z n:Nat) (gv gw gm:Nat) (rest vS vD vL:Value) (F:Nat->Prop) (V W M:Nat->SC):Prop where
 blk:Blk w g 292 (svC gf K H Z (slice (some ⟨gv,0,none⟩) n n) rest vS vD vL (slice (some ⟨gw,0,none⟩) n n) (slice (some ⟨gm,0,none⟩) n n))
 fld:Fld w gf
 vls:∃hs:List Value,Blk w gv 30 hs.toArray/\hs.length=n/\∀c,c<n->(rN (V c)).ok w F [hs.getD c undef]
 way:Hs w gw n F W
 mor:Hs w gm n F M
 ne:gv≠gw/\gv≠gm/\gw≠gm
 off:∀b,F b->b≠g/\b≠gv/\b≠gw/\b≠gm
def Kept2(w w':World)(b c:Nat):Prop:=Below 0 w w'/\∀a,a<w.heap.size->a≠b->a≠c->w'.heap[a]? =w.heap[a]?
theorem Kept2.refl(w:World)(a b:Nat):Kept2 w w a b:=⟨aC _ _,λ_ _ _ _=>rfl⟩
theorem Kept2.trans{w w1 d:World}{a b:Nat}(c:Kept2 w w1 a b)(e:Kept2 w1 d a b):Kept2 w d a b:=⟨c.1.trans e.1,λf g h i=>(e.2 f (aW g c.1.size) h i).trans (c.2 f g h i)⟩
theorem Kept2.below{w w':World}{b c:Nat}(a:Below w.heap.size w w'):Kept2 w w' b c:=⟨a.mono (bE _),λd e _ _=>a.block d e⟩
def iE(V:Nat->SC)(X W:Nat->SC)(k:Nat):Nat->SC:=λa=>if a<k/\V a≠[] then X a else W a
theorem xV{V X W:Nat->SC}{k:Nat}(c:V k≠[]):iE V X W (k+1)=jV (iE V X W k) k (X k):=funext λa=>by
 unfold iE jV;by_cases d:a=k
 ·subst d;rw[bu rfl,bu ⟨by omega,c⟩]
 ·rw[bA d]
  show(if a<k+1/\V a≠[] then X a else W a)=if a<k/\V a≠[] then X a else W a;by_cases b:a<k/\V a≠[]
  ·rw[bu b,bu ⟨by omega,b.2⟩]
  ·rw[bA b,bA (λc=>b ⟨by omega,c.2⟩)]
theorem SvSt.new{w w':World}{g c K H Z n d gw gm:Nat}{rest e f h:Value}{F:Nat->Prop}{V W M:Nat->SC}(a:SvSt w g c K H Z n d gw gm rest e f h F V W M)(b:Below w.heap.size w w'):SvSt w' g c K H Z n d gw gm rest e f h F V W M:=by
 obtain⟨j,i,k,l⟩:=a.vls;exact⟨a.blk.below b a.blk.lt,Blk.below (t:=337) a.fld b (Blk.lt (t:=337) a.fld),⟨j,i.below b i.lt,k,λm o=>(rN _).new (l m o) b⟩,a.way.new b,a.mor.new b,a.ne,a.off⟩
theorem SvSt.put2{w wa w':World}{g i K H Z n j gw gm k:Nat}{rest q r s u1 u2:Value}{F:Nat->Prop}{V W M:Nat->SC}{u v:SC}(b:SvSt w g i K H Z n j gw gm rest q r s F V W M)(c:Below w.heap.size w wa)
 (C:w'=(wa.setCell ⟨gw,k,none⟩ u1).setCell ⟨gm,k,none⟩ u2)(D:(rB u).ok wa F [u1])(E:(rB v).ok wa F [u2]):SvSt w' g i K H Z n j gw gm rest q r s F V (jV W k u) (jV M k v)/\Kept2 w w' gw gm:=by
 subst C;obtain⟨G,I,x⟩:=b.ne;have y:∀a,a≠gw->a≠gm->((wa.setCell ⟨gw,k,none⟩ u1).setCell ⟨gm,k,none⟩ u2).heap[a]? =wa.heap[a]? :=λa d e=>(bJ _ _ _ _ e).trans (bJ _ _ _ _ d);have h:∀a,F a->a≠gw/\a≠gm:=λa c=>⟨(b.off a c).2.2.1,(b.off a c).2.2.2⟩;have z:∀ {f l},(rB f).ok wa F [l]->(rB f).ok ((wa.setCell ⟨gw,k,none⟩ u1).setCell ⟨gm,k,none⟩ u2) F [l]:=λf=>(rB _).keep f λa c _=>⟨y a (h a c).1 (h a c).2,c⟩;have f:∀a,a<w.heap.size->a≠gw->a≠gm->((wa.setCell ⟨gw,k,none⟩ u1).setCell ⟨gm,k,none⟩ u2).heap[a]? =w.heap[a]? :=λa l d e=>(y a d e).trans (c.block a l);obtain⟨O,A,-⟩:=b.way.ex;obtain⟨P,B,-⟩:=b.mor.ex;have l:∀a,F a->a<w.heap.size->((wa.setCell ⟨gw,k,none⟩ u1).setCell ⟨gm,k,none⟩ u2).heap[a]? =w.heap[a]? :=λa c m=>f a m (h a c).1 (h a c).2;refine⟨⟨?_,?_,?_,?_,?_,b.ne,b.off⟩,?_,f⟩
 ·exact(f g b.blk.lt (Blk.ne b.blk A (by decide)) (Blk.ne b.blk B (by decide))).trans b.blk
 ·exact(f i (Blk.lt (t:=337) b.fld) (Blk.ne (t:=337) b.fld A (by decide)) (Blk.ne (t:=337) b.fld B (by decide))).trans b.fld
 ·obtain⟨o,d,e,J⟩:=b.vls
  exact⟨o,(f j d.lt G I).trans d,e,λL N=>(rN _).keep (J L N) λa c m=>⟨l a c m,c⟩⟩
 ·exact b.way.put (z D) l λo a=>Blk.far (p:=⟨gm,k,none⟩) (Blk.set (a.below c a.lt) k u1) x _
 ·exact b.mor.put (z E) l λo a=>Blk.set (Blk.far (p:=⟨gw,k,none⟩) (a.below c a.lt) (λa=>x a.symm) _) k u2
 ·exact((c.mono (bE _)).setCell (bE _) _).setCell (bE _) _
theorem Oa(g o K H Z n l gw gm D q:Nat)(r:SE)(rest s t:Value)(F:Nat->Prop)(V W M:Nat->SC)(w:World)(e:SvSt w g o K H Z n l gw gm rest s (slice r D q) t F V W M)(hn:n<=1000)(hD:D<=1000)(L:∀b,w.heap.size<=b->F b):
 Calls prog 236 #[pointer (some ⟨g,0,none⟩)] w λk c=>k=returned (.tuple #[])/\SvSt c g o K H Z n l gw gm rest s (slice r D q) t F V (iE V (λ_=>replicate D 0) W n) (iE V V M n)/\Kept2 w c gw gm:=by
 have N:Sz (SvSt w g o K H Z n l gw gm rest s (slice r D q) t F V (iE V (λ_=>replicate D 0) W 0) (iE V V M 0)/\Kept2 w w gw gm):=ae ⟨by
  have x:iE V (λ_=>replicate D 0) W 0=W:=funext λf=>bA (λh=>absurd h.1 (Nat.not_lt_zero f));have e2:iE V V M 0=M:=funext λf=>bA (λh=>absurd h.1 (Nat.not_lt_zero f));rw[x,e2];exact e,Kept2.refl _ _ _⟩
 have c:=e.blk.cell 4;have ag:∀w:World,(Instr.makeSlice 30 (int i64 (D:Int)) (int i64 (D:Int))).run prog w=.ok (slice (some ⟨w.heap.size,0,none⟩) D D) (w.alloc (cells (bO (replicate D 0)) 5)):=λw=>eQ (n:=D) (by omega) w;have HF:=ae L;clear e L;go_enter func236,ntmps236;unfold svC at c;go_wp2_with fail;clear c;go_loopw [9] (λd wr=>∃c:Nat,c<=n/\d=int i64 c/\Sz (SvSt wr g o K H Z n l gw gm rest s (slice r D q) t F V (iE V (λ_=>replicate D 0) W c) (iE V V M c)/\Kept2 w wr gw gm)) (λd _=>n-(intOf d).toNat)
 case atStart=>exact⟨0,by omega,rfl,N⟩
 case round=>
  clear N;obtain⟨c,ap,rfl,z⟩:=hrel;obtain⟨e,u⟩:=z.o;by_cases A:c<n
  ·have aq:(c:Int)<(n:Int):=by omega
   obtain⟨ai,B,O,C⟩:=e.vls;have v:=C c A;obtain⟨a,f,k,Q,R,S,T,E,G⟩:=NI v;have cv:wr.cell? ⟨l,c,none⟩=some (slice a (V c).length f):=(B.cell c).trans (by rw[<-k];simpa using uC (hs:=ai) (by omega));by_cases j:V c=[]
   ·obtain⟨rfl,rfl⟩:=E j
    have i:(V c).length=0:=(by rw[j];rfl);rw[i] at cv
    have y:Sz (SvSt wr g o K H Z n l gw gm rest s (slice r D q) t F V (iE V (λ_=>replicate D 0) W (c+1)) (iE V V M (c+1))/\Kept2 w wr gw gm):=ae ⟨by
     have x:∀d W:Nat->SC,iE V d W (c+1)=iE V d W c:=λd W=>funext λf=>by
      unfold iE;by_cases J:f=c
      ·subst J;rw[bA (λh=>h.2 j),bA (λh=>h.2 j)]
      ·by_cases m:f<c/\V f≠[]
       ·rw[bu m,bu ⟨by omega,m.2⟩]
       ·rw[bA m,bA (λh=>m ⟨by omega,h.2⟩)]
     rw[x,x];exact e,u⟩
    clear e u B O C v Q R S T E G k z j i;have I:=λW a d f=>run_neq_slice_nil (P:=prog) W 30 5 a d f underlying30
    go_wp2_with (simp only[I])
    go_roundw
    case rel=>exact⟨c+1,by omega,by go_num,y⟩
    case measure=>simp[intOf];omega
   ·obtain⟨p,rfl⟩:∃p,a=some p:=by
     cases a with
     | none=>exact absurd rfl (G j)
     | some p=>exact⟨p,rfl⟩
    have I:=λW a d f=>run_neq_slice_nil (P:=prog) W 30 5 a d f underlying30;obtain⟨U,X,Y,cw,-,-,-,-,-,-,fw⟩:=e.way.at A;obtain⟨am,qm,dm,cm,-,-,-,-,-,-,aa⟩:=e.mor.at A;have p9:=e.blk.cell 9;have ak:=e.blk.cell 10;have p7:=e.blk.cell 7;unfold svC at p9 ak p7;have d:=ae e;have HK:=ae u;have HV:=ae j;have HR:=ae v
    have al:Sz ((rB (V c)).ok (wr.alloc (cells (bO (replicate D 0)) 5)) F [slice (some p) (V c).length f]):=ae (by
     have y:=v;rw[k] at y;unfold rN at y;rw[bA j] at y;exact(rB _).new y ((aC wr.heap.size wr).alloc (aj _) _))
    obtain⟨n1,n2,n3⟩:=e.ne;have ar:¬gw=gm:=n3;have au:¬gm=gw:=λk=>n3 k.symm;clear e u j B O C v Q R S T E G k z;generalize (V c).length=an at*;have i:∀J,Below wr.heap.size wr ((wr.alloc (cells (bO (replicate D 0)) 5)).drewN J):=λJ=>below_drewN ((aC wr.heap.size wr).alloc (aj _) _) J;have av:(wr.alloc (cells (bO (replicate D 0)) 5)).drew.frozen? ⟨gw,c,none⟩=false:=(World.frozen?_of_block (w:=wr) (a:=⟨gw,c,none⟩) ((i 1).block gw d.o.way.lt)).trans fw;have ax:(wr.alloc (cells (bO (replicate D 0)) 5)).drew.frozen? ⟨gm,c,none⟩=false:=(World.frozen?_of_block (w:=wr) (a:=⟨gm,c,none⟩) ((i 1).block gm d.o.mor.lt)).trans aa;have ay:(wr.alloc (cells (bO (replicate D 0)) 5)).drew.cell? ⟨gw,c,none⟩=some (slice U X Y):=((i 1).cell (p:=⟨gw,c,none⟩) d.o.way.lt).trans cw;have az:(wr.alloc (cells (bO (replicate D 0)) 5)).drew.cell? ⟨gm,c,none⟩=some (slice am qm dm):=((i 1).cell (p:=⟨gm,c,none⟩) d.o.mor.lt).trans cm;have aA:(wr.alloc (cells (bO (replicate D 0)) 5)).frozen? ⟨gw,c,none⟩=false:=(World.frozen?_of_block (w:=wr) (a:=⟨gw,c,none⟩) ((i 0).block gw d.o.way.lt)).trans fw;have aB:(wr.alloc (cells (bO (replicate D 0)) 5)).frozen? ⟨gm,c,none⟩=false:=(World.frozen?_of_block (w:=wr) (a:=⟨gm,c,none⟩) ((i 0).block gm d.o.mor.lt)).trans aa;have aE:(wr.alloc (cells (bO (replicate D 0)) 5)).cell? ⟨gw,c,none⟩=some (slice U X Y):=((i 0).cell (p:=⟨gw,c,none⟩) d.o.way.lt).trans cw;have aF:(wr.alloc (cells (bO (replicate D 0)) 5)).cell? ⟨gm,c,none⟩=some (slice am qm dm):=((i 0).cell (p:=⟨gm,c,none⟩) d.o.mor.lt).trans cm;have J:=((d.o.blk.below (i 1) d.o.blk.lt).cell 9);have ab:=((d.o.blk.below (i 1) d.o.blk.lt).cell 10);have ac:=((d.o.blk.below (i 0) d.o.blk.lt).cell 9);have ad:=((d.o.blk.below (i 0) d.o.blk.lt).cell 10);unfold svC at J ab ac ad;change (wr.alloc (cells (bO (replicate D 0)) 5)).drew.cell? _=_ at J ab;change (wr.alloc (cells (bO (replicate D 0)) 5)).cell? _=_ at ac ad;have ao:=ae i;clear i;go_upto_region 4 with(simp only[I]);go_region_law (simp only[ag])
    all_goals(
     go_wp2_with fail;refine⟨⟨c+1,by omega,by go_num,ae ?_⟩,by simp[intOf];omega⟩
     have i:(rB (replicate D 0)).ok (wr.alloc (cells (bO (replicate D 0)) 5)) F [slice (some ⟨wr.heap.size,0,none⟩) D D]:=by
      have h:=oh (F:=F) (Blk.new wr 5 (bO (replicate D 0))) (HF.o _ HK.o.1.size) (by rw[aJ];unfold maxLen;omega)
      rwa [aJ] at h
     have hv:(rB (V c)).ok (wr.alloc (cells (bO (replicate D 0)) 5)) F [slice (some p) an f]:=al.o;obtain⟨h1,m⟩:=SvSt.put2 (wa:=wr.alloc (cells (bO (replicate D 0)) 5)) d.o (ao.o 0) rfl i hv;rw[xV HV.o,xV HV.o];exact⟨h1.new (below_drewN (aC _ _) 1),HK.o.trans (m.trans (Kept2.below (below_drewN (aC _ _) 1)))⟩)
  ·obtain rfl:c=n:=by omega
   go_wp2_with fail
   go_end0
   exact⟨rfl,e,u⟩
theorem Fx{c:Nat}{a b:SC}(d:a.length=b.length):nJ c a b=xr b (lM c a):=by
 have e:b.length=(lM c a).length:=by rw[sK,d]
 refine ext_get (by rw[iQ d,kH e]) λf=> ?_;rw[oM d,nH e,jZ]
def gF(f:Nat->SC)(De:SC):Nat->Nat->SC
 | 0=>λ_=>[]
 | k+1=>jV (gF f De k) (De.getD k 0) (f k)
theorem Fy{l:SC}(b:l.Nodup){i j:Nat}(c:i<j)(a:j<l.length):l.getD i 0≠l.getD j 0:=by
 rw[af,af,ah (by omega),ah a];exact(pairwise_iff_getElem.1 b) i j (by omega) a c
theorem GH{f:Nat->SC}{De:SC}(a:De.Nodup):∀k,k<=De.length->∀i,i<k->gF f De k (De.getD i 0)=f i:=by
 intro k
 induction k with
 | zero=>intro _ i b;omega
 | succ k c=>
   intro e i b;show jV (gF f De k) (De.getD k 0) (f k) (De.getD i 0)=f i;by_cases d:i=k
   ·subst d;exact mG _ _ _
   ·rw[lm _ _ (Fy a (by omega) (by omega))]
    exact c (by omega) i (by omega)
theorem Di{D:Nat}{l:List SC}{St:List (Nat×Nat)}{De:SC}
 (P:∀(k r c:Nat),St[k]? =some (r,c)->r<l.length/\c∈l.getD r []/\∀b∈l.getD r [],b≠c->b∈De\/∃d g,d<k/\St[d]? =some (g,b)){W0 z:Nat->SC}(o:∀r,r<l.length->Byt D (z r))(p:∀c∈De,Byt D (W0 c)):
 ∀k,k<=St.length->∀c,c∈De\/c∈(St.take k).map Prod.snd->Byt D (dM l z W0 (St.take k) c):=by
 intro k
 induction k with
 | zero=>
   intro _ c a;rcases a with a | a
   ·exact p c a
   ·simp at a
 | succ k e=>
   intro B c a;have j:k<St.length:=(by omega);obtain⟨r,b,m⟩:∃r b,St[k]=(r,b):=⟨_,_,rfl⟩;have q:St[k]? =some (r,b):=(by rw[ah j,m]);have n:St.take (k+1)=St.take k++[(r,b)]:=(by rw[aO j,m]);obtain⟨s,C,t⟩:=P k r b q;have e:=e (by omega);rw[n,lQ];by_cases h:c=b
   ·subst h
    rw[mG];refine dU (o r s) λf u=>e f ?_;obtain⟨v,w⟩:=mem_filter.1 u;have u:f≠c:=(by simpa using w);rcases t f v u with x | ⟨d,g,y,A⟩
    ·exact .inl x
    ·right
     refine aZ.2 ⟨(g,f),?_,rfl⟩;refine mem_of_getElem? (i:=d) ?_;rw[List.getElem?_take,bu y];exact A
   ·rw[lm _ _ h]
    refine e c ?_;rcases a with a | a
    ·exact .inl a
    ·right
     rw[n,aU] at a;rcases bF.1 a with a | a
     ·exact a
     ·exact absurd (by simpa using a) h
theorem Dj{cols:SC}{j x:Nat}(b:j<cols.length):(cols.take (j+1)).filter (λa=> !(a == x))=(cols.take j).filter (λa=> !(a == x))++if cols.getD j 0=x then [] else [cols.getD j 0]:=by
 have c:cols.getD j 0=cols[j]:=by rw[af,ah b];rfl
 rw[aO b,filter_append,c];congr 1;by_cases a:cols[j]=x
 ·rw[bu a];simp[a]
 ·rw[bA a];simp[a]
theorem zq(m:Nat->SC)(L:SC)(c:Nat)(z:SC):bZ m (L++[c]) z=xr (bZ m L z) (m c):=by unfold bZ;rw[foldl_append];rfl
theorem SvSt.putG{w w':World}{g e K H Z n f gw gm k:Nat}{rest j l m u1 u2:Value}{F:Nat->Prop}{V W M:Nat->SC}{o p:SC}(a:SvSt w g e K H Z n f gw gm rest j l m F V W M)(v:Below 0 w w')
 (d:∀b,b<w.heap.size->b≠gw->b≠gm->w'.heap[b]? =w.heap[b]?)(x:∀hs:Array Value,Blk w gw 30 hs->Blk w' gw 30 (hs.setIfInBounds k u1))(y:∀hs:Array Value,Blk w gm 30 hs->Blk w' gm 30 (hs.setIfInBounds k u2))
 (z:(rB o).ok w' F [u1])(A:(rB p).ok w' F [u2]):SvSt w' g e K H Z n f gw gm rest j l m F V (jV W k o) (jV M k p)/\Kept2 w w' gw gm:=by
 obtain⟨B,C,J⟩:=a.ne;have q:∀b,F b->b≠gw/\b≠gm:=λb c=>⟨(a.off b c).2.2.1,(a.off b c).2.2.2⟩;obtain⟨L,r,-⟩:=a.way.ex;obtain⟨N,s,-⟩:=a.mor.ex;have h:∀b,F b->b<w.heap.size->w'.heap[b]? =w.heap[b]? :=λb c i=>d b i (q b c).1 (q b c).2;refine⟨⟨?_,?_,?_,?_,?_,a.ne,a.off⟩,v,d⟩
 ·exact(d g a.blk.lt (Blk.ne a.blk r (by decide)) (Blk.ne a.blk s (by decide))).trans a.blk
 ·exact(d e (Blk.lt (t:=337) a.fld) (Blk.ne (t:=337) a.fld r (by decide)) (Blk.ne (t:=337) a.fld s (by decide))).trans a.fld
 ·obtain⟨hs,u,D,E⟩:=a.vls
  exact⟨hs,(d f u.lt B C).trans u,D,λG I=>(rN _).keep (E G I) λb c i=>⟨h b c i,c⟩⟩
 ·exact a.way.put z h λhs c=>x hs c
 ·exact a.mor.put A h λhs c=>y hs c
theorem LH{w:World}{C:Nat}{v:Value}{ys:List (Nat×Nat)}(h:OwnT w C v ys):(rS 2 (ys.map iY)).ok w (Fr C) [v]:=by
 obtain⟨i,j,rfl,k,l,m,u,n⟩:=dH h;refine⟨i,ys.length,j,rfl,l,m,k,by rw[aG],jv ys,jI ys,λo=> ?_,λc x d=> ?_⟩
 ·obtain⟨b,e,a,⟨f,_⟩,_,g⟩:=n o
  exact⟨b,e,a,f,g⟩
 ·rw[List.getElem?_map] at d
  obtain⟨b,e,rfl⟩:=Option.map_eq_some_iff.1 d;have p:=(List.getElem?_eq_some_iff.1 e).1;have ex:ys.getD c (0,0)=b:=(by rw[af,e];rfl);obtain⟨f,g⟩:=qa p;rw[ex] at f g;have y:=jI ys;obtain⟨q,r⟩:=List.getElem?_eq_some_iff.1 f;obtain⟨s,a⟩:=List.getElem?_eq_some_iff.1 g
  have t:((jv ys).drop (c*2)).take 2=[int i64 (b.1:Nat)]++[int i64 (b.2:Nat)]:=by
   rw[drop_eq_getElem_cons q,drop_eq_getElem_cons s,r,a];rfl
  rw[t];exact qj (wZ rfl) (wZ rfl)
theorem LJ{L:List (Nat×Nat)}{w:World}{F:Nat->Prop}{a:SE}{n c i:Nat}(e:(rS 2 (L.map iY)).ok w F [slice a n c])(u:L.length=n)(f:i<n):
 ∃b o,a=some ⟨b,o,none⟩/\F b/\b<w.heap.size/\w.cell? ⟨b,o+i*2,none⟩=some (int i64 ((L.getD i (0,0)).1:Nat))/\w.cell? ⟨b,o+i*2+1,none⟩=some (int i64 ((L.getD i (0,0)).2:Nat)):=by
 have g:i<L.length:=by omega
 have h:(L.map iY)[i]? =some (iY (L.getD i (0,0))):=by rw[List.getElem?_map,af,ah g];rfl
 obtain⟨b,o,v,rfl,j,k,l,x,d⟩:=su e (by decide) f h;obtain⟨m,p,rfl,q,r⟩:=l;have s:m=[int i64 ((L.getD i (0,0)).1:Nat)]:=q.1;have t:p=[int i64 ((L.getD i (0,0)).2:Nat)]:=r.1;subst s t;exact⟨b,o,rfl,j,k,d 0 _ rfl,d 1 _ rfl⟩
theorem rY(w:World)(X Y:Array Value)(tX tY:TypeId):Blk ((w.alloc (.cells X tX)).alloc (.cells Y tY)) w.heap.size tX X/\Blk ((w.alloc (.cells X tX)).alloc (.cells Y tY)) (w.heap.size+1) tY Y/\Below w.heap.size w ((w.alloc (.cells X tX)).alloc (.cells Y tY)):=by
 have a:(w.alloc (.cells X tX)).heap.size=w.heap.size+1:=by simp
 have e:=(aC w.heap.size w).alloc (aj _) (.cells X tX);have b:=(aC (w.alloc (.cells X tX)).heap.size (w.alloc (.cells X tX))).alloc (aj _) (.cells Y tY);have c:=Blk.new w tX X;have d:=Blk.new (w.alloc (.cells X tX)) tY Y;have f:=c.below b c.lt;rw[a] at d;exact⟨f,d,e.trans (b.mono (by rw[a];omega))⟩
theorem SvSt.begin{w w':World}{g e K H Z n a gw gm:Nat}{rest f h i r s:Value}{F:Nat->Prop}{V:Nat->SC}
 (j:Blk w g 292 (svC e K H Z (slice (some ⟨a,0,none⟩) n n) rest f h i r s))(k:Fld w e)
 (u:∃hs:List Value,Blk w a 30 hs.toArray/\hs.length=n/\∀c,c<n->(rN (V c)).ok w F [hs.getD c undef])(q:∀b,F b->b≠g/\b≠a){l:Nat}
 (v:Blk w' g 292 (svC e K H Z (slice (some ⟨a,0,none⟩) n n) rest f h i (slice (some ⟨gw,0,none⟩) n n) (slice (some ⟨gm,0,none⟩) n n)))
 (x:Blk w' gw 30 (replicate n (Value.slice none 0 0)).toArray)(y:Blk w' gm 30 (replicate n (Value.slice none 0 0)).toArray)(m:∀b,b<w.heap.size->b≠g->w'.heap[b]? =w.heap[b]?)
 (G:w.heap.size<=gw/\gw<l)(I:w.heap.size<=gm/\gm<l)(z:gw≠gm):
 SvSt w' g e K H Z n a gw gm rest f h i (λb=>(F b/\b<w.heap.size)\/l<=b) V (λ_=>[]) (λ_=>[]):=by
 obtain⟨hs,o,A,B⟩:=u;have J:g<w.heap.size:=j.lt;have C:a<w.heap.size:=o.lt;have D:e≠g:=Blk.ne (t:=337) k j (by decide);have E:a≠g:=Blk.ne o j (by decide);refine⟨v,(m e (Blk.lt (t:=337) k) D).trans k,⟨hs,(m a C E).trans o,A,λc d=>(rN _).keep (B c d) λb d p=>⟨m b p (q b d).1,.inl ⟨d,p⟩⟩⟩,Hs.begin x,Hs.begin y,⟨by omega,by omega,z⟩,λb d=> ?_⟩;rcases d with⟨d,p⟩ | d
 ·have:=q b d
  exact⟨this.1,this.2,by omega,by omega⟩
 ·exact⟨by omega,by omega,by omega,by omega⟩
theorem SvSt.begin2{w:World}{g e K H Z n a gw gm:Nat}{rest h i j u v:Value}{F:Nat->Prop}{V:Nat->SC}{d:Array Value}(q:(replicate n (Value.slice none 0 0)).toArray=d)
 (k:Blk w g 292 (svC e K H Z (slice (some ⟨a,0,none⟩) n n) rest h i j u v))(x:Fld w e)
 (y:∃hs:List Value,Blk w a 30 hs.toArray/\hs.length=n/\∀c,c<n->(rN (V c)).ok w F [hs.getD c undef])(z:∀b,F b->b≠g/\b≠a)
 (r:gw=w.heap.size/\gm=w.heap.size+1\/gw=w.heap.size+1/\gm=w.heap.size){w':World}(l:w'=(((w.setCell ⟨g,9,none⟩ (slice (some ⟨gw,0,none⟩) n n)).setCell ⟨g,10,none⟩ (slice (some ⟨gm,0,none⟩) n n)).alloc (.cells d 30)).alloc (.cells d 30)):
 (w.heap.size<=gw/\w.heap.size<=gm)/\SvSt w' g e K H Z n a gw gm rest h i j (λb=>(F b/\b<w.heap.size)\/w.heap.size+2<=b) V (λ_=>[]) (λ_=>[])/\w'.heap.size=w.heap.size+2/\(∀b,b<w.heap.size->b≠g->w'.heap[b]? =w.heap[b]?)/\Below 0 w w':=by
 have A:Below 0 w w':=by rw[l];exact((((aC 0 w).setCell (bE _) _).setCell (bE _) _).alloc (bE _) _).alloc (bE _) _
 have s:((w.setCell ⟨g,9,none⟩ (slice (some ⟨gw,0,none⟩) n n)).setCell ⟨g,10,none⟩ (slice (some ⟨gm,0,none⟩) n n)).heap.size=w.heap.size:=by simp
 have B:Blk ((w.setCell ⟨g,9,none⟩ (slice (some ⟨gw,0,none⟩) n n)).setCell ⟨g,10,none⟩ (slice (some ⟨gm,0,none⟩) n n)) g 292 (svC e K H Z (slice (some ⟨a,0,none⟩) n n) rest h i j (slice (some ⟨gw,0,none⟩) n n) (slice (some ⟨gm,0,none⟩) n n)):=(k.set 9 _).set 10 _;have C:∀b,b≠g->((w.setCell ⟨g,9,none⟩ (slice (some ⟨gw,0,none⟩) n n)).setCell ⟨g,10,none⟩ (slice (some ⟨gm,0,none⟩) n n)).heap[b]? =w.heap[b]? :=λb f=>(bJ _ _ _ _ f).trans (bJ _ _ _ _ f);generalize (w.setCell ⟨g,9,none⟩ (slice (some ⟨gw,0,none⟩) n n)).setCell ⟨g,10,none⟩ (slice (some ⟨gm,0,none⟩) n n)=D at*;obtain⟨m,o,p⟩:=rY D d d 30 30;have E:w'.heap.size=w.heap.size+2:=by rw[l];simp[s]
 rw[<-l,s] at m o p;have t:∀b,b<w.heap.size->b≠g->w'.heap[b]? =w.heap[b]? :=λb f G=>(p.block b f).trans (C b G);refine⟨by omega,SvSt.begin k x y z (B.below p k.lt) ?_ ?_ t (by omega) (by omega) (by omega),E,t,A⟩
 ·rw[q]
  rcases r with⟨rfl,rfl⟩ | ⟨rfl,rfl⟩
  ·exact m
  ·exact o
 ·rw[q]
  rcases r with⟨rfl,rfl⟩ | ⟨rfl,rfl⟩
  ·exact o
  ·exact m
theorem wN{a w':World}{gw gm c:Nat}{u1 u2:Value}{X Y:Array Value}{tX tY:TypeId}(l:gw<a.heap.size)(m:gm<a.heap.size)(h:gw≠gm)(i:w'=(((a.setCell ⟨gw,c,none⟩ u1).setCell ⟨gm,c,none⟩ u2).alloc (.cells X tX)).alloc (.cells Y tY)):
 Blk w' a.heap.size tX X/\Blk w' (a.heap.size+1) tY Y/\Below 0 a w'/\(∀b,b<a.heap.size->b≠gw->b≠gm->w'.heap[b]? =a.heap[b]?)/\
 (∀hs:Array Value,Blk a gw 30 hs->Blk w' gw 30 (hs.setIfInBounds c u1))/\(∀hs:Array Value,Blk a gm 30 hs->Blk w' gm 30 (hs.setIfInBounds c u2)):=by
 have n:((a.setCell ⟨gw,c,none⟩ u1).setCell ⟨gm,c,none⟩ u2).heap.size=a.heap.size:=by simp
 have o:Below 0 a w':=by rw[i];exact((((aC 0 a).setCell (bE _) _).setCell (bE _) _).alloc (bE _) _).alloc (bE _) _
 have q:∀b,b≠gw->b≠gm->((a.setCell ⟨gw,c,none⟩ u1).setCell ⟨gm,c,none⟩ u2).heap[b]? =a.heap[b]? :=λb f g=>(bJ _ _ _ _ g).trans (bJ _ _ _ _ f);have f:∀hs:Array Value,Blk a gw 30 hs->Blk ((a.setCell ⟨gw,c,none⟩ u1).setCell ⟨gm,c,none⟩ u2) gw 30 (hs.setIfInBounds c u1):=λhs d=>Blk.far (p:=⟨gm,c,none⟩) (Blk.set d c u1) h _;have g:∀hs:Array Value,Blk a gm 30 hs->Blk ((a.setCell ⟨gw,c,none⟩ u1).setCell ⟨gm,c,none⟩ u2) gm 30 (hs.setIfInBounds c u2):=λhs d=>Blk.set (Blk.far (p:=⟨gw,c,none⟩) d (λe=>h e.symm) _) c u2;generalize (a.setCell ⟨gw,c,none⟩ u1).setCell ⟨gm,c,none⟩ u2=r at*;obtain⟨j,k,e⟩:=rY r X Y tX tY;rw[<-i,n] at j k e;exact⟨j,k,o,λb s t u=>(e.block b s).trans (q b t u),λhs d=>(f hs d).below e l,λhs d=>(g hs d).below e m⟩
def AO(K H Z:Nat)(s:Int)(L:List (Nat×SC)):List (SC×SC):=L.map λa=>(iO K H Z s (a.1:Nat),a.2)
theorem zt{n Z:Nat}{m:Nat->SC}{kn:List Bool}{vl:List SC}(e:ConsP n m kn vl)(g:∀c,c<n->(m c).length=Z)(i:1<=Z)(X W:Nat->SC){c:Nat}(a:c<n):
 iE (λc=>vl.getD c []) X W n c=AZ (λc=>kn.getD c false) W X c:=by
 unfold iE AZ;cases hk:kn.getD c false with
 | true=>
   have b:=(e c a).1 hk;have d:=g c a
   rw[bu ⟨a,λh=>by
    have f:vl.getD c []=[]:=h;rw[b] at f;rw[f] at d;simp at d;omega⟩,bu (show(λc=>kn.getD c false) c=true from hk)]
 | false=>
   have b:=(e c a).2 hk;rw[bA (λd=>d.2 b),bA (λd:(λc=>kn.getD c false) c=true=>absurd (hk.symm.trans d) (by decide))]
theorem NF{n Z:Nat}{m:Nat->SC}{kn:List Bool}{L:List (SC×SC)}(f:xO n Z m L)(g:∀x∈L,x.1.Nodup){r:Nat}(b:r<(gV kn m Z L).length):
 ∃x∈L,(gV kn m Z L).getD r ([],[])=xW kn m Z x:=by
 have a:(gV kn m Z L).getD r ([],[])∈gV kn m Z L:=by rw[af,ah b];exact aQ _
 unfold gV at a;obtain⟨c,_⟩:=mem_filter.1 a;obtain⟨x,d,e⟩:=aZ.1 c;exact⟨x,d,e.symm⟩
theorem fH(l:List (SC×SC))(r:Nat):(l.map Prod.fst).getD r []=(l.getD r ([],[])).1:=by
 rw[af,af,List.getElem?_map];cases l[r]? <;> rfl
theorem J2{K H:Nat}{row:SC}(d:row∈dD K H H):∃i,i<H/\row=lI (K+H) (K+i) i K:=by
 obtain⟨i,b,rfl⟩:=bH d;have a:=b;rw[eO] at a;have c:=vP K H H a;rw[af,ah b] at c;exact⟨i,a,c⟩
theorem Dk(a b:Nat):decide (a<b)= !decide (b<=a):=by
 rcases bD a b with c | c
 ·rw[bq c,decide_eq_false (by omega)];rfl
 ·rw[decide_eq_false (by omega),bq c];rfl
def uX(K H D:Nat)(R:List SC)(W:Nat->SC)(Le:SC):List SC:=Le.map (λa=>bZ W (R.getD a []) (replicate D 0))++(dD K H H).map λa=>dW W a (replicate D 0) (K+H)
def yC(K H Z:Nat)(R:List SC)(z M:Nat->SC)(Le:SC):List SC:=Le.map (λa=>bZ M (R.getD a []) (z a))++(dD K H H).map λa=>dW M a (replicate Z 0) (K+H)
theorem Qk{K H Z:Nat}{s:Int}{e:List SC}{L:List (Nat×SC)}{kn:List Bool}{vl:List SC}{Q:List (Nat×Nat)}{De R:SC}{rest:List (SC×SC)}
 (u:fQ K H Z=true)(hm:MidOK K H Z s e)(hL:∀x∈L,x.1<=65535/\x.2=iM K H Z s e x.1)
 (h:ConsP (K+H) (λc=>e.getD c []) kn vl)(g:rest=gV kn (λc=>e.getD c []) Z (AO K H Z s L))
 (hP:qE (K+H) (rest.map Prod.fst++dF (K+H) λc=>kn.getD c false) Q De R)(hf:ek K H Z s (L.map Prod.fst)=true)
 (D:Nat)(S:De.length=D)(W M V z:Nat->SC)(St:List (Nat×Nat))(Le:SC)(ao:St=Q.filter λs=> !decide (rest.length<=s.1))(ap:Le=R.filter λi=> !decide (rest.length<=i))
 (T:V=λc=>vl.getD c [])(hz:z=λr=>(rest.getD r ([],[])).2)
 (hW:W=iE V (λ_=>replicate D 0) (dM (rest.map Prod.fst) (λ_=>replicate D 0) (gF (eH D) De D) St) (K+H))
 (hM:M=iE V V (dM (rest.map Prod.fst) z (gF (λ_=>replicate Z 0) De D) St) (K+H)):
 (∀(k r c:Nat),St[k]? =some (r,c)->r<(rest.map Prod.fst).length/\c∈(rest.map Prod.fst).getD r []/\∀a∈(rest.map Prod.fst).getD r [],a≠c->a∈De\/∃d j,d<k/\St[d]? =some (j,a))/\
 (∀c∈De,c<K+H)/\De.Nodup/\(∀i∈Le,i<rest.length)/\(∀r,∀c∈(rest.map Prod.fst).getD r [],c<K+H)/\(∀r,r<rest.length->Byt Z (z r))/\
 (∀c,c<K+H->Byt D (W c)/\Byt Z (M c))/\
 (0<D->kP D (uX K H D (rest.map Prod.fst) W Le) (yC K H Z (rest.map Prod.fst) z M Le)=0/\kQ D (uX K H D (rest.map Prod.fst) W Le) (yC K H Z (rest.map Prod.fst) z M Le)=De.map λc=>e.getD c [])/\
 (D=0->∀b∈yC K H Z (rest.map Prod.fst) z M Le,b=replicate Z 0)/\
 ∀c,c<K+H->V c=[]->dW (λi=>(De.map λc=>e.getD c []).getD i []) (W c) (M c) D=e.getD c []:=by
 have aA:=bn u;have hZ:1<=Z:=by omega
 have q:∀c,c<K+H->Byt Z (e.getD c []):=λc a=>hm.row a
 have U:xO (K+H) Z (λc=>e.getD c []) (AO K H Z s L):=by
  intro x l;obtain⟨y,hy,rfl⟩:=aZ.1 l;obtain⟨J,X⟩:=lG (s:=s) (id:=(y.1:Nat)) u;refine⟨?_,J,(hL y hy).2⟩;have:=jT (nZ X) J;show(iO K H Z s (y.1:Nat)).length<=64;omega
 have ac:∀x∈AO K H Z s L,x.1.Nodup:=by
  intro x l;obtain⟨y,hy,rfl⟩:=aZ.1 l;exact nZ (lG (s:=s) (id:=(y.1:Nat)) u).2
 have A:∀r,r<rest.length->∃x∈AO K H Z s L,rest.getD r ([],[])=xW kn (λc=>e.getD c []) Z x:=by
  subst g;exact λr a=>NF U ac a
 have ad:∀r,((rest.map Prod.fst).getD r []).Nodup:=λr=>by
  rw[fH];rcases bD r rest.length with a | a
  ·obtain⟨x,l,o⟩:=A r a
   rw[o];exact(ac x l).filter _
  ·rw[af,List.getElem?_eq_none a];exact nodup_nil
 have v:∀r,∀c∈(rest.map Prod.fst).getD r [],c<K+H/\kn.getD c false=false:=λr c a=>by
  rw[fH] at a;rcases bD r rest.length with B | B
  ·obtain⟨x,l,o⟩:=A r B
   rw[o] at a;obtain⟨n,d⟩:=mem_filter.1 a;exact⟨(U x l).2.1 c n,by simpa using d⟩
  ·rw[af,List.getElem?_eq_none B] at a;simp at a
 have w:∀r,r<rest.length->Byt Z (z r)/\∀d,sX (λc d=>(e.getD c []).getD d 0) d ((rest.map Prod.fst).getD r [])=(z r).getD d 0:=λr a=>by
  obtain⟨x,l,o⟩:=A r a;have N:∀c∈eu kn x.1,c<K+H:=λc h=>(U x l).2.1 c (mem_filter.1 h).1;have aq:z r=(rest.getD r ([],[])).2:=(by rw[hz]);rw[fH,aq,o];refine⟨dU (Byt.zero Z) λc h=>q c (N c h),λd=> ?_⟩;show sX (λc d=>(e.getD c []).getD d 0) d (eu kn x.1)=(bZ (λc=>e.getD c []) (eu kn x.1) (replicate Z 0)).getD d 0;rw[jM d aJ λc h=>(q c (N c h)).1,sV,Nat.zero_xor]
 have O:(rest.map Prod.fst).length=rest.length:=aG _;have p:=GZ hP v;rw[O] at p;have e1:(Q.filter λs=>decide (s.1<rest.length))=St:=by rw[ao];exact filter_congr λs _=>Dk _ _
 have e2:(R.filter λi=>decide (i<rest.length))=Le:=by rw[ap];exact filter_congr λi _=>Dk _ _
 rw[e1,e2] at p;have Y:De.Nodup:=(nodup_append.1 p.cols).2.1
 have hg:∀i,i<D->gF (eH D) De D (De.getD i 0)=eH D i/\gF (λ_=>replicate Z 0) De D (De.getD i 0)=replicate Z 0:=λi j=>
  ⟨GH Y D (by omega) i j,GH (f:=λ_=>replicate Z 0) Y D (by omega) i j⟩
 have ar:∀c,c<K+H->kn.getD c false=true->V c=e.getD c []:=λc B n=>by rw[T];exact(h c B).1 n
 have ag:∀c,c<K+H->W c=AZ (λc=>kn.getD c false) (dM (rest.map Prod.fst) (λ_=>replicate D 0) (gF (eH D) De D) St) (λ_=>replicate D 0) c:=λc a=>by
  rw[hW,T];exact zt h (λc a=>(q c a).1) hZ _ _ a
 have au:∀c,c<K+H->M c=AZ (λc=>kn.getD c false) (dM (rest.map Prod.fst) z (gF (λ_=>replicate Z 0) De D) St) V c:=λc a=>by
  rw[hM,T];exact zt h (λc a=>(q c a).1) hZ _ _ a
 obtain⟨t,C⟩:∃t,t=De.map λc=>e.getD c []:=⟨_,rfl⟩;have G:=Ke (Z:=Z) p S ad (m:=λc=>e.getD c []) q (z:=z) (vl:=V) (λr a=>w r (by rwa [O] at a)) ar hg C
 have n:∀c,c<K+H->Byt D (W c)/\Byt Z (M c)/\∀d,(e.getD c []).getD d 0=comes D (λi d=>(t.getD i []).getD d 0) (W c) d ^^^ (M c).getD d 0:=λc a=>by
  rw[ag c a,au c a];exact G c a
 clear G;have G:∀i∈Le,i<rest.length:=λi j=>by have:=((p.left i).1 j).1;rwa [O] at this
 have aa:=tu K H H
 have ai:∀P∈dD K H H,∀d,eG (vO P) (λc=>(e.getD c []).getD d 0) (K+H)=0:=λP a d=>by
  obtain⟨i,j,rfl⟩:=J2 a;exact hm.pre i j d
 have ab:Wf Z t:=by
  intro r g;rw[C] at g;obtain⟨c,h,rfl⟩:=aZ.1 g;exact q c (p.bd c (.inr h))
 have I:t.length=D:=by rw[C,aG];exact S
 refine⟨λk r c a=>p.step k r c a,λc a=>p.bd c (.inr a),Y,G,λr c a=>(v r c a).1,λr a=>(w r a).1,λc a=>⟨(n c a).1,(n c a).2.1⟩,?_,?_,?_⟩
 ·intro ak
  have al:t≠[]:=λo=>by rw[o] at I;simp at I;omega
  have av:jW (uX K H D (rest.map Prod.fst) W Le) t=yC K H Z (rest.map Prod.fst) z M Le:=
   EK (λc d=>(e.getD c []).getD d 0) ab I al (λc a=>(n c a).1) (λc a=>(n c a).2.1) (λc a=>(n c a).2.2) (λr g c a=>(v r c a).1) (λr g=>(w r (G r g)).1) (λr g=>(w r (G r g)).2) aa ai
  have am:∀i∈L.map Prod.fst,i<=65535:=λi j=>by obtain⟨x,l,rfl⟩:=aZ.1 j;exact(hL x l).1
  have aw:(eT (uX K H D (rest.map Prod.fst) W Le)).length=D:=by
   refine Et (W0:=gF (eH D) De D) p S ad v (λi j=>(hg i j).1) (λc a=>ag c a) (λc a=>(n c a).1) aa (E:=(L.map Prod.fst).map λi=>iO K H Z s (i:Nat)) (F:=fK K H Z s (L.map Prod.fst)) ?_ (oZ u am) ?_ (bn hf)
   ·intro aB ax
    obtain⟨i,j,rfl⟩:=aZ.1 ax;obtain⟨x,l,rfl⟩:=aZ.1 j;obtain⟨J,X⟩:=lG (s:=s) (id:=(x.1:Nat)) u;refine⟨nZ X,J,?_⟩;by_cases h0:eu kn (iO K H Z s (x.1:Nat))=[]
    ·exact .inl h0
    ·right
     have ay:xW kn (λc=>e.getD c []) Z (iO K H Z s (x.1:Nat),x.2)∈rest:=by
      rw[g];unfold gV;refine mem_filter.2 ⟨aZ.2 ⟨_,aZ.2 ⟨x,l,rfl⟩,rfl⟩,?_⟩;have:(eu kn (iO K H Z s (x.1:Nat))).length≠0:=λo=>h0 (eq_nil_of_length_eq_zero o);show((eu kn (iO K H Z s (x.1:Nat))).length != 0)=true;simpa using this
     obtain⟨r,an,az⟩:=bH ay;refine⟨r,by rw[O];exact an,?_⟩;rw[fH,af,ah an,Option.getD_some,az];rfl
   ·intro P A
    rcases bF.1 A with a | a
    ·exact .inl a
    ·right
     obtain⟨i,j,rfl⟩:=aZ.1 a;have an:=am i j;exact⟨_,aZ.2 ⟨i,j,rfl⟩,(vE (s:=s) (id:=(i:Nat)) u (by omega) (by omega)).2.2.1⟩
  have hA:Wf D (uX K H D (rest.map Prod.fst) W Le):=by
   intro r g;rcases bF.1 g with a | a
   ·obtain⟨i,_,rfl⟩:=aZ.1 a
    exact dU (Byt.zero D) λc h=>(n c (v i c h).1).1
   ·obtain⟨P,_,rfl⟩:=aZ.1 a
    exact gD (Byt.zero D) (K+H) λc h=>(n c h).1.1
  have P:uX K H D (rest.map Prod.fst) W Le≠[]:=λo=>by
   have:=congrArg List.length o;unfold uX at this;rw[aI,aG,aG,eO] at this;simp at this;omega
  rw[<-av,<-C];exact Hy hA ab I al P aw
 ·intro ak b N
  refine FJ (M:=M) (z:=z) (m:=λc d=>(e.getD c []).getD d 0) (λc a=>(n c a).2.1) (λc a d=> ?_) (λr g c a=>(v r c a).1) (λr g=>(w r (G r g)).1) (λr g=>(w r (G r g)).2) aa ai b N;have:=(n c a).2.2 d;rw[this,ak];show 0 ^^^ _=_;rw[Nat.zero_xor]
 ·intro c a P
  rw[<-C];exact N9 ab I (n c a).2.1.1 (q c a).1 (n c a).2.2
theorem vG{w:SC}(a:By w):lM 1 w=w:=by
 refine ext_get (sK 1 w) λb=> ?_;rw[jZ,jL _ (getD_lt a b)]
theorem xw(g w K H Z n C gw gm t c D h i:Nat)(j k:SE)(x y z A:Value)(F:Nat->Prop)(V W M:Nat->SC)(l m:SC)(d e:World)
 (a:SvSt d g w K H Z n C gw gm x y z A F V W M)(f:Below d.heap.size d e)(E:t<256)(o:c<n)(q:Byt D (W c))(r:Byt Z (M c))
 (G:OwnB e d.heap.size (slice j D h) l)(I:OwnB e d.heap.size (slice k Z i) m)(s:Byt D l)(u:Byt Z m)(J:∀b,(Value.slice j D h).ownBlock=some b->(Value.slice k Z i).ownBlock≠some b)(L:D<=1000000)(N:Z<=1000000):
 Calls prog 299 #[pointer (some ⟨g,0,none⟩),.int .u8 t,int i64 c,slice j D h,slice k Z i] e λB v=>B=returned (.tuple #[])/\OwnB v d.heap.size (slice j D h) (xr l (lM t (W c)))/\OwnB v d.heap.size (slice k Z i) (xr m (lM t (M c)))/\Below d.heap.size e v:=by
 obtain⟨O,v,P,Q,R,-,S,-,-,-,-⟩:=a.way.at o;obtain⟨T,B,U,X,Y,-,aa,-,-,-,-⟩:=a.mor.at o;obtain rfl:v=D:=by rw[R];exact q.1
 obtain rfl:B=Z:=by rw[Y];exact r.1
 have:=O6 g w K H B n t c d.heap.size v gw gm P U _ x y z A O T j k h i (W c) (M c) l m e (a.blk.below f a.blk.lt) (Fld.belowC a.fld f (Blk.lt (t:=337) a.fld)) ⟨a.blk.lt,Blk.lt (t:=337) a.fld,a.way.lt,a.mor.lt⟩ E o
  ((f.cell (p:=⟨gw,c,none⟩) a.way.lt).trans Q) ((f.cell (p:=⟨gm,c,none⟩) a.mor.lt).trans X) (S.below f (aj _)) (aa.below f (aj _)) q.2 r.2 G I s.1 u.1 s.2 u.2 J L N
 rw[Fx (by rw[q.1,s.1]),Fx (by rw[r.1,u.1])] at this;exact this
theorem pE{wr a:World}{D Z c:Nat}{x:SC}{v:Value}(p:x.length=Z)(i:D<=maxLen)(h:OwnB a wr.heap.size v x)(j:Blk a c 5 (bO (replicate D 0)))(k:wr.heap.size<=c)(l:v.ownBlock≠some c)(m:Below wr.heap.size wr a):
 ∃f g d e,Value.slice (some ⟨c,0,none⟩) D D=slice f D g/\v=slice d Z e/\Sz (OwnB a wr.heap.size (slice f D g) (replicate D 0))/\Sz (OwnB a wr.heap.size (slice d Z e) x)/\Sz (∀b,(Value.slice f D g).ownBlock=some b->(Value.slice d Z e).ownBlock≠some b)/\Sz (Below wr.heap.size wr a):=by
 obtain⟨d,n,e,rfl,q⟩:=OwnB.sl h;obtain rfl:n=Z:=by omega
 have f:=lw (C:=wr.heap.size) j k (by rw[aJ];exact i);rw[aJ] at f;refine⟨_,_,_,_,rfl,rfl,ae f,ae h,ae λb g o=>l (o.trans ?_),ae m⟩;simp[Value.ownBlock] at g;rw[g]
structure Two (w:World) (C:Nat) (va:Value) (A:List SC) (vb:Value) (B:List SC):Prop where
 oa:OwnS w C 30 1 (fun b=>Fr C b/\some b≠vb.ownBlock) va (A.map rB)
 ob:OwnS w C 30 1 (fun b=>Fr C b/\some b≠va.ownBlock) vb (B.map rB)
 ap:∀b,va.ownBlock=some b->vb.ownBlock≠some b
theorem Two.swap{w:World}{C:Nat}{b c:Value}{d B:List SC}(a:Two w C b d c B):Two w C c B b d:=⟨a.ob,a.oa,λe f g=>a.ap e g f⟩
theorem Two.begin(w:World)(C:Nat):Two w C (slice none 0 0) [] (slice none 0 0) []:=⟨OwnS.nil _ _ _ _ _,OwnS.nil _ _ _ _ _,λb a=>by simp[Value.ownBlock] at a⟩
theorem Two.new{w w':World}{C:Nat}{b c:Value}{d B:List SC}(a:Two w C b d c B)(e:Below w.heap.size w w'):Two w' C b d c B:=⟨a.oa.new e,a.ob.new e,a.ap⟩
theorem Two.one{w h:World}{C:Nat}{i e j:Value}{k B:List SC}{l:SC}(f:Two w C i k j B)(q:OwnS h C 30 1 (λb=>Fr C b/\some b≠j.ownBlock) e ((k++[l]).map rB))
 (m:∀b,b<w.heap.size->some b≠i.ownBlock->h.heap[b]? =w.heap[b]?)(n:e.ownBlock=i.ownBlock\/∃b,e.ownBlock=some b/\w.heap.size<=b):Two h C e (k++[l]) j B:=by
 have o:=f.ob.lt;refine⟨q,?_,λb c g=> ?_⟩
 ·obtain⟨r,c,g⟩:=f.ob
  refine⟨r,ky c λb d=>m b (o b d).2 λa=>f.ap b a.symm d,λs p t=>p.keep (g s p t) λb d p=>⟨m b p d.1.2,⟨d.1.1,?_⟩,d.2⟩⟩;rcases n with a | ⟨p,a,s⟩
  ·rw[a];exact d.1.2
  ·rw[a];intro d;injection d with d;omega
 ·rcases n with a | ⟨p,a,s⟩
  ·rw[a] at c;exact f.ap b c g
  ·rw[a] at c;injection c with c;have:=(o b g).2;omega
theorem Two.row{w0 w:World}{C:Nat}{d e:Value}{h B:List SC}{R:Rp}{f:List Value}(g:Two w0 C d h e B)(i:C<=w0.heap.size)(j:R.ok w (Fr w0.heap.size) f):R.ok w (λa=>(Fr C a/\some a≠e.ownBlock)/\some a≠d.ownBlock) f:=
 R.more j λa b _=>⟨⟨aP i b,λc=>by have:=(g.ob.lt a c.symm).2;have:w0.heap.size<=a:=b;omega⟩,λc=>by have:=(g.oa.lt a c.symm).2;have:w0.heap.size<=a:=b;omega⟩
theorem pF{w f:World}{P:Nat->Prop}{c d g:Value}{R:Rp}{h:List Value}(j:R.ok w (λb=>(P b/\some b≠g.ownBlock)/\some b≠c.ownBlock) h)(k:∀b,b<w.heap.size->some b≠c.ownBlock->f.heap[b]? =w.heap[b]?)
 (l:d.ownBlock=c.ownBlock\/∃b,d.ownBlock=some b/\w.heap.size<=b):R.ok f (λb=>(P b/\some b≠d.ownBlock)/\some b≠g.ownBlock) h:=
 R.keep j λb a e=>⟨k b e a.2,⟨a.1.1,by
  rcases l with e | ⟨m,e,n⟩
  ·rw[e];exact a.2
  ·rw[e];intro i;injection i with i;omega⟩,a.1.2⟩
theorem Bv{P:Program}{Q:Exit->Act->World->Prop}{a:Act}{w:World}{body i d:Code}(j e:Nat)(m:findLabel body j=some (Code.skip.seq i))(n:findLabel body e=some (Code.skip.seq d))
 (o:∀X:Nat->Act->World->Prop,(∀a w,i.wp P (dL (λc f g=>c=e/\d.wp P (dL (λ_ _ _=>False) Q) f g) Q) a w->X j a w)->(∀a w,d.wp P (dL (λ_ _ _=>False) Q) a w->X e a w)->body.wp P (dL X Q) a w):(Code.scope body).wp P Q a w:=by
 refine jy (λc k a w=>(c=j/\k=1/\i.wp P (dL (λc f g=>c=e/\d.wp P (dL (λ_ _ _=>False) Q) f g) Q) a w)\/(c=e/\k=0/\d.wp P (dL (λ_ _ _=>False) Q) a w)) ?_ ?_
 ·exact o _ (λa w b=>⟨1,.inl ⟨rfl,rfl,b⟩⟩) (λa w b=>⟨0,.inr ⟨rfl,rfl,b⟩⟩)
 ·intro c k a w h
  rcases h with⟨rfl,rfl,h⟩ | ⟨rfl,rfl,h⟩
  ·refine⟨_,m,wp_seq (wp_skip (wp_mono h ?_))⟩
   intro l f g b;cases l with
   | goto c=>exact⟨0,by omega,.inr ⟨b.1,rfl,b.2⟩⟩
   | normal=>exact b
   | exit id=>exact b
   | ret=>exact b
   | panic ch=>exact b
   | outgrown=>exact b
  ·refine⟨_,n,wp_seq (wp_skip (wp_mono h ?_))⟩
   intro l f g b;cases l with
   | goto c=>exact b.elim
   | normal=>exact b
   | exit id=>exact b
   | ret=>exact b
   | panic ch=>exact b
   | outgrown=>exact b
theorem oQ{P:Program}{w:World}{ops:Array Oper}{o:Oper}{a:Act}{K:Act->World->Prop}{Q:Exit->Act->World->Prop}{E:Prop}(y:o.guard=none)(s x:Operand){T e:TypeId}{z:Value}{k h:Nat}
 (A:o.op=.call { callee:=.builtin .append,args:=#[s,x],argTypes:=#[T,T] })(B:P.underlying T=some (.slice e))(D:(P.info? e).map (λd=>(d.zero,d.size,d.bytes))=some (some z,k,h))(G:z.cells.size=k)(H:0<k)(I:h<=1000)
 {C:Nat}{v:Value}{L:List Rp}{F:Nat->Prop}{R:Rp}{f:Array Value}(q:OwnS w C e k F v L)(l:C<=w.heap.size)(hl:L.length<=1000000)
 (m:R.ok w (λb=>F b/\some b≠v.ownBlock) f.toList)(J:R.sz=k)
 (hs:a.eval s=v)(M:a.eval x=slice (some ⟨w.heap.size,0,none⟩) 1 1)
 (N:∀g c,OwnS c C e k F g (L++[R])->Below C w c->w.heap.size<=c.heap.size->(∀b,b<w.heap.size->some b≠v.ownBlock->c.heap[b]? =w.heap[b]?)->(g.ownBlock=v.ownBlock\/∃b,g.ownBlock=some b/\w.heap.size<=b)->K (a.put o.dst g) c):
 if Region.wanted o (yielded ops a.tmps)=true then Oper.wp P o a (w.alloc (.cells f e)) K Q else E:=by
 have c:=(aC w.heap.size w).alloc (aj _) (.cells f e);have O:=q.lt;have S:=q.new c;obtain⟨U,r,V⟩:=S;obtain⟨d,W,X,Y,Z⟩:=info_parts D;have aa:f.toList.length=k:=by rw[R.len m];exact J
 have ab:=R.new m c;have hw:Region.wanted o (yielded ops a.tmps)=true:=by simp[Region.wanted,y]
 rw[bu hw]
 have ac:∀(n:Nat) (p:Value),f.toList[n]? =some p->(w.alloc (.cells f e)).cell? ((⟨w.heap.size,0,none⟩:Addr).add n)=some p:=by
  intro n p hj;rw[Addr.add_lit,Nat.zero_add,fe];simpa using hj
 have i:(L.length+1)*h<=140737488355328:=by
  have:=bC (show L.length+1<=1000001 by omega) I;omega
 obtain⟨g,w',ad,ag,j,_,t⟩:=run_append_own_at (P:=P) (w.alloc (.cells f e)) C T o.type e d z k h B W X Y Z G H v L.length U r ⟨w.heap.size,0,none⟩ 1 1 f.toList (by rw[aa,Nat.one_mul]) ac (R.one m) (by unfold maxLen;omega) i (aP l c.size);unfold Oper.wp execOp;simp only[A,resolve,invoke,builtin,Sem.run_bind,Sem.run_pure,Result.andThen_ok,map_toArray,map_cons,map_nil,hs,M,ad];refine N g w' (OwnS.app r V (λd R' u=> ?_) ag j t) (((c.mono l).grown j (aP l c.size) λb ai=>(O b ai).1)) (aP c.size j.size) (λb i ai=>(j.block b (aW i c.size) ai).trans (c.block b i)) (t.elim .inl λe=>.inr ⟨_,e,c.size⟩);cases d with
 | succ d=>simp at u
 | zero=>
   obtain rfl:R=R':=(by simpa using u);rw[Nat.zero_mul,drop_zero,aN (by omega)];exact ab
