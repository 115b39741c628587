import Derived.Test.YtgccllbnfngpcaaGreatDoorW10
import Derived.Test.YtgccllbnfngpcaaGreatDoorW11
import Derived.Lib.AppendStr
set_option linter.unusedVariables false
set_option maxRecDepth 100000
set_option maxHeartbeats 400000000
namespace Go.Proofs.YtgccllbnfngpcaaGreatDoor
open Go.RowKit _root_.Go.Proofs.Tryz List
open Value (int slice pointer bool)
open IntKind (i64)
open Ending (returned)
open Obj (cells)
theorem lU{w:World}{P K H Z:Nat}(a:Blk w P 25 #[int i64 K,int i64 H,int i64 Z]):w.cell? ⟨P,0,none⟩=some (int i64 K)/\w.cell? ⟨P,1,none⟩=some (int i64 H)/\w.cell? ⟨P,2,none⟩=some (int i64 Z):=⟨a.cell 0,a.cell 1,a.cell 2⟩
theorem LC{K H Z:Nat}{s:Int}{L:List (Nat×SC)}{k:Nat}(a:k<L.length):AO K H Z s (L.take (k+1))=AO K H Z s (L.take k)++[(iO K H Z s ((L.getD k (0,[])).1:Nat),(L.getD k (0,[])).2)]:=by
 unfold AO;rw[aO a,aU,af,ah a];rfl
theorem SvSt.lt{w:World}{g e K H Z n f gw gm:Nat}{rest h i j:Value}{F:Nat->Prop}{V W M:Nat->SC}(a:SvSt w g e K H Z n f gw gm rest h i j F V W M):SvSt w g e K H Z n f gw gm rest h i j (λb=>F b/\b<w.heap.size) V W M:=by
 obtain⟨k,l,m,o⟩:=a.vls;exact⟨a.blk,a.fld,⟨k,l,m,λc d=>(rN _).more (o c d) λb c d=>⟨c,d⟩⟩,a.way.keep rfl λb c d=>⟨rfl,c,d⟩,a.mor.keep rfl λb c d=>⟨rfl,c,d⟩,a.ne,λb c=>a.off b c.1⟩
theorem IE{l:List SC}{i:Nat}(a:i<l.length):l.getD i []∈l:=by rw[af,ah a];exact aQ _
theorem OX(K H Z N c:Nat)(s:Int)(a:SE)(F:Nat->Prop)(L:List (Nat×SC))(y:List SC)(w:World)(hk:fQ K H Z=true)(b9:0<=s)(ca:s<4294967296)
 (hL:(iC L).ok w F [slice a N c])(hl:L.length=N)(hN:N<=1000)(hm:MidOK K H Z s y)(n:∀x∈L,x.1<=65535/\x.2=iM K H Z s y x.1)(hf:ek K H Z s (L.map Prod.fst)=true):
 Calls prog 175 #[dO K H Z,.int .u32 s,slice a N c] w λj q=>∃g,j=returned (.tuple #[slice (some ⟨g,0,none⟩) (K+H) (K+H),int i64 0])/\Vls q g (K+H) Any (λc=>y.getD c [])/\Below w.heap.size w q:=by
 have e:=bn hk;have cj:K<=16:=by omega
 have ck:H<=4:=by omega
 have cl:Z<=24:=by omega
 have a0:1<=Z:=by omega
 have a4:1<=K:=by omega
 have d:=ae ((iC L).bl hL);have CL:=ae λ(id:Nat) w=>zO K H Z s id w b9 ca;have b:=(aC w.heap.size w).alloc (aj _) (cells #[int i64 K,int i64 H,int i64 Z] 25)
 have S0:Sz (Sx (w.alloc (cells #[int i64 K,int i64 H,int i64 Z] 25)) (w.alloc (cells #[int i64 K,int i64 H,int i64 Z] 25)) [bY w.heap.size 25 #[int i64 K,int i64 H,int i64 Z],eR (Bl w.heap.size) (slice a N c) (iC L)]):=
  ae (((Sx.nil _).add (eR (Bl w.heap.size) (slice a N c) (iC L)) ((iC L).new d.o b)).add (bY _ _ _) (Blk.new w _ _))
 have cb:=ae b;have au:w.heap.size<(w.alloc (cells #[int i64 K,int i64 H,int i64 Z] 25)).heap.size:=by simp
 have aw:=ae hl;have HX:=ae n;have HM:=ae hm;have HF:=ae hf;have HK:=ae hk;unfold dO at CL;clear e hk hL b hl n hm hf d;unfold dO;go_enter func175,ntmps175;refine wp_seq_k λK1 a4=> ?_;have b:=ae a4;clear a4;go_wp2_with fail;refine b.o _ _ ?_;clear b;generalize w.alloc (cells #[int i64 K,int i64 H,int i64 Z] 25)=O at*;refine Bv 1 2 (by rfl) (by rfl) λcm h1 h2=> ?_;have H1:=ae h1;have H2:=ae h2;clear h1 h2;go_wp2_with fail;have bh:Sz (OwnS O O.heap.size 286 2 Any (slice none 0 0) ((AO K H Z s (L.take 0)).map vM)):=ae (OwnS.nil _ _ _ _ _);have am:=ae (aC O.heap.size O);go_loopw [8,23] (λai i wr=>∃o:Nat,o<=N/\i=int i64 o/\Sz (OwnS wr O.heap.size 286 2 Any ai ((AO K H Z s (L.take o)).map vM))/\Sz (Below O.heap.size O wr)) (λ_ i _=>N-(intOf i).toNat)
 case atStart=>exact⟨0,by omega,rfl,bh,am⟩
 case round=>
  clear bh am;obtain⟨o,cn,rfl,T,HB⟩:=hrel;have S1:=ae (S0.o.step HB.o);have a5:=HB.o.size;obtain⟨a6,n6,c6,rfl⟩:=T.o.sl;by_cases C:o<N
  ·have ar:(o:Int)<(N:Int):=by omega
   have k:o<L.length:=(by rw[aw.o];exact C);obtain⟨b,ay,U,X,d,rfl,-,f,v,u,m,-⟩:=AL (S1.o.rep 1 rfl) aw.o C;have S:Sz ((AO K H Z s (L.take (o+1))).map vM=(AO K H Z s (L.take o)).map vM++[vM (iO K H Z s ((L.getD o (0,[])).1:Nat),(L.getD o (0,[])).2)]):=ae (by rw[LC k,aU];rfl);have aa:((AO K H Z s (L.take o)).map vM).length<=1000000:=(by unfold AO;rw[aG,aG,aH];omega);generalize (AO K H Z s (L.take o)).map vM=LL at*;generalize L.getD o (0,[])=x at*;have e:=(aC wr.heap.size wr).alloc (aj _) (cells #[int i64 (x.1:Nat),slice U X d] 154);have r:=Blk.new wr 154 #[int i64 (x.1:Nat),slice U X d];have Y:=ae ((S1.o.step e).add (bY _ _ _) r);have A:=ae (T.o.new e);have ab:=ae (HB.o.trans (e.mono a5));have ac:=ae ((rB x.2).new m e);have E:O.heap.size<=(wr.alloc (cells #[int i64 (x.1:Nat),slice U X d] 154)).heap.size:=aP a5 e.size;have ad:=ae (CL.o x.1);clear e r m S1 T HB k;go_upto_region 5 with fail;clear v u;generalize k:wr.heap.size=e at*;clear k;generalize wr.alloc (cells #[int i64 (x.1:Nat),slice U X d] 154)=m at*;obtain⟨p0,p1,p2⟩:=lU (Y.o.blk 1 rfl);have i0:=(Y.o.blk 0 rfl).cell 0;have i1:=(Y.o.blk 0 rfl).cell 1
   go_region_held3 (λq=>(q.cell? ⟨w.heap.size,0,none⟩=some (int i64 K)/\q.cell? ⟨w.heap.size,1,none⟩=some (int i64 H)/\q.cell? ⟨w.heap.size,2,none⟩=some (int i64 Z))/\q.cell? ⟨e,0,none⟩=some (int i64 (x.1:Nat))/\q.cell? ⟨e,1,none⟩=some (slice U X d)) (go_keep) (first
    | (go_at_call 176
       refine(ad.o _).mono ?_;rintro j r ⟨ai,rfl,v,I⟩;have k:Below m.heap.size m r:=(aC m.heap.size m).drew.trans I;have P:=ae (Y.o.step k);obtain⟨m0,m1,m2⟩:=lU (P.o.blk 1 rfl);have j0:=(P.o.blk 0 rfl).cell 0;have j1:=(P.o.blk 0 rfl).cell 1;obtain⟨av,cv,rfl⟩:=v.lenA;have an:=ae (A.o.new k);have ag:=ae (ab.o.trans (k.mono E));have al:O.heap.size<=r.heap.size:=aP E k.size
       have ap:Sz ((vM (iO K H Z s (x.1:Nat),x.2)).ok r (λb=>Any b/\some b≠(Value.slice a6 n6 c6).ownBlock) [slice av (iO K H Z s (x.1:Nat)).length cv,slice U X d]):=ae (A.o.off (G:=λb=>b<O.heap.size\/m.heap.size<=b)
        (qj ((rI _).more (gM v) λb f _=>.inr f) ((rB _).more ((rB _).new ac.o k) λb f _=>.inl (Nat.lt_trans f au))) λb f=>⟨trivial,f⟩)
       have J:some e≠(Value.slice a6 n6 c6).ownBlock:=an.o.ty (P.o.blk 0 rfl) (by decide);have Q:e<r.heap.size:=(P.o.blk 0 rfl).lt;clear v I k)
    | (change (if _=true then Oper.wp _ (Oper.mk (some 37) _ _ _ _ _) _ _ _ _ else _)
       refine oQ (w:=r) rfl _ _ rfl underlying284 GQ rfl (by decide) (by decide) an.o al aa (R:=vM (iO K H Z s (x.1:Nat),x.2)) ap.o rfl rfl rfl ?_;intro v6 w6 v k ao ak I;rw[<-S.o] at v;have aq:=ae v;have ax:=ae (ag.o.trans k);have r0:=(k.cell (p:=⟨w.heap.size,0,none⟩) au).trans m0;have r1:=(k.cell (p:=⟨w.heap.size,1,none⟩) au).trans m1;have r2:=(k.cell (p:=⟨w.heap.size,2,none⟩) au).trans m2;have r3:=(World.cell?_of_block (a:=⟨e,0,none⟩) (ak e Q J)).trans j0;have r4:=(World.cell?_of_block (a:=⟨e,1,none⟩) (ak e Q J)).trans j1;clear v k ao ak I))
   all_goals(
    go_wp2_with fail;go_roundw
    case rel=>exact⟨o+1,by omega,by go_num,aq,ax⟩
    case measure=>simp[intOf];omega)
  ·obtain rfl:o=N:=by omega
   rw[aN (by rw[aw.o];exact aj _)] at T;have k:(AO K H Z s L).length=o:=(by unfold AO;rw[aG];exact aw.o);obtain⟨bi,-⟩:=T.o.len;rw[aG,k] at bi;subst bi;have m:∀c,c<K+H->Byt Z (y.getD c []):=λc h=>HM.o.row h
   have a7:Sz (xO (K+H) Z (λc=>y.getD c []) (AO K H Z s L)/\∀x∈AO K H Z s L,x.1.Pairwise (·< ·)):=ae (by
    refine⟨λx n=> ?_,λx n=> ?_⟩
    ·obtain⟨e,r,rfl⟩:=aZ.1 n
     obtain⟨u,d⟩:=lG (s:=s) (id:=(e.1:Nat)) HK.o;refine⟨?_,u,(HX.o e r).2⟩;have:=jT (nZ d) u;show(iO K H Z s (e.1:Nat)).length<=64;omega
    ·obtain⟨e,r,rfl⟩:=aZ.1 n
     exact(lG (s:=s) (id:=(e.1:Nat)) HK.o).2)
   have a9:=ae k;have bj:=ae m;obtain⟨al,d⟩:∃al,al=AO K H Z s L:=⟨_,rfl⟩;rw[<-d] at a7 a9 T;have cc:=ae d;clear d k m;rename World=>Q;obtain⟨p0,p1,p2⟩:=lU (S1.o.blk 0 rfl);go_upto_region 7 with fail;go_cut [11] (λai e=>∃d k,ai=pointer (some ⟨d,0,none⟩)/\Sz (Blk e d 292 (svC k K H Z (slice none 0 0) (slice none 0 0) (slice none 0 0) (slice none 0 0) (slice none 0 0) (slice none 0 0) (slice none 0 0))/\Fld e k/\Q.heap.size<=d/\Q.heap.size<=k/\Below Q.heap.size Q e))
   case first=>
    go_region_held3 (λq=>q.cell? ⟨w.heap.size,0,none⟩=some (int i64 K)/\q.cell? ⟨w.heap.size,1,none⟩=some (int i64 H)/\q.cell? ⟨w.heap.size,2,none⟩=some (int i64 Z)) (go_keep) (first
     | (go_at_call 216
        refine(qU _).mono ?_;rintro j wA ⟨k,rfl,r,u,f⟩;have e:Below Q.heap.size Q wA:=(aC Q.heap.size Q).drew.trans f;obtain⟨E,I,J⟩:=lU ((S1.o.step e).blk 0 rfl);have v:=ae u;have A:Q.heap.size<=k:=r;have m:=ae e;clear u f e r))
    all_goals(
     go_wp2_with fail;go_meet;exact⟨wA.heap.size,k,rfl,ae ⟨Blk.new wA _ _,Blk.below (t:=337) v.o ((aC _ _).alloc (aj _) _) (Blk.lt (t:=337) v.o),m.o.size,A,m.o.alloc m.o.size _⟩⟩)
   case rest=>
    obtain⟨d,k,rfl,u⟩:=hcut;obtain⟨v,A,co,cp,m⟩:=u.o;have Y:=ae (((S1.o.step m).add (bY k 337 qX) A).add (bY d _ _) v);have an:=ae (T.o.new m);have cq:=m.size;have E:=ae (HB.o.trans (m.mono a5));obtain⟨J,q1,X⟩:=lU (Y.o.blk 2 rfl);obtain⟨e,S⟩:∃e,e=K+H:=⟨_,rfl⟩;have I:lW K H Z=(e:Int):=(by unfold lW;rw[bu HK.o,S,Int.natCast_add]);have r:=ae (λW=>og K H Z W);unfold dO at r;rw[I] at r;have ba:e<=64:=(by omega);have ay:Sz (∀c,c<e->Byt Z (y.getD c [])):=(by rw[S];exact bj);have az:Sz (xO e Z (λc=>y.getD c []) al/\∀x∈al,x.1.Pairwise (·< ·)):=(by rw[S];exact a7);have HN:=ae S;clear v A m u T HB S1 p0 p1 p2 bj a7 I S;go_wp2_with fail;refine(r.o _).mono ?_;rintro j w4 ⟨rfl,m⟩;have P:=ae (Y.o.step m);have aV:=ae (an.o.new m);have cr:=m.size;have aY:=ae (E.o.trans (m.mono (by omega)));have CQ:=ae (Kl e o Z a6 c6 _ (λc=>y.getD c []) al w4 aV.o.rep a9.o (by omega) (by omega) a0 (by omega) (λc h=>ay.o c h) az.o.1 (λx n=>Oj (az.o.2 x n)));clear m r Y an E J q1 X;go_wp2_with fail;refine CQ.o.mono ?_;rintro j r ⟨gp,gk,g,C1,ai,kn,vl,rfl,ap,bc,bt,bv,aq,aE⟩;have S4:=ae (P.o.step aE);have cs:d<w4.heap.size:=(P.o.blk 0 rfl).lt;have ct:=aE.size;have B5:Below w.heap.size w r:=(cb.o.trans (aY.o.mono (by omega))).trans (aE.mono (by omega));obtain⟨u,m,v,rfl⟩:=aq.sl;have J:=aq.len.1;rw[aG] at J;have cu:m<=o:=(by rw[<-J,<-a9.o];exact Dx);have ad:=KA (kn:=kn) az.o.1 az.o.2 ay.o;obtain⟨rest,aM⟩:∃rest,rest=gV kn (λc=>y.getD c []) Z al:=⟨_,rfl⟩;rw[<-aM] at aq J ad;obtain⟨E,v1,v2,v3⟩:=ap.hs;obtain⟨bw,bx,bz⟩:=ap.ne;have A:=S4.o.blk 0 rfl;have ar:Fld r k:=S4.o.blk 1 rfl;have bd:Blk ((r.setCell ⟨d,4,none⟩ (slice (some ⟨g,0,none⟩) e e)).setCell ⟨d,5,none⟩ (slice u m v)) d 292 (svC k K H Z (slice (some ⟨g,0,none⟩) e e) (slice u m v) (slice none 0 0) (slice none 0 0) (slice none 0 0) (slice none 0 0) (slice none 0 0)):=(A.set 4 _).set 5 _;have ag:∀b,b≠d->((r.setCell ⟨d,4,none⟩ (slice (some ⟨g,0,none⟩) e e)).setCell ⟨d,5,none⟩ (slice u m v)).heap[b]? =r.heap[b]? :=λb f=>(bJ _ _ _ _ f).trans (bJ _ _ _ _ f);have be:Fld ((r.setCell ⟨d,4,none⟩ (slice (some ⟨g,0,none⟩) e e)).setCell ⟨d,5,none⟩ (slice u m v)) k:=(ag k (Blk.ne (t:=337) ar A (by decide))).trans ar
    have aS:(gq rest).ok ((r.setCell ⟨d,4,none⟩ (slice (some ⟨g,0,none⟩) e e)).setCell ⟨d,5,none⟩ (slice u m v)) (λb=>b≠d/\b≠g) [slice u m v]:=(gq rest).keep aq.fr λb f _=>by
     have aF:C1<=b:=f;exact⟨ag b (by omega),by omega,by omega⟩
    have ak:Rd ((r.setCell ⟨d,4,none⟩ (slice (some ⟨g,0,none⟩) e e)).setCell ⟨d,5,none⟩ (slice u m v)) ((r.setCell ⟨d,4,none⟩ (slice (some ⟨g,0,none⟩) e e)).setCell ⟨d,5,none⟩ (slice u m v)).heap.size (some ⟨gk,0,none⟩) e (dA kn):=by
     have f:Blk ((r.setCell ⟨d,4,none⟩ (slice (some ⟨g,0,none⟩) e e)).setCell ⟨d,5,none⟩ (slice u m v)) gk 4 (dA kn).toArray:=(ag gk (by omega)).trans ap.knb;exact⟨by rw[mX];exact ap.kl,λ_=>⟨gk,0,rfl,f.lt,λi aa I=>by rw[Nat.zero_add,f.cell i];simpa using I⟩⟩
    have bf:∃E:List Value,Blk ((r.setCell ⟨d,4,none⟩ (slice (some ⟨g,0,none⟩) e e)).setCell ⟨d,5,none⟩ (slice u m v)) g 30 E.toArray/\E.length=e/\∀c,c<e->(rN (vl.getD c [])).ok ((r.setCell ⟨d,4,none⟩ (slice (some ⟨g,0,none⟩) e e)).setCell ⟨d,5,none⟩ (slice u m v)) (λb=>b≠d/\b≠g) [E.getD c undef]:=
     ⟨E,(ag g (by omega)).trans v1,v2,λc I=>(rN _).keep (Su (v3 c I) A (λaa=>by unfold svC;simp)) λb f _=>⟨ag b f.2,f.2,f.1.2.2⟩⟩
    have B6:=(B5.setCell (p:=⟨d,4,none⟩) (by show w.heap.size<=d;omega) (slice (some ⟨g,0,none⟩) e e)).setCell (p:=⟨d,5,none⟩) (by show w.heap.size<=d;omega) (slice u m v);have ao:((r.setCell ⟨d,4,none⟩ (slice (some ⟨g,0,none⟩) e e)).setCell ⟨d,5,none⟩ (slice u m v)).heap.size=r.heap.size:=(by simp);have CO:=ae (J5 d k K H Z e m v e u (some ⟨gk,0,none⟩) (slice (some ⟨g,0,none⟩) e e) (slice none 0 0) (slice none 0 0) (slice none 0 0) (slice none 0 0) (slice none 0 0) _ kn rest _ bd aS (λb f=>f.1) ak (λp j=>by cases j;show gk≠d;omega) J (by omega) (by omega) (λx n=>⟨(ad x n).1,(ad x n).2.1,(ad x n).2.2.2⟩));have g4:=A.cell 4;have g5:=A.cell 5;have y4:=A.frozen 4;have y5:=A.frozen 5;unfold svC at g4 g5;have bk:=ae be;have bl:=ae aS;have bm:=ae bf;have ax:=ae B6;have bo:=ae ao;have ab:=ae J;have ac:=ae ad;have bp:=ae aM;have aK:=ae bc;have bs:g≠d:=(by omega);have bb:w.heap.size<=d/\w.heap.size<=g/\d<r.heap.size/\g<r.heap.size/\k<r.heap.size/\k≠d:=⟨by omega,by omega,by omega,v1.lt,Blk.lt (t:=337) ar,Blk.ne (t:=337) ar A (by decide)⟩;have cd:=ae bs;have ce:=ae bb;clear bd ag be aS ak bf B6 ao A ar ap aq v1 v2 v3 ad J aM bc aE B5 CQ P aV S4 aY bt bv bw bx bz bs bb;go_upto_region 12 with fail;clear g4 g5 y4 y5;generalize (r.setCell ⟨d,4,none⟩ (slice (some ⟨g,0,none⟩) e e)).setCell ⟨d,5,none⟩ (slice u m v)=w6 at*;go_wp2_with fail;refine CO.o.mono ?_;rintro j w7 ⟨rfl,vS,vD,vL,bs,De,cf,hP,ag,aY,ar,bt,bc,A⟩;obtain⟨bd,⟨u1,u2,u3,u4,u5,u6⟩⟩:=And.intro cd.o ce.o;have ao:=bo.o;have bv:=Ol hP
    have cg:(rest.map Prod.fst++dF e λc=>kn.getD c false).length<=1100:=by
     have:=oG e λc=>kn.getD c false;rw[aI,aG,ab.o];omega
    obtain⟨St,aE⟩:∃St,St=bs.filter λs=> !decide (m<=s.1):=⟨_,rfl⟩;obtain⟨Le,aM⟩:∃Le,Le=cf.filter λi=> !decide (m<=i):=⟨_,rfl⟩;rw[<-aE] at ag;rw[<-aM] at ar
    have ch:St.length<=2000:=by
     have:=length_filter_le (λs:Nat×Nat=> !decide (m<=s.1)) bs;rw[aE];omega
    have bw:Le.Nodup:=by rw[aM];exact bv.2.2.filter _
    have ML:=Qk (D:=De.length) (W:=iE (λc=>vl.getD c []) (λ_=>replicate De.length 0) (dM (rest.map Prod.fst) (λ_=>replicate De.length 0) (gF (eH De.length) De De.length) St) (K+H))
     (M:=iE (λc=>vl.getD c []) (λc=>vl.getD c []) (dM (rest.map Prod.fst) (λJ=>(rest.getD J ([],[])).2) (gF (λ_=>replicate Z 0) De De.length) St) (K+H)) (V:=λc=>vl.getD c []) (z:=λJ=>(rest.getD J ([],[])).2) (St:=St) (Le:=Le) (De:=De) (rest:=rest) (kn:=kn) (vl:=vl)
     HK.o HM.o HX.o (by rw[<-HN.o];exact aK.o) (by rw[bp.o,cc.o]) (by rw[<-HN.o];exact hP) HF.o rfl (by rw[ab.o];exact aE) (by rw[ab.o];exact aM) rfl rfl rfl rfl
    rw[<-HN.o] at ML;obtain⟨m1,m2,m3,m4,m5,m6,m7,m8,m9,bx⟩:=ML
    have bz:Le.length<=1000:=by
     have:=jT bw m4;rw[ab.o] at this;omega
    have ap:De.length<=64:=(by omega);obtain⟨aT,cT,rfl,-⟩:=dH ag;obtain⟨aD,cD,rfl⟩:=aY.lenA;obtain⟨aL,cL,rfl⟩:=ar.lenA;have bB:Fld w7 k:=(A k (by omega) u6).trans bk.o;have be:=(gq rest).keep bl.o λb f C=>⟨A b C f.1,f⟩
    have b0:∃E:List Value,Blk w7 g 30 E.toArray/\E.length=e/\∀c,c<e->(rN (vl.getD c [])).ok w7 (λb=>b≠d/\b≠g) [E.getD c undef]:=by
     obtain⟨E,a1,U,a3⟩:=bm.o;exact⟨E,(A g a1.lt bd).trans a1,U,λc I=>(rN _).keep (a3 c I) λb f C=>⟨A b C f.1,f⟩⟩
    have b1:=(rS 2 (St.map iY)).more (G:=λb=>b≠d/\b≠g) (LH ag) λb f _=>by
     have aF:w6.heap.size<=b:=f;exact⟨by omega,by omega⟩
    have b2:=(rI De).more (G:=λb=>b≠d/\b≠g) (gM aY) λb f _=>by
     have aF:w6.heap.size<=b:=f;exact⟨by omega,by omega⟩
    have b3:=(rI Le).more (G:=λb=>b≠d/\b≠g) (gM ar) λb f _=>by
     have aF:w6.heap.size<=b:=f;exact⟨by omega,by omega⟩
    have cw:=bc.size;have B7:=sZ ax.o bc λb f=>A b (by omega) (by omega);have ad:=ae (Im d k K H Z e g m v De.length cD St.length cT u aD aT (slice aL Le.length cL) (slice none 0 0) (slice none 0 0) _ (λc=>vl.getD c []) rest St De w7 bt bB b0 be b1 b2 (λb f=>f) ab.o rfl rfl (by omega) ch ba ap a0 (by omega) m1 m3 m2 (λx n=>⟨(ac.o x n).1,(ac.o x n).2.1,(ac.o x n).2.2.1⟩));have b5:=ae be;have b6:=ae b3;have b7:=ae B7;have M4:=ae m4;have M6:=ae m6;have M7:=ae m7;have M8:=ae m8;have M9:=ae m9;have aS:=ae bx;have M5:=ae m5;have M2:=ae m2;have ci:=ae (rfl:De.length=De.length);obtain⟨D,hD⟩:∃D,De.length=D:=⟨_,rfl⟩;obtain⟨b8,hT⟩:∃b8,St.length=b8:=⟨_,rfl⟩;obtain⟨NL,bf⟩:∃NL,Le.length=NL:=⟨_,rfl⟩;rw[hD] at ad M7 M8 M9 aS ap;rw[hT] at ad;rw[bf] at ad bz;have aV:=ae hD;have aq:=ae bf;clear hP ag aY ar bt bc bv cg aE aM bw m1 m2 m3 m4 m5 m6 m7 m8 m9 bx bB be b0 b1 b2 b3 B7 bk bl bm ax CO bp bo A hD hT bf ci;go_wp2_with fail;refine ad.o.mono ?_;rintro j w8 ⟨rfl,gw,gm,bb,bw,ar,bx,A,aE⟩;have B8:=sZ b7.o aE λb f=>A b (by omega) (by omega);have aM:=ae (Oa d k K H Z e g gw gm D cD aD _ _ _ _ _ _ _ w8 ar (by omega) (by omega) λb f=>.inr (by omega));have ag:=ae A;have aY:=ae B8;clear ar A B8 aE ad b7;go_wp2_with fail;refine aM.o.mono ?_;rintro j w9 ⟨rfl,ad,A⟩;have bB:=A.1.size;have B9:=sZ aY.o A.1 λb f=>A.2 b (by omega) (by omega) (by omega);have aE:=(gq rest).keep (G:=Any) b5.o λb f C=>⟨(A.2 b (by omega) (by omega) (by omega)).trans (ag.o b C f.1),trivial⟩;have ar:=(rI Le).keep (G:=Any) b6.o λb f C=>⟨(A.2 b (by omega) (by omega) (by omega)).trans (ag.o b C f.1),trivial⟩;rw[aq.o] at ar;have bk:=ae (Ki d k K H Z e g gw gm m v D cD NL cL u aD aL _ _ _ _ _ rest Le w9 ad aE ar ab.o aq.o (by omega) bz ap HK.o HN.o (λi hi=>by have:=M4.o i hi;rw[ab.o] at this;exact this) (λx n=>⟨(ac.o x n).1,(ac.o x n).2.1,(ac.o x n).2.2.1⟩) M7.o);have bl:=ae ad;have bm:=ae B9;clear ad A B9 aE ar aM aY ag b5 b6;go_wp2_with fail;refine bk.o.mono ?_;rintro j A ⟨va,vb,rfl,ad,ar⟩;have b0:=ar.size;have ag:=bl.o.new ar;have bo:=bm.o.trans (ar.mono (by omega));obtain⟨aA,nA,cA,rfl⟩:=ad.oa.sl;obtain⟨aB,nB,cB,rfl⟩:=ad.ob.sl;obtain⟨wA,wB,lA,lB⟩:=Sv (K:=K) (H:=H) (D:=D) (Z:=Z) HN.o M5.o (λJ hr=>M6.o J (M4.o J hr)) M7.o;have bc:=ad.oa.len.1;have aE:=ad.ob.len.1;rw[aG,lA,aq.o] at bc
    rw[aG,lB,aq.o] at aE;rw[aq.o] at lA lB;obtain⟨a',c',e1,bp,-⟩:=fE (M:=uX K H D (rest.map Prod.fst) _ Le) ad.oa.rep (lA.trans bc);injection e1 with e1 _ e3;subst e1 e3;have bt:(rM (yC K H Z (rest.map Prod.fst) (λJ=>(rest.getD J ([],[])).2) _ Le)).ok A _ [slice aB nB cB]:=ad.ob.rep;obtain⟨a',c',e1,bv,-⟩:=fE bt (lB.trans aE);injection e1 with e1 _ e3;subst e1 e3
    have aM:=ae (λ(W:World) (aX:SE) (cX:Nat) (hW:Below A.heap.size A W) (aY:(rM (De.map λc=>y.getD c [])).ok W (λb=>b≠g) [slice aX D cX])=>
     (Qx d k K H Z e g gw gm D cX aX _ _ _ _ _ _ _ _ (λc=>y.getD c []) (De.map λc=>y.getD c []) W (ag.new hW).lt (λb f=>f.2) aY (by rw[aG];exact aV.o) (λJ hr=>by
       obtain⟨c,I,rfl⟩:=aZ.1 hr
       exact ay.o c (M2.o c I)) ba ap a0 (by omega) M7.o (λc I=>⟨aS.o c I,λaY=>by
        cases hkc:kn.getD c false with
        | true=>exact(aK.o c I).1 hkc
        | false=>exact absurd ((aK.o c I).2 hkc) aY⟩) (λc I j=>by
       have h1:=(ay.o c I).1;rw[j] at h1;simp at h1;omega)).mono λj q (h:j=returned (.tuple #[])/\Vls q g e _ (λc=>y.getD c [])/\Kept2 W q g g)=>
     (by
       obtain⟨h1,h2,h3⟩:=h;have C:=(ag.new hW).blk.lt;have b1:=hW.size;refine⟨h1,?_,Vls.more h2 λ_ _=>trivial,sZ (bo.trans (hW.mono (by omega))) h3.1 λb f=>h3.2 b (by omega) (by omega) (by omega)⟩;have e4:=(ag.new hW).blk.cell 4;exact(World.cell?_of_block (a:=⟨d,4,none⟩) (h3.2 d C (λj=>bd j.symm) (λj=>bd j.symm))).trans e4:j=returned (.tuple #[])/\q.cell? ⟨d,4,none⟩=some (slice (some ⟨g,0,none⟩) e e)/\Vls q g e Any (λc=>y.getD c [])/\Below w.heap.size w q))
    have p7:=ag.blk.cell 7;have p0:=ag.blk.cell 0;unfold svC at p7 p0;have be:=ae (Fp.of ag.fld);have bf:=ae bp;have aY:=ae bv;have WA:=ae wA;have WB:=ae wB;have LB:=ae (lB.trans aE);have b2:=ae ba;clear ad ar ag bo wA wB lA lB bp bv bt bk bl bm aK ac M4 M5 M6;by_cases q:D=0
    ·have aK:((D:Int) == 0)=true:=by rw[q];rfl
     have ad:=ae (λ(W:World) (hW:Below A.heap.size A W)=>aM.o W none 0 hW (by
      have j:De.map (λc=>y.getD c [])=[]:=by
       rw[map_eq_nil_iff];exact eq_nil_of_length_eq_zero (by rw[aV.o];exact q)
      rw[j,q];exact⟨none,0,0,rfl,aj _,bE _,λ_=>rfl,rfl,[],rfl,λh=>absurd h (by decide),λi R h=>by simp at h⟩))
     rw[q] at ad;have bk:=ae (M9.o q);clear aM M8 aS bf WA be M9 M7;go_wp2_with fail;refine wp_goto ?_;refine H1.o _ _ ?_;clear p7 p0 aK;have am:=ae (aC A.heap.size A);go_wp2_with fail;go_loopw [95] (λi wr=>∃aa:Nat,aa<=nB/\i=int i64 aa/\Sz (Below A.heap.size A wr)) (λi _=>nB-(intOf i).toNat)
     case atStart=>exact⟨0,by omega,rfl,am⟩
     case round=>
      clear am;obtain⟨aa,bt,rfl,ac⟩:=hrel;by_cases bl:aa<nB
      ·have bv:(aa:Int)<(nB:Int):=by omega
       obtain⟨br,or,a8,c8,rfl,b3,bm,ag,-,ar,bo⟩:=(aY.o.below ac.o (aj _)).at bl;have bp:=bk.o _ (IE (l:=yC K H Z (rest.map Prod.fst) (λJ=>(rest.getD J ([],[])).2) _ Le) (i:=aa) (by rw[LB.o];exact bl));rw[bp,aJ] at bm ag ar;have J:=ae (qV Z c8 _ a8 wr ag ar bo);clear ag bp ar bo;go_wp2_with fail;refine J.o.mono ?_;rintro j ag ⟨rfl,ar,hj⟩;have bo:Sz (Below A.heap.size A ag):=ae (by rw[hj];exact below_drewN ac.o ar);clear hj J ac bm;go_wp2_with fail;go_roundw
       case rel=>exact⟨aa+1,by omega,by go_num,bo⟩
       case measure=>simp[intOf];omega
      ·have J:=ae (ad.o wr ac.o)
       clear ad aY bk ac;go_wp2_with fail;refine wp_label ?_;go_wp2_with fail;refine J.o.mono ?_;rintro j bm ⟨rfl,c4,hV,hB⟩;have HV:=ae hV;have ar:=ae hB;clear hV hB J;go_wp2_with fail;simp only[dL];go_ret2;have S:=HN.o;subst S;exact⟨g,rfl,HV.o,ar.o⟩
    ·have aK:((D:Int) == 0)=false:=by rw[beq_eq_false_iff_ne];omega
     obtain⟨r1,r2⟩:=M8.o (by omega);have bl:1<=H:=(by have:=bn HK.o;omega);have CS:=yT (some ⟨k,0,none⟩) D Z nA cA cB _ _ aA aB A be.o bf.o (by have h:=aY.o;rw[<-aE,bc] at h;exact h) WA.o WB.o ap (by omega) (by omega) (by omega);rw[r1,r2] at CS;have bk:nB=nA:=(by omega);subst bk;have CS:=ae CS;clear r1 r2 M8 M9 aS M7 bf aY WA WB be LB;go_wp2_with fail;refine CS.o.mono ?_;rintro j ag ⟨ai,rfl,ac,ad⟩;have aa:=Ey ac;obtain⟨aX,cX,rfl,-⟩:=RA aa;rw[aG,aG,aV.o] at aa
     have J:=ae (aM.o ag aX cX ad ((rM _).more aa λb f _=>by
      have aF:A.heap.size<=b:=f;omega))
     have b:Sz ((List.map rB (De.map λc=>y.getD c [])).length=D):=ae (by rw[aG,aG];exact aV.o);rw[b.o];clear ac ad aa aM CS;go_wp2_with fail;refine wp_goto ?_;refine H2.o _ _ ?_;go_wp2_with fail;refine J.o.mono ?_;rintro j bm ⟨rfl,c4,hV,hB⟩;have HV:=ae hV;have ar:=ae hB;clear hV hB J p7 p0;go_wp2_with fail;simp only[dL];go_ret2;have S:=HN.o;subst S;exact⟨g,rfl,HV.o,ar.o⟩
theorem Qu{w:World}{d n:Nat}{F:Nat->Prop}{b:List SC}(m:Vls w d n F (λc=>b.getD c []))(f:b.length=n)(o:∀c,c<n->b.getD c []≠[]):RdM w w.heap.size (some ⟨d,0,none⟩) n b:=by
 obtain⟨hs,g,p,q⟩:=m;refine⟨f,hs,⟨p,λ_=>⟨d,0,rfl,g.lt,λa h e=>by rw[Nat.zero_add,g.cell a];simpa using e⟩⟩,λa r h=> ?_⟩;have i:a<n:=by rw[<-f];exact(List.getElem?_eq_some_iff.1 h).1
 have s:b.getD a []=r:=by rw[af,h];rfl
 have e:(rN (b.getD a [])).ok w F [hs.getD a undef]:=q a i;unfold rN at e;rw[bA (o a i)] at e;obtain⟨t,c,j,k,u,l,v⟩:=eU e rfl;rw[s] at j k l;exact⟨t,c,by rw[<-j];simpa using uC (hs:=hs) (by omega),k,u,l,v⟩
theorem Kh(K H Z N c:Nat)(s:Int)(a:SE)(F:Nat->Prop)(L:List (Nat×SC))(f:List SC)(w:World)(E:fQ K H Z=true)(ab:0<=s)(ac:s<4294967296)
 (hL:(iC L).ok w F [slice a N c])(R:L.length=N)(Y:N<=1000)(hm:MidOK K H Z s f)(S:∀x∈L,x.1<=65535/\x.2=iM K H Z s f x.1):
 Calls prog 113 #[dO K H Z,.int .u32 s,slice a N c] w λo d=>(ek K H Z s (L.map Prod.fst)=true->∃v,o=returned (.tuple #[v,int i64 0])/\OwnB d w.heap.size v (rX K H Z s f K))/\
  (ek K H Z s (L.map Prod.fst)=false->o=returned (.tuple #[slice none 0 0,int i64 9]))/\Below w.heap.size w d:=by
 have q:=bn E;have bl:K<=16:=by omega
 have bo:H<=4:=by omega
 have aR:Z<=24:=by omega
 have bp:1<=Z:=by omega
 have bs:1<=K:=by omega
 have g:=ae λw=>gU K H Z w;rw[E] at g;have k:∀x∈L,x.1<=65535/\x.2.length=Z:=λx h=>⟨(S x h).1,by rw[(S x h).2];exact kR E hm x.1⟩;have p:=ae (λ(B:Nat) (b:World) (t:(iC L).ok b (Bl w.heap.size) [slice a N c]) (e:Blk b B 25 #[int i64 K,int i64 H,int i64 Z])=>yc B K H Z N c a _ L b t R Y e k);have CI:=ae (λ(b:World) (t:(iC L).ok b (Bl w.heap.size) [slice a N c])=>Qg N c a _ L b t R Y);have CF:=ae (λ(v:SE) (n j:Nat) (b:World) (t:Rd b b.heap.size v n (bM (L.map Prod.fst))) (e:n<=1000)=>uQ K H Z s (L.map Prod.fst) v n j b E ab ac t (λi j=>by obtain⟨x,aS,rfl⟩:=aZ.1 j;exact(S x aS).1) e);have CD:=ae (λ(b:World) (t:(iC L).ok b (Bl w.heap.size) [slice a N c]) (e:ek K H Z s (L.map Prod.fst)=true)=>OX K H Z N c s a _ L f b E ab ac t R Y hm S e);have CL:=ae λ(id:Nat) w=>zO K H Z s id w ab ac;have b:=ae ((iC L).bl hL);have e:=(aC w.heap.size w).alloc (aj _) (cells #[int i64 K,int i64 H,int i64 Z] 25)
 have j:Sz (Sx w (w.alloc (cells #[int i64 K,int i64 H,int i64 Z] 25)) [bY w.heap.size 25 #[int i64 K,int i64 H,int i64 Z],eR (Bl w.heap.size) (slice a N c) (iC L)]):=
  ae ((((Sx.nil w).add (eR (Bl w.heap.size) (slice a N c) (iC L)) b.o).alloc _).add (bY _ _ _) (Blk.new w 25 #[int i64 K,int i64 H,int i64 Z]))
 have bt:w.heap.size<(w.alloc (cells #[int i64 K,int i64 H,int i64 Z] 25)).heap.size:=by simp
 have aT:Sz ((L.map Prod.fst).length=N):=ae (by rw[aG];exact R);have A:=ae hm;have HK:=ae E;have aV:∀w:World,(Instr.makeSlice 30 (int i64 (Z:Int)) (int i64 (Z:Int))).run prog w=.ok (slice (some ⟨w.heap.size,0,none⟩) Z Z) (w.alloc (cells (bO (replicate Z 0)) 5)):=λw=>eQ (n:=Z) (by omega) w;unfold dO at g CF CD CL;clear q E hL e R S k hm b;unfold dO;go_enter func113,ntmps113;go_upto_region 1 with fail;generalize w.alloc (cells #[int i64 K,int i64 H,int i64 Z] 25)=w0 at*;obtain⟨J,M,O⟩:=lU (j.o.blk 0 rfl);go_wp2_with fail;refine(g.o _).mono ?_;rintro o w1 ⟨rfl,e⟩;have b:=ae (j.o.step e);have bv:=e.size;clear e j J M O g;go_wp2_with fail;refine(p.o _ _ (b.o.rep 1 rfl) (b.o.blk 0 rfl)).mono ?_;rintro o w2 ⟨rfl,e⟩;have S2:=ae (b.o.step e);have bw:=e.size;obtain⟨J,M,O⟩:=lU (S2.o.blk 0 rfl);clear e b p;go_upto_region 3 with fail;go_cut [30] (λv b=>v=bool (!ek K H Z s (L.map Prod.fst))/\Sz (Sx w b [bY w.heap.size 25 #[int i64 K,int i64 H,int i64 Z],eR (Bl w.heap.size) (slice a N c) (iC L)])/\Sz (w2.heap.size<=b.heap.size))
 case first=>
  go_region_held3 (λd=>d.cell? ⟨w.heap.size,0,none⟩=some (int i64 K)/\d.cell? ⟨w.heap.size,1,none⟩=some (int i64 H)/\d.cell? ⟨w.heap.size,2,none⟩=some (int i64 Z)) (go_keep) (first
   | (go_at_call 174
      refine(CI.o _ (S2.o.drew.rep 1 rfl)).mono ?_;rintro o G ⟨v,rfl,P,e⟩;have b:=ae (S2.o.drew.step e);have g:w2.heap.size<=G.heap.size:=e.size;obtain⟨k,p,rfl,d,-⟩:=dY (gM P) aT.o;have j:=ae d;obtain⟨m0,m1,m2⟩:=lU (b.o.blk 0 rfl);clear P e d)
   | (go_at_call 173
      refine(CF.o _ _ _ _ j.o Y).mono ?_;rintro o q ⟨rfl,e⟩;have Q:=ae (b.o.step e);have d:=ae (aP g e.size);obtain⟨r,u,y⟩:=lU (Q.o.blk 0 rfl);clear e))
  all_goals(
   go_wp2_with fail;go_meet;exact⟨rfl,Q,d⟩)
 case rest=>
  obtain⟨rfl,T,aX⟩:=hcut;obtain⟨J,M,O⟩:=lU (T.o.blk 0 rfl);have bx:=aX.o;clear S2 CI CF;cases hfb:ek K H Z s (L.map Prod.fst) with
  | false=>
    have ad:=ae hfb;clear hfb CD;go_wp2_with fail;go_ret2;exact⟨λh=>absurd (h.symm.trans ad.o) (by decide),λ_=>rfl,T.o.1⟩
  | true=>
    have g:=ae (CD.o wc (T.o.rep 1 rfl) hfb);have ad:=ae hfb;clear hfb CD;go_wp2_with fail;refine g.o.mono ?_;rintro o u ⟨gv,rfl,j,e⟩;have Q:=ae (T.o.step e)
    have k:∀c,c<K+H->f.getD c []≠[]:=λc b o=>by
     have t:=(A.o.row b).1;rw[o] at t;simp at t;omega
    have ap:=ae (Qu j A.o.len k);have bz:=e.size;obtain⟨n,d⟩:∃n,K+H=n:=⟨_,rfl⟩;rw[d] at ap;have U:=ae d;rw[d];obtain⟨p,q,r⟩:=lU (Q.o.blk 0 rfl);have aq:Sz (OwnB u u.heap.size (slice none 0 0) (rX K H Z s f 0)):=ae (OwnB.nil _ _);have ar:=ae (aC u.heap.size u);clear j e d k g T J M O;go_wp2_with fail;clear p q r;go_loopw [10,43] (λv i wr=>∃d:Nat,d<=K/\i=int i64 d/\Sz (OwnB wr u.heap.size v (rX K H Z s f d))/\Sz (Below u.heap.size u wr)) (λ_ i _=>K-(intOf i).toNat)
    case atStart=>exact⟨0,by omega,rfl,aq,ar⟩
    case round=>
     clear aq ar;obtain⟨d,bB,rfl,C,V⟩:=hrel;have b0:=V.o.size;obtain⟨ao,no,co,rfl,b1⟩:=OwnB.sl C.o;by_cases b2:d<K
     ·have b3:(d:Int)<(K:Int):=by omega
      generalize wr=q at*;have j:=ae (Q.o.step V.o);obtain⟨J,M,O⟩:=lU (j.o.blk 0 rfl);have k:=(aC q.heap.size q).alloc (aj _) (cells (bO (replicate Z 0)) 5);have g:=ae ((j.o.step k).add (bY q.heap.size 5 (bO (replicate Z 0))) (Blk.new q _ _));have aY:(q.alloc (cells (bO (replicate Z 0)) 5)).heap.size=q.heap.size+1:=(by simp);have au:=ae k;obtain⟨m0,m1,m2⟩:=lU (g.o.blk 1 rfl);have p:=ae (CL.o d);clear k j;go_upto_region 13 with(simp only[aV]);clear J M O;generalize q.alloc (cells (bO (replicate Z 0)) 5)=w3 at*;obtain⟨j,k⟩:∃j,j=q.heap.size:=⟨_,rfl⟩;rw[<-k] at g aY au;have aw:u.heap.size<=j:=(by omega);have a0:=ae k;have a1:=C;have ax:=V;have r:∀c∈iO K H Z s (d:Nat),c<n:=(by rw[<-U.o];exact(lG (s:=s) (id:=(d:Nat)) HK.o).1);have a2:Sz (iM K H Z s f d=bZ (λc=>f.getD c []) (iO K H Z s (d:Nat)) (replicate Z 0)):=ae rfl;have b5:=Ce K H Z s (d:Nat);have ag:=ae r;rw[<-k];clear C V r k;generalize iO K H Z s (d:Nat)=k at*;go_wp2_with fail;refine(p.o _).mono ?_;rintro o G ⟨v,rfl,P,e⟩;obtain⟨aL,cL,rfl⟩:=P.lenA;have C:=ae P;have S7:=ae (g.o.step e);have b6:=e.size;have ay:=ae (au.o.trans (e.mono (by omega)));have r:=grownBy_refl G (some j);have az:=ae r;have aA:Sz (Blk G j 5 (bO (bZ (λc=>f.getD c []) (k.take 0) (replicate Z 0)))):=ae (S7.o.blk 0 rfl);have a3:=ae (ax.o.trans (ay.o.mono aw));have aB:=ae (ap.o.below a3.o (aj _));have I:∀d,(bZ (λc=>f.getD c []) (k.take d) (replicate Z 0)).length=Z:=λd=>fM aJ λc b=>(A.o.row (by rw[U.o];exact ag.o c (bI b))).1;have aa:∀d,By (bZ (λc=>f.getD c []) (k.take d) (replicate Z 0)):=λd=>(dU (D:=Z) (Byt.zero Z) λc b=>A.o.row (by rw[U.o];exact ag.o c (bI b))).2;have a4:=ae I;have a5:=ae aa;generalize b:k.length=W at*;have HQ:=ae b;clear b P e r I aa g p m0 m1 m2;generalize b:w3.heap.size=b7 at*;clear b;have b8:j<G.heap.size:=(by omega);go_wp2_with fail;go_loopw [54] (λi wr=>∃g:Nat,g<=W/\i=int i64 g/\Sz (Blk wr j 5 (bO (bZ (λc=>f.getD c []) (k.take g) (replicate Z 0))))/\Sz (G.grownBy wr (some j))) (λi _=>W-(intOf i).toNat)
      case atStart=>exact⟨0,by omega,rfl,aA,az⟩
      case round=>
       clear aA az;obtain⟨g,b9,rfl,p,r⟩:=hrel;by_cases aD:g<W
       ·have ca:(g:Int)<(W:Int):=by omega
        have b:g<k.length:=(by rw[HQ.o];exact aD);obtain⟨gL,rfl,cb,a7⟩:=C.o.formA HQ.o (by omega);obtain⟨am,-⟩:=C.o.cellA HQ.o aD;have a8:wr.cell? ⟨gL,g,none⟩=some (int i64 (k.getD g 0:Nat)):=(iW r.o a7 (by omega)).trans am;have ai:k.getD g 0<n:=ag.o _ (by rw[getD_at b];exact aQ b);obtain⟨bm,om,a',c',ak,cc,y,al,-⟩:=aB.o.at ai;injection ak with ak;injection ak with a9 ba _;subst a9 ba;rw[Nat.zero_add] at y;have aE:wr.cell? ⟨gv,k.getD g 0,none⟩=some (slice a' (f.getD (k.getD g 0) []).length c'):=(iW r.o (by omega) (by omega)).trans y;have X:=(A.o.row (by rw[U.o];exact ai)).1;have bb:=(A.o.row (by rw[U.o];exact ai)).2;rw[X] at aE al;have bc:=ae (o9 (m:=λc=>f.getD c []) (z:=replicate Z 0) b);have I:=a4.o g;have aa:=a5.o g;have cd:((k.getD g 0:Nat):Int)<(n:Int):=(by omega);have bd:=ae al;clear am y b al;generalize f.getD (k.getD g 0) []=y at*;generalize bZ (λc=>f.getD c []) (k.take g) (replicate Z 0)=D at*;generalize b:bZ (λc=>f.getD c []) (k.take (g+1)) (replicate Z 0)=D2 at*;have be:=ae b;clear b;generalize k.getD g 0=x at*;rename World=>q;have aF:Sz (Blk q j 5 (bO (Ac D y 0))):=ae (by rw[wW];exact p.o);go_wp2_with fail;go_loopw [63] (λi wr=>∃b:Nat,b<=Z/\i=int i64 b/\Sz (Blk wr j 5 (bO (Ac D y b)))/\Sz (G.grownBy wr (some j))) (λi _=>Z-(intOf i).toNat)
        case atStart=>exact⟨0,by omega,rfl,aF,r⟩
        case round=>
         clear aF r p a8 aE;obtain⟨b,bf,rfl,p,r⟩:=hrel;by_cases al:b<Z
         ·have ce:(b:Int)<(Z:Int):=by omega
          obtain⟨br,bh,rfl,cf,aK⟩:=bd.o.2 (by omega);have aM:=aK b (.int .u8 (y.getD b 0:Nat)) (eP (by omega));have cg:wr.cell? ⟨br,bh+b,none⟩=some (.int .u8 (y.getD b 0:Nat)):=(iW r.o (by omega) (by omega)).trans aM
          have hd:wr.cell? ⟨j,b,none⟩=some (.int .u8 (D.getD b 0:Nat)):=by
           rw[p.o.cell b];have:=eP (l:=Ac D y b) (i:=b) (by rw[Ae I X bf];exact al);rw[Af I X al] at this;simpa[bO] using this
          have ch:=p.o.frozen b;have bi:=getD_lt bb b;have bj:=getD_lt aa b;have ci:=u8_xor_nat (D.getD b 0) (y.getD b 0) bj bi;have am:=p.o.set b (.int .u8 ((D.getD b 0 ^^^ y.getD b 0:Nat):Int));rw[mf,Ag I X al] at am;have an:=ae am;have bk:=ae (qP r.o b (.int .u8 ((D.getD b 0 ^^^ y.getD b 0:Nat):Int)));clear am aK aM p r;generalize D.getD b 0 ^^^ y.getD b 0=am at*;generalize D.getD b 0=y1 at*;generalize y.getD b 0=y2 at*;go_wp2_with fail;go_roundw
          case rel=>exact⟨b+1,by omega,by go_num,an,bk⟩
          case measure=>simp[intOf];omega
         ·obtain rfl:b=Z:=by omega
          have an:Sz (Blk wr j 5 (bO (bZ (λc=>f.getD c []) (k.take (g+1)) (replicate b 0)))):=ae (by rw[be.o,bc.o,<-Ad I X];exact p.o);go_wp2_with fail;go_roundw
          case rel=>exact⟨g+1,by omega,by go_num,an,r⟩
          case measure=>simp[intOf];omega
       ·obtain rfl:g=W:=by omega
        rw[aN (by rw[HQ.o];exact aj _),<-a2.o] at p;have an:(iM K H Z s f d).length=Z:=kR HK.o A.o d;have b:Sz (Below j q wr):=ae (ay.o.grown r.o (by omega) λy e=>by injection e with e;omega);have X:Sz (OwnB wr u.heap.size (slice ao no co) (rX K H Z s f d)):=ae (gQ a1.o (by rw[<-a0.o];exact b.o));have a9:=b.o.size;have aE:u.heap.size<=wr.heap.size:=(by omega);have y:Rd wr wr.heap.size (some ⟨j,0,none⟩) Z (bK (iM K H Z s f d)):=⟨by rw[bL];exact an,λ_=>⟨j,0,rfl,p.o.lt,λi ai hu=>by rw[Nat.zero_add,p.o.cell i];simpa[bO] using hu⟩⟩;have ai:=ae y
        have aF:(rX K H Z s f d).length+Z<=1000000:=by
         rw[Lu HK.o A.o];have:=bC (show d<=16 by omega) aR;omega
        have ak:=ae (ax.o.trans (b.o.mono aw));have aK:=ae (yQ K H Z s f d);clear y p aB C r
        go_wp2_with (at_builtin;refine mM rfl _ _ rfl X.o aE aF rfl rfl (λo=>by cases o) ai.o ?_)
        intro v6 w6 y al aM a7;rw[<-aK.o] at y;have am:=ae y;have a8:=ae (ak.o.trans al);obtain⟨a6,n6,c6,rfl,h6⟩:=OwnB.sl am.o;clear y al aM a7 X ai ak h6;go_wp2_with fail;go_roundw
        case rel=>exact⟨d+1,by omega,by go_num,am,a8⟩
        case measure=>simp[intOf];omega
     ·obtain rfl:d=K:=by omega
      have b:=ae (Q.o.1.trans (V.o.mono (by omega)));go_wp2_with fail;go_ret2;exact⟨λ_=>⟨_,rfl,C.o.base (by omega)⟩,λh=>absurd (h.symm.trans ad.o) (by decide),b.o⟩
theorem PN(xs:SC)(a b:SE)(n c d:Nat)(w:World)(e:Rd w w.heap.size a n (bK xs))(f:Rd w w.heap.size b n (bK xs))(i:n<=1000000):
 Calls prog 20 #[slice a n c,slice b n d] w λg h=>g=returned (bool true)/\∃j,h=w.drewN j:=by
 rw[Cu] at e f;have g:=Pi _ _ a b n n c d w e f (by unfold maxLen;omega) (by unfold maxLen;omega);rw[bq rfl] at g;exact g
theorem za:prog.eqGuardType prog.depth 25=false:=by kernel_rfl
theorem Gt(K H Z:Nat)(w:World):(binOp .neq 25 (.agg #[int i64 K,int i64 H,int i64 Z]) (.agg #[int i64 K,int i64 H,int i64 Z])).run prog w=.ok (bool false) w:=by
 have a:prog.underlying 25=some (.struct (prog.fieldsOf 25)):=by kernel_rfl
 have b:prog.stoodInHeld 25=false:=by kernel_rfl
 rw[run_neq_struct,show(10000:Nat)=9999+1 from rfl,run_equalIn_agg w 9999 _ _ _ a b];simp only[Program.fieldsOf,underlying25];go_simp
theorem MJ{k:Nat}{L:List Rp}{w:World}{F:Nat->Prop}{a:List Value}{n:Nat}(b:0<k)(d:L.length=n)(e:a.length=n*k)(f:∀(i:Nat) R,L[i]? =some R->R.ok w F ((a.drop (i*k)).take k)):∀u∈a,u.oneCell'=true:=λu g=>by
 obtain⟨i,c,rfl⟩:=bH g;have g:i/k<L.length:=by rw[d];exact(Nat.div_lt_iff_lt_mul b).2 (by rw[<-e];exact c)
 have h:=f (i/k) _ (ah g);refine Rp.one _ h _ (mem_of_getElem? (i:=i%k) ?_);rw[List.getElem?_take,bu (Nat.mod_lt _ b),List.getElem?_drop,show i/k*k+i%k=i by rw[Nat.mul_comm];exact Nat.div_add_mod i k];exact ah c
theorem Jn{P:Program}{w:World}{ops:Array Oper}{o:Oper}{a:Act}{K:Act->World->Prop}{Q:Exit->Act->World->Prop}{E:Prop}(H:o.guard=none)(s x:Operand){T e:TypeId}{z:Value}{k h:Nat}
 (I:o.op=.call { callee:=.builtin .append,args:=#[s,x],argTypes:=#[T,T] })(J:P.underlying T=some (.slice e))(M:(P.info? e).map (λf=>(f.zero,f.size,f.bytes))=some (some z,k,h))(N:z.cells.size=k)(n:0<k)(O:h<=1000)
 {C m c:Nat}{v:Value}{ad:Addr}{L LX:List Rp}{F:Nat->Prop}(p:OwnS w C e k F v L)(q:C<=w.heap.size)(R:L.length+m<=1000000)
 (S:(rS k LX).ok w (λb=>F b/\some b≠v.ownBlock) [slice (some ad) m c])(hs:a.eval s=v)(U:a.eval x=slice (some ad) m c)
 (V:∀d g,OwnS g C e k F d (L++LX)->Below C w g->w.heap.size<=g.heap.size->(∀b,b<w.heap.size->some b≠v.ownBlock->g.heap[b]? =w.heap[b]?)->(d.ownBlock=v.ownBlock\/∃b,d.ownBlock=some b/\w.heap.size<=b)->K (a.put o.dst d) g):
 if Region.wanted o (yielded ops a.tmps)=true then Oper.wp P o a w K Q else E:=by
 have W:=p.lt;obtain⟨X,r,Y⟩:=p;obtain⟨f,Z,aa,ab,ac⟩:=info_parts M;obtain⟨am,m',c',e,g1,g2,g3,t,u,y,g6,A⟩:=S;injection e with e _;injection e with e1 e2 e3;subst e1 e2 e3;have hw:Region.wanted o (yielded ops a.tmps)=true:=by simp[Region.wanted,H]
 rw[bu hw]
 have ag:∀(g:Nat) (i:Value),u[g]? =some i->w.cell? (ad.add g)=some i:=by
  intro g i D;have an:=(List.getElem?_eq_some_iff.1 D).1;obtain⟨b,o,e,hF,hc⟩:=g6 (by omega);obtain rfl:=Option.some.inj e;rw[Addr.add_lit];exact hc g i D
 have l:(L.length+m)*h<=140737488355328:=by
  have:=bC R O;omega
 obtain⟨d,w',ai,ak,j,_,G⟩:=run_append_own_at (P:=P) w C T o.type e f z k h J Z aa ab ac N n v L.length X r ad m c u y ag (MJ n t y A) (by unfold maxLen;omega) l q;unfold Oper.wp execOp;simp only[I,resolve,invoke,builtin,Sem.run_bind,Sem.run_pure,Result.andThen_ok,map_toArray,map_cons,map_nil,hs,U,ai];exact V d w' (OwnS.app r Y A (by rw[t];exact ak) j G) ((aC _ _).grown j q λb al=>(W b al).1) j.size (λb l al=>j.block b l al) (G.elim .inl λe=>.inr ⟨_,e,aj _⟩)
theorem Pz{k:Nat}{R:Rp}{w:World}{F:Nat->Prop}{g:Nat}{t:TypeId}{a:Array Value}(e:Blk w g t a)(c:R.ok w F a.toList)(f:R.sz=k)(h:F g):(rS k [R]).ok w F [slice (some ⟨g,0,none⟩) 1 1]:=by
 have i:a.toList.length=k:=by rw[R.len c];exact f
 refine⟨_,1,1,rfl,aj _,by unfold maxLen;omega,λb=>(by cases b),rfl,a.toList,by rw[i];omega,λ_=>⟨g,0,rfl,h,λb m j=> ?_⟩,λb l d=> ?_⟩
 ·rw[Nat.zero_add,Blk.cell e]
  simpa using j
 ·cases b with
  | succ b=>simp at d
  | zero=>
    obtain rfl:R=l:=(by simpa using d);rw[Nat.zero_mul,drop_zero,aN (by omega)];exact c
theorem pz{c a B:Prop}[Decidable c](b:c)(d:a):(if c then a else B):=by rw[bu b];exact d
theorem Gu{P:Program}{w:World}{o:Oper}{a:Act}{K:Act->World->Prop}{Q:Exit->Act->World->Prop}(g:o.guard=none)(s x:Operand){T e:TypeId}{z:Value}{k h:Nat}
 (i:o.op=.call { callee:=.builtin .append,args:=#[s,x],argTypes:=#[T,T] })(j:P.underlying T=some (.slice e))(l:(P.info? e).map (λd=>(d.zero,d.size,d.bytes))=some (some z,k,h))(n:z.cells.size=k)(p:0<k)(q:h<=1000)
 {C m c:Nat}{v:Value}{ad:Addr}{L LX:List Rp}{F:Nat->Prop}(r:OwnS w C e k F v L)(t:C<=w.heap.size)(u:L.length+m<=1000000)
 (y:(rS k LX).ok w (λb=>F b/\some b≠v.ownBlock) [slice (some ad) m c])(hs:a.eval s=v)(A:a.eval x=slice (some ad) m c)
 (D:∀f d,OwnS d C e k F f (L++LX)->Below C w d->w.heap.size<=d.heap.size->(∀b,b<w.heap.size->some b≠v.ownBlock->d.heap[b]? =w.heap[b]?)->(f.ownBlock=v.ownBlock\/∃b,f.ownBlock=some b/\w.heap.size<=b)->K (a.put o.dst f) d):
 Oper.wp P o a w K Q:=by
 have d:=Jn (ops:=#[]) (E:=True) (Q:=Q) g s x i j l n p q r t u y hs A D
 rwa [bu (by simp[Region.wanted,g])] at d
theorem OwnI.keepO{w w':World}{C:Nat}{v:Value}{xs:SC}(a:OwnI w C v xs)(c:∀b,v.ownBlock=some b->w'.heap[b]? =w.heap[b]?):OwnI w' C v xs:=dB a c
theorem Gv{w:World}{o:Oper}{a:Act}{K:Act->World->Prop}{Q:Exit->Act->World->Prop}(d:o.guard=none)(s x:Operand){C y g:Nat}{v:Value}{xs:SC}
 (f:o.op=.call { callee:=.builtin .append,args:=#[s,x],argTypes:=#[22,22] })(h:OwnI w C v xs)(i:C<=w.heap.size)(r:xs.length<=1000000)(e:Blk w g 3 #[int i64 (y:Int)])
 (hs:a.eval s=v)(j:a.eval x=slice (some ⟨g,0,none⟩) 1 1)
 (k:∀b c,OwnI c C b (xs++[y])->w.grownBy c v.ownBlock->(b.ownBlock=v.ownBlock\/b.ownBlock=some w.heap.size)->K (a.put o.dst b) c):
 Oper.wp prog o a w K Q:=by
 have l:Rd w w.heap.size (some ⟨g,0,none⟩) 1 [int i64 (y:Int)]:=⟨rfl,λ_=>⟨g,0,rfl,e.lt,λn m c=>by rw[Nat.zero_add,e.cell];simpa using c⟩⟩;have n:=mZ (P:=prog) (ops:=#[]) (E:=True) (Q:=Q) d s x 22 f C 3 (int i64 0) 8 underlying22 je rfl v xs.length (bM xs) hs h w.heap.size (some ⟨g,0,none⟩) 1 1 _ j (λp=>by cases p) l (λm c=>by rw[mem_singleton] at c;rw[c];rfl) (by omega) (by unfold maxLen;omega) i λb c m p q=>k b c (OwnI.append m) p q
 rwa [bu (by simp[Region.wanted,d])] at n
section
variable {B:Nat}
def Fd(w:World)(b:Nat):Prop:=¬Md w b
theorem Fd.keep{w w':World}{b:Nat}(a:Fd w b)(c:w'.heap[b]? =w.heap[b]?):Fd w' b:=λd=>a (d.keep c.symm)
theorem Rp.chgD(R:Rp){w w':World}{c:List Value}(a:R.ok w (Fd w) c)(d:ChgD B w w'):R.ok w' (Fd w') c:=
 R.keep a λe b f=>⟨d.block e f λa=>b a.2,b.keep (d.block e f λa=>b a.2)⟩
theorem Rp.fd(R:Rp){w w':World}{a:List Value}(b:R.ok w (Fd w) a)(c:Below w.heap.size w w'):R.ok w' (Fd w') a:=R.chgD (B:=0) b (ChgD.below c)
theorem OwnI.chgD{w w':World}{C:Nat}{v:Value}{l:SC}(a:OwnI w C v l)(d:ChgD B w w'):OwnI w' C v l:=
 a.keepO λb c=>d.block b (a.ltA b c).2 λe=>Md.not (a.ty b c) (by decide) (by decide) e.2
def dG(x:Nat×SC):Rp:=rP (rV (int i64 x.1)) (rB x.2)
def wK:Nat×SC:=(0,[])
theorem Bw{P:List (Nat×SC)}{w:World}{F:Nat->Prop}{a:SE}{n c i:Nat}(h:(rS 2 (P.map dG)).ok w F [slice a n c])(x:P.length=n)(j:i<n):
 ∃b o d e,a=some ⟨b,o,none⟩/\F b/\b<w.heap.size/\w.cell? ⟨b,o+i*2,none⟩=some (int i64 (P.getD i wK).1)/\w.cell? ⟨b,o+i*2+1,none⟩=some (slice d (P.getD i wK).2.length e)/\(rB (P.getD i wK).2).ok w F [slice d (P.getD i wK).2.length e]:=by
 have k:i<P.length:=by omega
 have l:(P.map dG)[i]? =some (dG (P.getD i wK)):=by rw[List.getElem?_map,af,ah k];rfl
 obtain⟨b,o,y,rfl,m,p,q,z,g⟩:=su h (by decide) j l;obtain⟨r,A,rfl,s,f⟩:=q;have t:r=[int i64 (P.getD i wK).1]:=s.1;subst t;have u:=(rB (P.getD i wK).2).len f;obtain⟨C,rfl⟩:=length_eq_one_iff.1 u;obtain⟨d,e,v,-⟩:=eU f rfl;subst v;exact⟨b,o,d,e,rfl,m,p,g 0 _ rfl,g 1 _ rfl,f⟩
end
section
variable {B:Nat}
theorem Ja{w:World}{ops:Array Oper}{rest:List Oper}{o:Oper}{a:Act}{Q:Exit->Act->World->Prop}(e:o.guard=none)(s x:Operand){C y:Nat}{i:Int}{v:Value}{xs:SC}(f:i=(y:Int))
 (g:o.op=.call { callee:=.builtin .append,args:=#[s,x],argTypes:=#[22,22] })
 (h:OwnI w C v xs)(j:C<=w.heap.size)(u:xs.length<=1000000)(hs:a.eval s=v)(k:a.eval x=slice (some ⟨w.heap.size,0,none⟩) 1 1)
 (K:∀c b,OwnI b C c (xs++[y])->Chg (λd=>some d=v.ownBlock) w b->wpList prog ops Q rest (a.put o.dst c) b):
 wpList prog ops Q (o :: rest) a (w.alloc (cells #[int i64 i] 3)):=by
 subst f;have d:=(aC w.heap.size w).alloc (aj _) (cells #[int i64 (y:Int)] 3);have l:OwnI (w.alloc (cells #[int i64 (y:Int)] 3)) C v xs:=gQ h d;have m:=aP j d.size;have n:=fe w #[int i64 (y:Int)] 3 0;generalize w.alloc (cells #[int i64 (y:Int)] 3)=p at*;refine kD (P:=prog) p e s x 22 g C 3 (int i64 0) 8 underlying22 je rfl v xs.length (bM xs) hs l w.heap.size (int i64 (y:Int)) k n rfl (by omega) (by unfold maxLen;omega) m λc b q r z=> ?_;refine K c b ?_ ((Chg.of d).trans (Chg.grown r λA t _=>t.symm));unfold OwnI;rw[aI];have t:bM (xs++[y])=bM xs++[int i64 (y:Int)]:=by unfold bM;rw[aU];rfl
 rw[t];exact q
theorem ChgD.newer{w w1 d:World}{M:Nat->Prop}(a:ChgD B w w1)(k:Chg M w1 d)(f:∀b,M b->w.heap.size<=b):ChgD B w d:=
 ⟨k.os.trans a.os,k.tape.trans a.tape,k.output.trans a.output,aP a.size k.size,λc e g=>(k.block c (aW e a.size) λh=>by have:=f c h;omega).trans (a.block c e g)⟩
end
theorem sj(m:cZ)(ag:m.objs.length<=1)(e g:SE)(d f b c:Nat)(F:Nat->Prop)(w:World)(S:(rI m.drives).ok w F [slice e d f])(T:m.drives.length=d)(U:(rS 4 (m.objs.map df)).ok w F [slice g b c])(V:m.objs.length=b)(hm:gP m):
 Calls prog 91 #[.agg (bV m (slice e d f) (slice g b c))] w λa K=>a=returned (bool true)/\Below w.heap.size w K:=by
 obtain⟨⟨q,s⟩,l,i,u,⟨n,E⟩,q8,j⟩:=hm
 have v:Sz (Sx w (w.alloc (cells (bV m (slice e d f) (slice g b c)) 68)) [bY w.heap.size 68 (bV m (slice e d f) (slice g b c)),eR F (slice e d f) (rI m.drives),eR F (slice g b c) (rS 4 (m.objs.map df))]):=
  ae (((((Sx.nil w).add (eR F (slice g b c) (rS 4 (m.objs.map df))) U).add (eR F (slice e d f) (rI m.drives)) S).alloc _).add (bY _ _ _) (Blk.new w _ _))
 have ai:=bn i;have W:=ae j;have X:=ae V;have x:=ae λw=>il (m.seq:Nat) 1 2147483647 w;have y:=ae λw=>il (m.next:Nat) 0 16777216 w;have A:=ae λw=>il (m.extra:Nat) 0 16 w;rw[bq (show(1:Int)<=(m.seq:Nat)/\((m.seq:Nat):Int)<=2147483647 by omega)] at x;rw[bq (show(0:Int)<=(m.next:Nat)/\((m.next:Nat):Int)<=16777216 by omega)] at y;rw[bq (show(0:Int)<=(m.extra:Nat)/\((m.extra:Nat):Int)<=16 by omega)] at A;have r:=ae λw=>gU m.K m.H m.Z w;rw[i] at r;have C:=ae λw (h:(rI m.drives).ok w F [slice e d f])=>Ju m.drives w.heap.size e d f 63 w (by obtain⟨a',c',a,z,-⟩:=BN h;injection a with L M D;subst L D;rw[show(bM m.drives).length=d by simpa[bM] using T] at z;exact z) (by omega) n;have Y:=ae λ(a:eB) (G:a∈m.objs) (o:SE) (p:Nat) w (h:(rI a.tries).ok w F [slice o a.tries.length p]) (H:a.tries.length<=1000)=>En m a (slice e d f) (slice g b c) o a.tries.length p F w h rfl H (j.1 a G) i l rfl rfl;have ak:(b:Int)<=12:=by omega
 have al:b<=1:=by omega
 have ac:=ae i;unfold bV at*;unfold dO at r;clear S U j i n T q s l u E V;go_enter func91,ntmps91;go_wp2_with fail;generalize w.alloc (cells #[int i64 m.seq,int i64 m.next,int i64 m.K,int i64 m.H,int i64 m.Z,int i64 m.extra,slice e d f,slice g b c] 68)=w0 at*;refine(x.o _).mono ?_;rintro a i ⟨rfl,rfl⟩;obtain⟨j,l,n,m3,o,p,q,s⟩:=bW (v.o.blk 0 rfl);go_wp2_with fail;refine(y.o _).mono ?_;rintro a i ⟨rfl,rfl⟩;go_wp2_with fail;refine(r.o _).mono ?_;rintro a w1 ⟨rfl,u⟩;have E:=ae (v.o.step u);clear u v j l n m3 o p q s;obtain⟨j,l,n,m3,o,p,q,s⟩:=bW (E.o.blk 0 rfl);go_wp2_with fail;refine(A.o _).mono ?_;rintro a i ⟨rfl,rfl⟩;go_wp2_with fail;refine(C.o _ (E.o.rep 1 rfl)).mono ?_;rintro a i ⟨rfl,rfl⟩;go_wp2_with fail;have Z:=ae (aC i.heap.size i);clear x y A r C j l n m3 o p q s;generalize r:w.heap.size=Gm at*;have am:=ae r;clear r;go_loopw [40] (λr wr=>∃k:Nat,k<=b/\r=int i64 k/\Sz (Below i.heap.size i wr)) (λr _=>b-(intOf r).toNat)
 case atStart=>exact⟨0,by omega,rfl,Z⟩
 case round=>
  clear Z;obtain⟨k,an,rfl,G⟩:=hrel;have A:=ae (E.o.step G.o);by_cases aa:k<b
  ·obtain rfl:k=0:=by omega
   obtain rfl:b=1:=(by omega);obtain⟨H,I,v,x,rfl,hF,u,Q,R,d2,d3,z⟩:=zJ (A.o.rep 2 rfl) X.o aa;rw[Nat.zero_mul,Nat.add_zero] at Q R d2 d3;have N:m.objs.getD 0 fI∈m.objs:=(by rw[af,ah (by rw[X.o];exact aa)];exact aQ _);have ad:=oU (W.o.1 _ N) ac.o;have C:=(aC wr.heap.size wr).alloc (aj _) (cells (fJ (m.objs.getD 0 fI) (slice v (m.objs.getD 0 fI).tries.length x)) 65);have O:=ae λy (r:Below (wr.alloc (cells (fJ (m.objs.getD 0 fI) (slice v (m.objs.getD 0 fI).tries.length x)) 65)).heap.size (wr.alloc (cells (fJ (m.objs.getD 0 fI) (slice v (m.objs.getD 0 fI).tries.length x)) 65)) y)=>Y.o _ N v x y ((rI _).new z (C.trans (r.mono C.size))) (by omega);have r:=ae ((A.o.step C).add (bY wr.heap.size 65 _) (Blk.new wr _ (fJ (m.objs.getD 0 fI) (slice v (m.objs.getD 0 fI).tries.length x))));have J:=ae (G.o.trans (C.mono G.o.size));have CA:=ae λw (ab:Nat) (P:(rS 4 (([]:List eB).map df)).ok w F [slice (some ⟨H,I,none⟩) 0 c])=>zK (λ_=>false) 150 #[pointer (some ⟨ab,0,none⟩)] [] F (some ⟨H,I,none⟩) 0 c w P rfl (by omega) (enters_of func150 (by kernel_rfl) rfl) (λab P=>absurd P (by simp))
   have ab:Sz (∀y,(rS 4 (m.objs.map df)).ok y F [slice (some ⟨H,I,none⟩) 1 c]->(rS 4 (([]:List eB).map df)).ok y F [slice (some ⟨H,I,none⟩) 0 c]):=ae λy h=>by
    have:=Lf (t:=4) (k:=0) (by omega) h (bE _);simpa using this
   have ao:1<=c:=(by obtain⟨_,_,_,a,h1,_⟩:=A.o.rep 2 rfl;injection a with a _;injection a with _ M D;omega);have ap:(0:Int)<=(c:Int):=(by omega);have aq:¬c=0:=(by omega);clear C z N ad hF A G Y E W;generalize m.objs.getD 0 fI=a at*;unfold fJ at O r J;go_upto_region 8 with fail;clear Q R d2 d3;generalize wr.heap.size=G4 at*;generalize wr.alloc (cells #[.string a.name,int i64 a.obj,int i64 a.len,slice v a.tries.length x] 65)=w4 at*;obtain⟨R,L,M,D⟩:=fO (r.o.blk 0 rfl);obtain⟨j,l,n,m3,o,p,q,s⟩:=bW (r.o.blk 1 rfl);refine dn (by kernel_rfl) (by kernel_rfl) ?_
   iterate 20 (
    with_reducible refine wpQuiet_step (λP C=> ?_)
    go_simp
    first
    | refine C _ ?_
    | refine⟨_,λ_ _=>rfl,C _ ?_⟩
    | (apply Exists.intro
       refine⟨λK y=> ?_,C _ ?_⟩
       ·obtain⟨ar,au,av,aw,ax,ay,az,aA⟩:=bW ((r.o.step y).blk 1 rfl)
        obtain⟨aB,aD,aE,aF⟩:=fO ((r.o.step y).blk 0 rfl)
        first
        | (go_simp
           first | exact rfl | exact⟨rfl,rfl⟩)
        | (refine(O.o K y).mono ?_
           rintro ad N ⟨rfl,Q⟩;exact⟨rfl,y.trans (Q.mono y.size)⟩))
    clear C P)
   with_reducible refine wpQuiet_nil ?_
   intro N C;have P:=ae (r.o.step C);have Q:=ae (J.o.trans (C.mono J.o.size));clear R L M D j l n m3 o p q s;obtain⟨j,l,n,m3,o,p,q,s⟩:=bW (P.o.blk 1 rfl);have R:=ae (CA.o N G4 (ab.o N (P.o.rep 3 rfl)));rw[any_nil] at R;clear CA ab O r J C j l n m3 o p q;go_wp2_with fail;refine R.o.mono ?_;rintro ad C ⟨rfl,u⟩;have r:=ae (Q.o.trans (u.mono Q.o.size));clear u R P Q;go_wp2_with fail;go_roundw
   case rel=>(repeat apply Exists.intro);exact⟨⟨1,by omega,by go_num,r⟩,rfl⟩
   case measure=>simp[intOf]
  ·obtain rfl:k=b:=by omega
   go_wp2_with fail;go_ret;exact⟨rfl,A.o.1⟩
theorem vv{w wr g:World}{d o1 h:Option Nat}(a:Chg (λb=>some b=d) w wr)(i:∀b,o1=some b->some b=d\/w.heap.size<=b)(c:Chg (λb=>some b=o1) wr g)(m:∀b,h=some b->some b=o1\/wr.heap.size<=b):
 Chg (λb=>some b=d) w g/\∀b,h=some b->some b=d\/w.heap.size<=b:=
 ⟨⟨c.os.trans a.os,c.tape.trans a.tape,c.output.trans a.output,aP a.size c.size,λe j k=>(c.block e (aW j a.size) λf=>(i e f.symm).elim k λl=>by omega).trans (a.block e j k)⟩,
   λb e=>(m b e).elim (λf=>i b f.symm) λl=>.inr (aP a.size l)⟩
theorem OwnB.oty{w:World}{C:Nat}{v:Value}{l:SC}(d:OwnB w C v l):∀b,v.ownBlock=some b->Ty 5 w b:=by
 intro b a;rcases d.2 with⟨c,_⟩ | ⟨f,g,h,c,_,e,_⟩
 ·rw[c] at a;simp[Value.ownBlock] at a
 ·rw[c] at a;simp[Value.ownBlock] at a
  subst a;exact⟨_,_,e⟩
theorem oV{w:World}{ops:Array Oper}{rest:List Oper}{o:Oper}{a:Act}{Q:Exit->Act->World->Prop}(h:o.guard=none)(s x:Operand){C y:Nat}{i:Int}{v:Value}{xs:SC}(j:i=(y:Int))
 (k:o.op=.call { callee:=.builtin .append,args:=#[s,x],argTypes:=#[30,30] })
 (l:OwnB w C v xs)(m:C<=w.heap.size)(D:xs.length<=1000000)(hs:a.eval s=v)(n:a.eval x=slice (some ⟨w.heap.size,0,none⟩) 1 1)
 (K:∀d e,OwnB e C d (xs++[y])->Chg (λb=>some b=v.ownBlock) w e->(∀b,d.ownBlock=some b->some b=v.ownBlock\/w.heap.size<=b)->wpList prog ops Q rest (a.put o.dst d) e):
 wpList prog ops Q (o :: rest) a (w.alloc (cells #[.int .u8 i] 5)):=by
 subst j;have f:=(aC w.heap.size w).alloc (aj _) (cells #[.int .u8 (y:Int)] 5);have p:=l.below f;have q:=aP m f.size;have r:=fe w #[.int .u8 (y:Int)] 5 0;generalize w.alloc (cells #[.int .u8 (y:Int)] 5)=t at*;refine kD (P:=prog) t h s x 30 k C 5 (.int .u8 0) 1 underlying30 jP rfl v xs.length (bK xs) hs p w.heap.size (.int .u8 (y:Int)) n r rfl (by omega) (by unfold maxLen;omega) q λd e u z A=> ?_;refine K d e ?_ ((Chg.of f).trans (Chg.grown z λg c _=>c.symm)) (λb g=>A.elim (λc=>.inl (by rw[<-c,g])) λc=>.inr (by rw[g] at c;injection c with c;rw[c];exact f.size));unfold OwnB;rw[aI];have c:bK (xs++[y])=bK xs++[.int .u8 (y:Int)]:=by unfold bK;rw[aU];rfl
 rw[c];exact u
theorem rW(v:Value)(xs:SC)(C n s:Nat)(w:World)(t:OwnB w C v xs)(z:C<=w.heap.size)(I:n<4294967296)(hs:s<=4)(J:xs.length<=1000):
 Calls prog 195 #[v,int i64 n,int i64 s] w λd c=>∃a,d=returned a/\OwnB c C a (xs++bT n s)/\Chg (λb=>some b=v.ownBlock) w c/\(∀b,a.ownBlock=some b->some b=v.ownBlock\/w.heap.size<=b):=by
 have u:Sz (OwnB w C v (xs++(bT n s).take (s-s))):=ae (by rw[Nat.sub_self,take_zero,append_nil];exact t);obtain⟨p,a⟩:∃p,p=v.ownBlock:=⟨_,rfl⟩;have x:Sz (Chg (λb=>some b=p) w w/\∀b,v.ownBlock=some b->some b=p\/w.heap.size<=b):=ae ⟨Chg.refl _ _,λb c=>.inl (by rw[a,c])⟩;rw[<-a];have A:IntKind.i64.wrap ((s:Int)-1)=(s:Int)-1:=by rw[IntKind.wrap_i64];omega
 obtain⟨K,L,rfl,-⟩:=t.rd;clear t a;go_enter func195,ntmps195;go_wp2_with fail;go_loopw [0,7] (λc a wr=>∃j:Nat,j<=s/\a=int i64 ((j:Int)-1)/\Sz (OwnB wr C c (xs++(bT n s).take (s-j)))/\Sz (Chg (λb=>some b=p) w wr/\∀b,c.ownBlock=some b->some b=p\/w.heap.size<=b)) (λ_ a _=>(intOf a+1).toNat)
 case atStart=>exact⟨s,aj _,rfl,u,x⟩
 case round=>
  clear u x A;obtain⟨j,M,rfl,c,a⟩:=hrel;have q:C<=wr.heap.size:=aP z a.o.1.size;by_cases D:j=0
  ·subst D
   rw[Nat.sub_zero,aN (by rw[dz];exact aj _)] at c;generalize d:xs++bT n s=E at*;have e:=ae d;clear d;obtain⟨F,G,rfl,-⟩:=c.o.rd;go_wp2_with fail;go_ret;exact⟨_,rfl,by rw[e.o];exact c.o,a.o.1,a.o.2⟩
  ·obtain⟨d,rfl⟩:∃d,j=d+1:=⟨j-1,by omega⟩
   have r:(xs++(bT n s).take (s-(d+1))).length<=1000000:=(by rw[aI,aH,dz];omega);have i:Sz (xs++(bT n s).take (s-d)=xs++(bT n s).take (s-(d+1))++[n/256 ^ d%256]):=ae (by rw[uq n s d (by omega),append_assoc]);generalize xs++(bT n s).take (s-(d+1))=E at*;obtain⟨F,G,rfl,-⟩:=c.o.rd;have H:d=0\/d=1\/d=2\/d=3:=(by omega);rcases H with rfl | rfl | rfl | rfl
   ·go_wp2_with (at_builtin;refine oV (w:=wr) (C:=C) (y:=n%256) rfl _ _ ?hi rfl c.o q r rfl rfl ?_)
    case hi=>omega
    intro k l e f g;have m:Sz (OwnB l C k (xs++(bT n s).take (s-0))):=ae (by rw[i.o,show n/256 ^ 0%256=n%256 by simp];exact e);have o:=ae (vv a.o.1 a.o.2 f g);clear e f g c a i;go_wp2_with fail;go_roundw
    case rel=>exact⟨0,by omega,by go_num,m,o⟩
    case measure=>simp[intOf]
   ·go_wp2_with (at_builtin;refine oV (w:=wr) (C:=C) (y:=n/256%256) rfl _ _ ?hi rfl c.o q r rfl rfl ?_)
    case hi=>omega
    intro k l e f g;have m:Sz (OwnB l C k (xs++(bT n s).take (s-1))):=ae (by rw[i.o,show n/256 ^ 1%256=n/256%256 by simp];exact e);have o:=ae (vv a.o.1 a.o.2 f g);clear e f g c a i;go_wp2_with fail;go_roundw
    case rel=>exact⟨1,by omega,by go_num,m,o⟩
    case measure=>simp[intOf]
   ·go_wp2_with (at_builtin;refine oV (w:=wr) (C:=C) (y:=n/65536%256) rfl _ _ ?hi rfl c.o q r rfl rfl ?_)
    case hi=>omega
    intro k l e f g;have m:Sz (OwnB l C k (xs++(bT n s).take (s-2))):=ae (by rw[i.o,show n/256 ^ 2%256=n/65536%256 by simp];exact e);have o:=ae (vv a.o.1 a.o.2 f g);clear e f g c a i;go_wp2_with fail;go_roundw
    case rel=>exact⟨2,by omega,by go_num,m,o⟩
    case measure=>simp[intOf]
   ·go_wp2_with (at_builtin;refine oV (w:=wr) (C:=C) (y:=n/16777216%256) rfl _ _ ?hi rfl c.o q r rfl rfl ?_)
    case hi=>omega
    intro k l e f g;have m:Sz (OwnB l C k (xs++(bT n s).take (s-3))):=ae (by rw[i.o,show n/256 ^ 3%256=n/16777216%256 by simp];exact e);have o:=ae (vv a.o.1 a.o.2 f g);clear e f g c a i;go_wp2_with fail;go_roundw
    case rel=>exact⟨3,by omega,by go_num,m,o⟩
    case measure=>simp[intOf]
def fU(s:ByteArray):SC:=s.data.toList.map UInt8.toNat
theorem fP(s:ByteArray):(fU s).length=s.size:=by unfold fU;rw[aG];rfl
def jm(e:eB):SC:=[e.name.size]++fU e.name++bT e.obj 3++bT e.len 2++e.tries
def bX(m:cZ):SC:=bT m.seq 4++bT m.next 4++[m.K,m.H,m.Z,m.extra,m.drives.length]++m.drives++[m.objs.length]++(m.objs.map jm).flatten
theorem yB(s:ByteArray):Lib.strCells s=bK (fU s):=by unfold Lib.strCells bK fU;rw[map_map];rfl
theorem PZ{w:World}{o:Oper}{a:Act}{K:Act->World->Prop}{Q:Exit->Act->World->Prop}(e:o.guard=none)(s x:Operand){C y g:Nat}{v:Value}{xs:SC}
 (j:o.op=.call { callee:=.builtin .append,args:=#[s,x],argTypes:=#[30,30] })(f:OwnB w C v xs)(h:C<=w.heap.size)(r:xs.length<=1000000)(i:Blk w g 5 #[.int .u8 (y:Int)])
 (hs:a.eval s=v)(k:a.eval x=slice (some ⟨g,0,none⟩) 1 1)
 (l:∀b c,OwnB c C b (xs++[y])->Below C w c->w.grownBy c v.ownBlock->K (a.put o.dst b) c):
 Oper.wp prog o a w K Q:=by
 have m:Rd w w.heap.size (some ⟨g,0,none⟩) 1 [.int .u8 (y:Int)]:=⟨rfl,λ_=>⟨g,0,rfl,i.lt,λd n c=>by rw[Nat.zero_add,i.cell];simpa using c⟩⟩
 have p:=mZ (P:=prog) (ops:=#[]) (E:=True) (Q:=Q) e s x 30 j C 5 (.int .u8 0) 1 underlying30 jP rfl v xs.length (bK xs) hs f w.heap.size (some ⟨g,0,none⟩) 1 1 _ k (λd=>by cases d) m (λn c=>by rw[mem_singleton] at c;rw[c];rfl) (by omega) (by unfold maxLen;omega) h λb n q c t=>l b n (by
  unfold OwnB;rw[aI];have d:bK (xs++[y])=bK xs++[.int .u8 (y:Int)]:=(by unfold bK;rw[aU];rfl);rw[d];exact q) ((aC _ _).grown c h λg b=>(f.lt g b).1) c
 rwa [bu (by simp[Region.wanted,e])] at p
theorem Ni:∃i,prog.info? 5=some i/\i.zero=some (.int .u8 0)/\i.size=1/\i.bytes=1:=by
 have c:=jP;rw[Option.map_eq_some_iff] at c;obtain⟨i,d,a⟩:=c;injection a with a b;injection b with b e;exact⟨i,d,a,b,e⟩
theorem JE{w:World}{o:Oper}{a:Act}{K:Act->World->Prop}{Q:Exit->Act->World->Prop}(y:o.guard=none)(d x:Operand){C:Nat}{v:Value}{xs:SC}{s:ByteArray}
 (g:o.op=.call { callee:=.builtin .append,args:=#[d,x],argTypes:=#[30,9] })(e:OwnB w C v xs)(f:C<=w.heap.size)(z:xs.length+s.size<=1000000)
 (hs:a.eval d=v)(h:a.eval x=.string s)
 (i:∀b c,OwnB c C b (xs++fU s)->Below C w c->w.grownBy c v.ownBlock->K (a.put o.dst b) c):
 Oper.wp prog o a w K Q:=by
 obtain⟨j,k,l,m,n⟩:=Ni;obtain⟨b,p,q,r,c,A⟩:=Lib.run_append_own_string (P:=prog) w C 30 9 o.type 5 j underlying30 underlying9 k l m n v xs.length (bK xs) e s (by unfold maxLen;omega) (by omega) f;unfold Oper.wp execOp;simp only[g,resolve,invoke,builtin,Sem.run_bind,Sem.run_pure,Result.andThen_ok,map_toArray,map_cons,map_nil,hs,h,q];refine i b p ?_ ((aC _ _).grown c f λt u=>(e.lt t u).1) c;unfold OwnB;have t:bK (xs++fU s)=bK xs++Lib.strCells s:=by rw[yB];unfold bK;rw[aU]
 rw[aI,fP,t];exact r
theorem Nj{l:SC}{n:Nat}(a:zh 63 l=true)(b:l.length=n):∀i,i<n->l.getD i 0<=63:=λi c=>by
 unfold zh at a;rw[all_eq_true] at a;have:=a i (bG.2 (by omega));rw[Bool.and_eq_true] at this;have c:=bn this.1;omega
theorem uw(m:cZ)(a6:m.objs.length<=1)(K L:SE)(c M d N:Nat)(F:Nat->Prop)(w:World)(hd:(rI m.drives).ok w F [slice K c M])(ai:m.drives.length=c)(ho:(rS 4 (m.objs.map df)).ok w F [slice L d N])(az:m.objs.length=d)(hm:gP m):
 Calls prog 124 #[.agg (bV m (slice K c M) (slice L d N))] w λe Y=>∃v,e=returned v/\OwnB Y w.heap.size v (bX m)/\Below w.heap.size w Y:=by
 have b:Sz (Sx w (w.alloc (cells (bV m (slice K c M) (slice L d N)) 68)) [bY w.heap.size 68 (bV m (slice K c M) (slice L d N)),eR F (slice K c M) (rI m.drives),eR F (slice L d N) (rS 4 (m.objs.map df))]):=
  ae (((((Sx.nil w).add (eR F (slice L d N) (rS 4 (m.objs.map df))) ho).add (eR F (slice K c M) (rI m.drives)) hd).alloc _).add (bY _ _ _) (Blk.new w _ _))
 have f:=ae λw (hd:(rI m.drives).ok w F [slice K c M]) (ho:(rS 4 (m.objs.map df)).ok w F [slice L d N])=>sj m a6 K L c M d N F w hd ai ho az hm;obtain⟨⟨n,o⟩,i,a,q,⟨j,t⟩,u,k⟩:=hm;have aA:=bn a;have HM:=ae k;have aB:=ae az;have ak:=ae ai;have a7:=ae a;have bm:=ae i;have a9:=ae (show bX m=bT m.seq 4++bT m.next 4++[m.K,m.H,m.Z,m.extra,m.drives.length]++m.drives++[m.objs.length]++(m.objs.map jm).flatten from rfl);have CN:=ae λ(v:Value) (xs:SC) (C l s:Nat) (w:World) (ho:OwnB w C v xs) (r:C<=w.heap.size) (x:l<4294967296) (z:s<=4) (A:xs.length<=1000)=>Cs v xs C l s w ho r x z A;have bo:(m.K:Int)%256=(m.K:Int):=by omega
 have bp:(m.H:Int)%256=(m.H:Int):=by omega
 have br:(m.Z:Int)%256=(m.Z:Int):=by omega
 have bs:(m.extra:Int)%256=(m.extra:Int):=by omega
 have bt:(c:Int)%256=(c:Int):=by omega
 have bw:(d:Int)%256=(d:Int):=by omega
 have ba:Sz (m.seq<4294967296/\m.next<4294967296):=ae (by omega);have al:Sz (c<=64/\d<=1):=ae (by omega);have ci:c<=64:=by omega
 have bx:Sz (∀r,r<c->m.drives.getD r 0<=63):=ae (Nj j ai);rw[ai,az] at a9;unfold bV at*;clear hd ho k a j ai n o i q t u az a6 aA;go_enter func124,ntmps124;go_wp2_with fail;generalize w.alloc (cells #[int i64 m.seq,int i64 m.next,int i64 m.K,int i64 m.H,int i64 m.Z,int i64 m.extra,slice K c M,slice L d N] 68)=w0 at*;refine(f.o _ (b.o.rep 1 rfl) (b.o.rep 2 rfl)).mono ?_;rintro e a ⟨rfl,t⟩;have O:=ae (b.o.step t);clear t b f;obtain⟨P,Q,R,m3,S,T,U,V⟩:=bW (O.o.blk 0 rfl);generalize b:w.heap.size=bz at*;have HG:=ae b;clear b R m3 S T U V;have bb:=ae (CN.o (slice none 0 0) [] a.heap.size m.seq 4 a.drew (OwnB.nil _ _) (aj _) ba.o.1 (by omega) (by simp));go_upto_region 3 with fail;go_cut [3] (λv H=>Sz (OwnB H a.heap.size v (bT m.seq 4++bT m.next 4))/\Sz (Below a.heap.size a H))
 case first=>
  go_region_law (first
   | (have o:=f
      go_simp;go_at_call 195;refine(CN.o (slice I j J) (bT m.seq 4) a.heap.size m.next 4 b f.o i.o.size ba.o.2 (by omega) (by rw[dz];omega)).mono ?_;rintro e w3 ⟨q,rfl,l,t⟩;have am:=ae l;have ad:=ae (i.o.trans t);clear l t;go_simp)
   | (go_simp
      go_at_call 195;refine bb.o.mono ?_;rintro e b ⟨k,rfl,l,t⟩;have f:Sz (OwnB b a.heap.size k (bT m.seq 4)):=ae (by simpa using l);have i:Sz (Below a.heap.size a b):=ae (((aC _ a).drew).trans t);obtain⟨I,j,J,rfl,-⟩:=f.o.sl;have n:=ae (O.o.step i.o);have u:b.cell? ⟨bz,1,none⟩=some (int i64 m.next):=(n.o.blk 0 rfl).cell 1;clear l t;go_simp))
  all_goals(
   go_simp;refine ‹∀(a':Act) (Y:World),Met _ a' Y->_› _ _ ?_;go_meet;exact⟨am,ad⟩)
 case rest=>
  obtain⟨am,ad⟩:=hcut;rename World=>w3;obtain⟨b3,l3,k3,rfl,-⟩:=am.o.sl;have i:=ae (O.o.step ad.o);have j:=ad.o.size;clear bb P Q;obtain⟨P,Q,R,m3,S,T,U,V⟩:=bW (i.o.blk 0 rfl);have n:=(aC w3.heap.size w3).alloc (aj _) (cells (bO [m.K,m.H,m.Z,m.extra,c]) 5);have k:=ae (am.o.below n);have b:=ae (ad.o.trans (n.mono j));have o:a.heap.size<=(w3.alloc (cells (bO [m.K,m.H,m.Z,m.extra,c]) 5)).heap.size:=b.o.size;have q:=ae (sw (Blk.new w3 5 (bO [m.K,m.H,m.Z,m.extra,c])));have D:(bT m.seq 4++bT m.next 4).length+5<=1000000:=(by rw[aI,dz,dz];omega);clear n am ad
  go_wp2_with (at_builtin;refine mM (w:=w3.alloc (cells (bO [m.K,m.H,m.Z,m.extra,c]) 5)) (C:=a.heap.size) (xs:=bT m.seq 4++bT m.next 4) (ys:=[m.K,m.H,m.Z,m.extra,c]) rfl _ _ rfl k.o o D rfl rfl (λe=>by cases e) q.o ?_)
  intro v4 w4 u x z A;have f:=ae (b.o.trans x);have S4:=ae (O.o.step f.o);have aD:Sz ((bT m.seq 4++bT m.next 4++[m.K,m.H,m.Z,m.extra,c]).length=13):=ae (by rw[aI,aI,dz,dz];rfl);have aM:Sz (OwnB w4 a.heap.size v4 (bT m.seq 4++bT m.next 4++[m.K,m.H,m.Z,m.extra,c]++m.drives.take 0)):=ae (by rw[take_zero,append_nil];exact u);generalize bT m.seq 4++bT m.next 4++[m.K,m.H,m.Z,m.extra,c]=Z at*;clear u x z A b k q i D j o P Q R m3 S T U V;obtain⟨P,Q,R,m3,S,T,U,V⟩:=bW (S4.o.blk 0 rfl);obtain⟨b4,l4,k4,rfl,-⟩:=aM.o.sl;have bc:Sz (Below a.heap.size a w4):=f;clear f P Q R m3 S T V bo bp br bs bt;go_wp2_with fail;go_loopw [3,44] (λv r wr=>∃k:Nat,k<=c/\r=int i64 k/\Sz (OwnB wr a.heap.size v (Z++m.drives.take k))/\Sz (Below a.heap.size a wr)) (λ_ r _=>c-(intOf r).toNat)
  case atStart=>exact⟨0,by omega,rfl,aM,bc⟩
  case round=>
   clear aM bc S4;obtain⟨k,cj,rfl,j,f⟩:=hrel;have S5:=ae (O.o.step f.o);have W:=f.o.size;obtain⟨bv,lv,kv,rfl,-⟩:=j.o.sl;by_cases bd:k<c
   ·have bB:(k:Int)<(c:Int):=by omega
    have b:k<m.drives.length:=(by rw[ak.o];exact bd);obtain⟨a',c',e,an,-⟩:=dY (S5.o.rep 1 rfl) ak.o;injection e with z E A;subst z A;obtain⟨ao,ap,rfl,t,aq⟩:=an.2 (by omega);have cq:=aq k (int i64 (m.drives.getD k 0:Nat)) (dh b);have b0:=bx.o k bd;have HT:Sz (Z++m.drives.take (k+1)=Z++m.drives.take k++[m.drives.getD k 0]):=ae (by rw[aO b,af,ah b,append_assoc];rfl);have D:(Z++m.drives.take k).length<=1000000:=(by have:=al.o.1;rw[aI,aD.o,aH];omega);generalize m.drives.getD k 0=aE at*;generalize Z++m.drives.take k=XX at*;clear aq an b S5
    go_wp2_with (at_builtin;refine gG (w:=wr) (C:=a.heap.size) (y:=aE) rfl _ _ ?hi rfl j.o W D rfl rfl ?_)
    case hi=>omega
    intro v5 w5 ab ar;rw[<-HT.o] at ab;have aR:=ae ab;have aS:=ae (f.o.trans ar);clear ab ar j f HT;go_wp2_with fail;go_roundw
    case rel=>exact⟨k+1,by omega,by go_num,aR,aS⟩
    case measure=>simp[intOf];omega
   ·obtain rfl:k=c:=by omega
    rw[aN (by rw[ak.o];exact aj _)] at j;have D:(Z++m.drives).length<=1000000:=(by rw[aI,aD.o,ak.o];have:=al.o.1;omega);have i:Sz ((Z++m.drives).length<=77):=ae (by rw[aI,aD.o,ak.o];have:=al.o.1;omega);generalize Z++m.drives=XX at*;clear aD;obtain⟨P,Q,R,m3,S,T,U,V⟩:=bW (S5.o.blk 0 rfl);clear P Q R m3 S T U
    go_wp2_with (at_builtin;refine gG (w:=wr) (C:=a.heap.size) (y:=d) rfl _ _ ?hi rfl j.o W D rfl rfl ?_)
    case hi=>rfl
    intro v6 w6 q u;have b:=ae (f.o.trans u);have S6:=ae (O.o.step b.o);have aT:Sz (OwnB w6 a.heap.size v6 (XX++[d]++((m.objs.take 0).map jm).flatten)):=ae (by rw[take_zero,map_nil,flatten_nil,append_nil];exact q);have au:Sz ((XX++[d]).length<=78):=ae (by rw[aI,length_singleton];have:=i.o;omega);generalize XX++[d]=o at*;obtain⟨b6,l6,k6,rfl,-⟩:=aT.o.sl;clear q u j f S5 D i W V bw;obtain⟨P,Q,R,m3,S,T,U,V⟩:=bW (S6.o.blk 0 rfl);clear P Q R m3 S T U;go_wp2_with fail;have be:Sz (Below a.heap.size a w6):=b;clear b;go_loopw [3,64] (λv r wr=>∃G:Nat,G<=d/\r=int i64 G/\Sz (OwnB wr a.heap.size v (o++((m.objs.take G).map jm).flatten))/\Sz (Below a.heap.size a wr)) (λ_ r _=>d-(intOf r).toNat)
    case atStart=>exact⟨0,by omega,rfl,aT,be⟩
    case round=>
     clear aT be S6 V U;obtain⟨G,ck,rfl,j,f⟩:=hrel;have S7:=ae (O.o.step f.o);have W:=f.o.size;obtain⟨bv,lv,kv,rfl,-⟩:=j.o.sl;by_cases bf:G<d
     ·obtain rfl:G=0:=by have:=al.o.2;omega
      obtain rfl:d=1:=(by have:=al.o.2;omega);obtain⟨ao,ap,I,J,rfl,hF,t,X,z,E,A,hr⟩:=zJ (O.o.rep 2 rfl) aB.o bf;rw[Nat.zero_mul,Nat.add_zero] at X z E A;rw[<-f.o.cell (p:=⟨ao,ap,none⟩) t] at X;rw[<-f.o.cell (p:=⟨ao,ap+1,none⟩) t] at z;rw[<-f.o.cell (p:=⟨ao,ap+2,none⟩) t] at E;rw[<-f.o.cell (p:=⟨ao,ap+3,none⟩) t] at A;rw[take_zero,map_nil,flatten_nil,append_nil] at j;have ac:m.objs.getD 0 fI∈m.objs:=(by rw[af,ah (by rw[aB.o];exact bf)];exact aQ _);have aA:=HM.o.1 _ ac;have ag:=oU aA a7.o
      have b1:Sz (((m.objs.take 1).map jm).flatten=jm (m.objs.getD 0 fI)):=ae (by
       obtain⟨aE,hx⟩:=length_eq_one_iff.1 aB.o;rw[hx];simp)
      have n:=(aC wr.heap.size wr).alloc (aj _) (cells (fJ (m.objs.getD 0 fI) (slice I (m.objs.getD 0 fI).tries.length J)) 65);have aa:=ae (Blk.new wr 65 (fJ (m.objs.getD 0 fI) (slice I (m.objs.getD 0 fI).tries.length J)));have aV:=ae (j.o.below n);have aF:=ae (f.o.trans (n.mono W));have b2:=ae hr;generalize m.objs.getD 0 fI=e at*;obtain⟨b,q,u,i⟩:=e;unfold fJ jm at*;simp only at*;obtain⟨⟨b5,bh,-⟩,aw,ax,x,-⟩:=aA
      dsimp only at b5 bh aw ax x
      have ay:=bn a7.o;have aK:m.K*m.Z<=16*24:=bC (by omega) (by omega)
      have av:Sz (q<4294967296/\u<4294967296/\b.size<=12):=ae (by
       have:=bm.o;refine⟨by omega,?_,bh⟩;omega)
      have b7:IntKind.u8.wrap (b.size:Int)=(b.size:Int):=(by rw[IntKind.wrap_u8];omega);have b8:(b.size:Int)%256=(b.size:Int):=(by omega);have ca:=ae x;have cb:=ae ag;have cl:=ae W;clear ac ay aw ax x aK ag n hr hF j f S7 W;go_upto_region 14 with fail;clear X z E A;generalize wr.alloc (cells #[.string b,int i64 q,int i64 u,slice I i.length J] 65)=w7 at*;generalize ac:wr.heap.size=x at*;have cm:=ae ac;clear ac;obtain⟨X,z,E,A⟩:=fO aa.o;have D:o.length<=1000000:=(by have:=au.o;omega);have bi:(o++[b.size]).length+b.size<=1000000:=(by have:=au.o;rw[aI,length_singleton];omega);have n:=((aC w7.heap.size w7).alloc (aj _) (cells #[.int .u8 b.size] 5)).drew;have cc:((w7.alloc (cells #[.int .u8 b.size] 5)).drew).cell? ⟨x,0,none⟩=some (.string b):=(aa.o.below n aa.o.lt).cell 0;go_cut [3] (λv H=>Sz (OwnB H a.heap.size v (o++[b.size]++fU b))/\Sz (Below a.heap.size a H)/\Sz (Blk H x 65 #[.string b,int i64 q,int i64 u,slice I i.length J]))
      case first=>
       go_region_law (first
        | (change (if _=true then Oper.wp _ (Oper.mk (some 77) _ _ _ _ _) _ _ _ _ else _)
           refine pz rfl ?_;refine JE (w:=w8) (C:=a.heap.size) (v:=slice a8 l8 k8) (xs:=o++[b.size]) (s:=b) rfl (.tmp 74) (.tmp 76) rfl ay.o aK.o.size bi (by go_simp) (by go_simp) ?_;intro v9 w9 aL aX aY;have ac:=ae aL;have aw:=ae (aK.o.trans aX);have ag:Sz (Blk w9 x 65 #[.string b,int i64 q,int i64 u,slice I i.length J]):=ae ((aY.block x ax.o.lt λe=>(ay.o.oty x e.symm).ne (Blk.ty ax.o) (by decide)).trans ax.o);clear aL aX aY)
        | (change (if _=true then Oper.wp _ (Oper.mk (some 74) _ _ _ _ _) _ _ _ _ else _)
           refine pz rfl ?_;refine PZ (w:=(w7.alloc (cells #[.int .u8 b.size] 5)).drew) (C:=a.heap.size) (y:=b.size) (g:=w7.heap.size) (v:=slice bv lv kv) (xs:=o) rfl (.tmp 68) (.tmp 73) rfl (aV.o.below n) (aP aF.o.size n.size) D (Blk.drew (Blk.new w7 _ _)) (by go_simp) (by go_simp) ?_;intro v8 w8 aL aX aY;have ay:=ae aL;have aK:=ae ((aF.o.trans (n.mono aF.o.size)).trans aX);have ax:Sz (Blk w8 x 65 #[.string b,int i64 q,int i64 u,slice I i.length J]):=ae ((aY.block x (aW aa.o.lt n.size) λe=>(aV.o.oty x e.symm).ne (Blk.ty aa.o) (by decide)).trans (aa.o.below n aa.o.lt));obtain⟨a8,l8,k8,rfl,-⟩:=ay.o.sl;have a0:w8.cell? ⟨x,0,none⟩=some (.string b):=ax.o.cell 0;clear aL aX aY))
       all_goals(
        go_simp;refine ‹∀(a':Act) (Y:World),Met _ a' Y->_› _ _ ?_;go_meet;exact⟨ac,aw,ag⟩)
      case rest=>
       obtain⟨ac,aw,ag⟩:=hcut;rename World=>w9;obtain⟨b9,l9,k9,rfl,ax⟩:=ac.o.sl;have aX:=aw.o.size;have bj:(o++[b.size]++fU b).length<=1000:=(by have:=au.o;have:=av.o.2.2;rw[aI,aI,length_singleton,fP];omega);have bk:(o++[b.size]++fU b++bT q 3).length<=1000:=(by have:=au.o;have:=av.o.2.2;rw[aI,aI,aI,length_singleton,fP,dz];omega);have cd:Sz ((o++[b.size]++fU b++bT q 3++bT u 2).length<=1000):=ae (by have:=au.o;have:=av.o.2.2;rw[aI,aI,aI,aI,length_singleton,fP,dz,dz];omega);have ce:Sz (o++[b.size]++fU b++bT q 3++bT u 2++i=o++([b.size]++fU b++bT q 3++bT u 2++i)):=ae (by simp only[append_assoc]);clear X z E A b7 b8 D bi n cc aV aF aa ax;obtain⟨X,z,E,A⟩:=fO ag.o;have bl:=ae (rW (slice b9 l9 k9) (o++[b.size]++fU b) a.heap.size q 3 w9.drew (ac.o.below ((aC _ _).drew)) aX av.o.1 (by omega) bj);go_wp2_with fail;go_cut [3] (λv H=>Sz (OwnB H a.heap.size v (o++[b.size]++fU b++bT q 3++bT u 2))/\Sz (Below a.heap.size a H)/\Sz (Blk H x 65 #[.string b,int i64 q,int i64 u,slice I i.length J]))
       case first=>
        go_region_law (first
         | (have cn:=ax
            go_simp;go_at_call 195;refine(rW (slice cf cg ch) (o++[b.size]++fU b++bT q 3) a.heap.size u 2 aY ax.o a0.o.size av.o.2.1 (by omega) bk).mono ?_;rintro e a4 ⟨co,rfl,l,H,-⟩;have ay:=ae l;have aK:=ae (a0.o.trans (H.below a0.o.size λG hq=>(ax.o.lt G hq.symm).1));have aL:=ae (a5.o.chg H λe=>(ax.o.oty x e.symm).ne (Blk.ty a5.o) (by decide));clear l H;go_simp)
         | (go_simp
            go_at_call 195;refine bl.o.mono ?_;rintro e aY ⟨cp,rfl,l,H,-⟩;have ax:=ae l;have a0:=ae ((aw.o.drew).trans (H.below aX λG hq=>(ac.o.lt G hq.symm).1));have a5:Sz (Blk aY x 65 #[.string b,int i64 q,int i64 u,slice I i.length J]):=ae (ag.o.drew.chg H λe=>(ac.o.oty x e.symm).ne (Blk.ty ag.o) (by decide));obtain⟨cf,cg,ch,rfl,-⟩:=ax.o.sl;have cr:aY.cell? ⟨x,2,none⟩=some (int i64 u):=a5.o.cell 2;clear l H;go_simp))
        all_goals(
         go_simp;refine ‹∀(a':Act) (Y:World),Met _ a' Y->_› _ _ ?_;go_meet;exact⟨ay,aK,aL⟩)
       case rest=>
        obtain⟨ay,aK,aL⟩:=hcut;rename World=>a4;clear X z E A bl ac aw ag aX bj bk;obtain⟨X,z,E,A⟩:=fO aL.o;generalize o++[b.size]++fU b++bT q 3++bT u 2=H at*;obtain⟨a5,cf,cg,rfl,-⟩:=ay.o.sl;have aY:Sz (OwnB a4 a.heap.size (slice a5 cf cg) (H++i.take 0)):=ae (by rw[take_zero,append_nil];exact ay.o);have a0:Sz (Below a.heap.size a a4):=aK;have cn:=cb.o;generalize l:i.length=Y at*;have ax:=ae l;clear l ay aK X z E;go_wp2_with fail;clear A;go_loopw [3,88] (λv r wr=>∃l:Nat,l<=Y/\r=int i64 l/\Sz (OwnB wr a.heap.size v (H++i.take l))/\Sz (Below a.heap.size a wr)) (λ_ r _=>Y-(intOf r).toNat)
        case atStart=>exact⟨0,by omega,rfl,aY,a0⟩
        case round=>
         clear aY a0 aL;obtain⟨l,co,rfl,j,f⟩:=hrel;have W:=f.o.size;obtain⟨cp,cr,cs,rfl,-⟩:=j.o.sl;by_cases ch:l<Y
         ·have bB:(l:Int)<(Y:Int):=by omega
          have r:l<i.length:=(by rw[ax.o];exact ch);obtain⟨a',c',e,an,-⟩:=dY ((rI _).new b2.o f.o) ax.o;injection e with z E A;subst z A;obtain⟨b',o',rfl,ct,aq⟩:=an.2 (by omega);have cq:=aq l (int i64 (i.getD l 0:Nat)) (dh r);have b0:=ca.o (i.getD l 0) (by rw[af,ah r];exact aQ r);have HT:Sz (H++i.take (l+1)=H++i.take l++[i.getD l 0]):=ae (by rw[aO r,af,ah r,append_assoc];rfl);have D:(H++i.take l).length<=1000000:=(by have:=cd.o;rw[aI,aH];omega);generalize i.getD l 0=aE at*;generalize H++i.take l=XX at*;clear aq an r
          go_wp2_with (at_builtin;refine gG (w:=wr) (C:=a.heap.size) (y:=aE) rfl _ _ ?hi rfl j.o W D rfl rfl ?_)
          case hi=>omega
          intro v5 w5 ab ar;rw[<-HT.o] at ab;have aR:=ae ab;have aS:=ae (f.o.trans ar);clear ab ar j f HT;go_wp2_with fail;go_roundw
          case rel=>(repeat apply Exists.intro);exact⟨⟨l+1,by omega,by go_num,aR,aS⟩,rfl⟩
          case measure=>simp[intOf];omega
         ·obtain rfl:l=Y:=by omega
          rw[aN (by rw[ax.o];exact aj _),ce.o,<-b1.o] at j;go_wp2_with fail;go_roundw
          case rel=>exact⟨1,by omega,by go_num,j,f⟩
          case measure=>simp[intOf]
     ·obtain rfl:G=d:=by omega
      rw[aN (by rw[aB.o];exact aj _)] at j;go_wp2_with fail;go_ret;exact⟨_,rfl,by rw[a9.o];exact j.o.base (by rw[HG.o];exact aP (aj _) (by have:=O.o.1.size;rw[HG.o] at this;exact this)),by rw[HG.o];exact(HG.o▸S7.o.1)⟩
theorem Qp{P:Program}{w:World}{ops:Array Oper}{rest:List Oper}{o:Oper}{a:Act}{Q:Exit->Act->World->Prop}(g:o.guard=none)(s x:Operand){T e:TypeId}{z:Value}{k h:Nat}
 (i:o.op=.call { callee:=.builtin .append,args:=#[s,x],argTypes:=#[T,T] })(j:P.underlying T=some (.slice e))(l:(P.info? e).map (λd=>(d.zero,d.size,d.bytes))=some (some z,k,h))(n:z.cells.size=k)(p:0<k)(q:h<=1000)
 {C m c:Nat}{v:Value}{ad:Addr}{L LX:List Rp}{F:Nat->Prop}(r:OwnS w C e k F v L)(t:C<=w.heap.size)(u:L.length+m<=1000000)
 (y:(rS k LX).ok w (λb=>F b/\some b≠v.ownBlock) [slice (some ad) m c])(hs:a.eval s=v)(A:a.eval x=slice (some ad) m c)
 (D:∀d f,OwnS f C e k F d (L++LX)->Below C w f->(d.ownBlock=v.ownBlock\/∃b,d.ownBlock=some b/\w.heap.size<=b)->wpList P ops Q rest (a.put o.dst d) f):
 wpList P ops Q (o :: rest) a w:=
 wpList_plain g λG E=>Gu g s x i j l n p q r t u y hs A λd f G H _ _ I=>E _ _ (D d f G H I)
theorem sP:(prog.info? 65).map (λa=>(a.zero,a.size,a.bytes))=some (some (.agg #[.string .empty,int i64 0,int i64 0,slice none 0 0]),4,56):=by kernel_rfl
theorem yE(w:World):Calls prog 100 #[slice none 0 0] w λa b=>a=returned (slice none 0 0)/\b=w:=by
 have b:=λa=>Lib.run_eql_slice_nil (P:=prog) a 66 65 none 0 0 0 0 underlying66;go_enter func100,ntmps100;go_wp2_with fail;go_ret;exact⟨rfl,rfl⟩
theorem uD(L:List eB)(F:Nat->Prop)(ad:Addr)(n c:Nat)(w:World)(f:(rS 4 (L.map df)).ok w F [slice (some ad) n c])(p:n<=1000):
 Calls prog 100 #[slice (some ad) n c] w λe b=>∃v,e=returned v/\OwnS b w.heap.size 65 4 (λa=>F a/\a<w.heap.size) v (L.map df)/\Below w.heap.size w b:=by
 have q:=λb=>Lib.run_eql_slice_nil (P:=prog) b 66 65 (some ad) n c 0 0 underlying66;have b:=(aC w.heap.size w).alloc (aj _) (cells #[] 65)
 have g:Sz ((rS 4 (L.map df)).ok (w.alloc (cells #[] 65)) (λa=>(F a/\a<w.heap.size)/\some a≠(Value.slice (some ⟨w.heap.size,0,none⟩) 0 0).ownBlock) [slice (some ad) n c]):=
  ae ((rS 4 _).new ((rS 4 _).more f λa d i=>⟨⟨d,i⟩,λe=>by simp[Value.ownBlock] at e;omega⟩) b)
 have e:Sz (OwnS (w.alloc (cells #[] 65)) w.heap.size 65 4 (λa=>F a/\a<w.heap.size) (slice (some ⟨w.heap.size,0,none⟩) 0 0) []):=
  ae ⟨[],World.ownsRow_made w #[] 0 (aj _) (by unfold maxLen;omega) (by simp),by simp⟩
 have i:=ae b;have j:=b.size;have k:(([]:List Rp)).length+n<=1000000:=by simp;omega
 clear f b;go_enter func100,ntmps100
 go_wp2_with (at_builtin;refine Qp (w:=w.alloc (cells #[] 65)) rfl _ _ rfl underlying66 sP rfl (by decide) (by decide) e.o j k g.o rfl rfl ?_)
 intro v l b d m;have o:Sz (OwnS l w.heap.size 65 4 (λa=>F a/\a<w.heap.size) v (L.map df)):=ae (by simpa using b);have a:=ae (i.o.trans d);clear b d m;go_wp2_with fail;go_ret;exact⟨_,rfl,o.o,a.o⟩
