import Derived.Test.YtgccllbnfngpcaaGreatDoorW10
import Derived.Test.YtgccllbnfngpcaaGreatDoorW11
import Derived.Lib.AppendStr
set_option linter.unusedVariables false
set_option maxRecDepth 100000
set_option maxHeartbeats 400000000
namespace Go.Proofs.YtgccllbnfngpcaaGreatDoor
open Go.RowKit _root_.Go.Proofs.Tryz List
open Value (int slice pointer bool)
open IntKind (i64)
open Ending (returned)
open Obj (cells)
theorem kK{w:World}{P K H Z:Nat}(a:Blk w P 25 #[int i64 K,int i64 H,int i64 Z]):w.cell? ⟨P,0,none⟩=some (int i64 K)/\w.cell? ⟨P,1,none⟩=some (int i64 H)/\w.cell? ⟨P,2,none⟩=some (int i64 Z):=⟨a.cell 0,a.cell 1,a.cell 2⟩
theorem Jk{K H Z:Nat}{s:Int}{L:List (Nat×PI)}{k:Nat}(a:k<L.length):y9 K H Z s (L.take (k+1))=y9 K H Z s (L.take k)++[(gQ K H Z s ((L.getD k (0,[])).1:Nat),(L.getD k (0,[])).2)]:=by
 unfold y9;rw[aN a,aU,af,ah a];rfl
theorem SvSt.lt{w:World}{g e K H Z n f gw gm:Nat}{rest h i j:Value}{F:Nat->Prop}{V W M:Nat->PI}(a:SvSt w g e K H Z n f gw gm rest h i j F V W M):SvSt w g e K H Z n f gw gm rest h i j (λb=>F b/\b<w.heap.size) V W M:=by
 obtain⟨k,l,m,o⟩:=a.vls;exact⟨a.blk,a.fld,⟨k,l,m,λc d=>(rN _).more (o c d) λb c d=>⟨c,d⟩⟩,a.way.keep rfl λb c d=>⟨rfl,c,d⟩,a.mor.keep rfl λb c d=>⟨rfl,c,d⟩,a.ne,λb c=>a.off b c.1⟩
theorem FT{l:List PI}{i:Nat}(a:i<l.length):l.getD i []∈l:=by rw[af,ah a];exact aQ _
theorem Me(K H Z E c:Nat)(s:Int)(a:PK)(F:Nat->Prop)(L:List (Nat×PI))(y:List PI)(w:World)(hk:fB K H Z=true)(ce:0<=s)(cf:s<4294967296)
 (hL:(gB L).ok w F [slice a E c])(hl:L.length=E)(hN:E<=1000)(hm:MidOK K H Z s y)(n:∀x∈L,x.1<=65535/\x.2=gN K H Z s y x.1)(hf:dK K H Z s (L.map Prod.fst)=true):
 Calls prog 175 #[dD K H Z,.int .u32 s,slice a E c] w λj q=>∃g,j=returned (.tuple #[slice (some ⟨g,0,none⟩) (K+H) (K+H),int i64 0])/\Vls q g (K+H) Any (λc=>y.getD c [])/\Below w.heap.size w q:=by
 have e:=ba hk;have co:K<=16:=by omega
 have cp:H<=4:=by omega
 have cq:Z<=24:=by omega
 have a4:1<=Z:=by omega
 have a5:1<=K:=by omega
 have d:=ae ((gB L).bl hL);have CL:=ae λ(id:Nat) w=>xY K H Z s id w ce cf;have b:=(az w.heap.size w).alloc (aj _) (cells #[int i64 K,int i64 H,int i64 Z] 25)
 have S0:PH (Sx (w.alloc (cells #[int i64 K,int i64 H,int i64 Z] 25)) (w.alloc (cells #[int i64 K,int i64 H,int i64 Z] 25)) [bS w.heap.size 25 #[int i64 K,int i64 H,int i64 Z],eR (Bl w.heap.size) (slice a E c) (gB L)]):=
  ae (((Sx.nil _).add (eR (Bl w.heap.size) (slice a E c) (gB L)) ((gB L).new d.o b)).add (bS _ _ _) (Blk.new w _ _))
 have cg:=ae b;have au:w.heap.size<(w.alloc (cells #[int i64 K,int i64 H,int i64 Z] 25)).heap.size:=by simp
 have aw:=ae hl;have HX:=ae n;have HM:=ae hm;have HF:=ae hf;have HK:=ae hk;unfold dD at CL;clear e hk hL b hl n hm hf d;unfold dD;go_enter func175,ntmps175;refine wp_seq_k λK1 a5=> ?_;have b:=ae a5;clear a5;go_wp2_with fail;refine b.o _ _ ?_;clear b;generalize w.alloc (cells #[int i64 K,int i64 H,int i64 Z] 25)=O at*;refine zL 1 2 (by rfl) (by rfl) λcr h1 h2=> ?_;have H1:=ae h1;have H2:=ae h2;clear h1 h2;go_wp2_with fail;have bl:PH (OwnS O O.heap.size 286 2 Any (slice none 0 0) ((y9 K H Z s (L.take 0)).map tJ)):=ae (OwnS.nil _ _ _ _ _);have am:=ae (az O.heap.size O);go_loopw [8,23] (λai i wr=>∃o:Nat,o<=E/\i=int i64 o/\PH (OwnS wr O.heap.size 286 2 Any ai ((y9 K H Z s (L.take o)).map tJ))/\PH (Below O.heap.size O wr)) (λ_ i _=>E-(intOf i).toNat)
 case atStart=>exact⟨0,by omega,rfl,bl,am⟩
 case round=>
  clear bl am;obtain⟨o,cs,rfl,T,HB⟩:=hrel;have S1:=ae (S0.o.step HB.o);have a7:=HB.o.size;obtain⟨a6,n6,c6,rfl⟩:=T.o.sl;by_cases C:o<E
  ·have ar:(o:Int)<(E:Int):=by omega
   have k:o<L.length:=(by rw[aw.o];exact C);obtain⟨b,ay,U,X,d,rfl,-,f,v,u,m,-⟩:=yZ (S1.o.rep 1 rfl) aw.o C;have S:PH ((y9 K H Z s (L.take (o+1))).map tJ=(y9 K H Z s (L.take o)).map tJ++[tJ (gQ K H Z s ((L.getD o (0,[])).1:Nat),(L.getD o (0,[])).2)]):=ae (by rw[Jk k,aU];rfl);have aa:((y9 K H Z s (L.take o)).map tJ).length<=1000000:=(by unfold y9;rw[aC,aC,aG];omega);generalize (y9 K H Z s (L.take o)).map tJ=LL at*;generalize L.getD o (0,[])=x at*;have e:=(az wr.heap.size wr).alloc (aj _) (cells #[int i64 (x.1:Nat),slice U X d] 154);have r:=Blk.new wr 154 #[int i64 (x.1:Nat),slice U X d];have Y:=ae ((S1.o.step e).add (bS _ _ _) r);have A:=ae (T.o.new e);have ab:=ae (HB.o.trans (e.mono a7));have ac:=ae ((rB x.2).new m e);have I:O.heap.size<=(wr.alloc (cells #[int i64 (x.1:Nat),slice U X d] 154)).heap.size:=aP a7 e.size;have ad:=ae (CL.o x.1);clear e r m S1 T HB k;go_upto_region 5 with fail;clear v u;generalize k:wr.heap.size=e at*;clear k;generalize wr.alloc (cells #[int i64 (x.1:Nat),slice U X d] 154)=m at*;obtain⟨p0,p1,p2⟩:=kK (Y.o.blk 1 rfl);have i0:=(Y.o.blk 0 rfl).cell 0;have i1:=(Y.o.blk 0 rfl).cell 1
   go_region_held3 (λq=>(q.cell? ⟨w.heap.size,0,none⟩=some (int i64 K)/\q.cell? ⟨w.heap.size,1,none⟩=some (int i64 H)/\q.cell? ⟨w.heap.size,2,none⟩=some (int i64 Z))/\q.cell? ⟨e,0,none⟩=some (int i64 (x.1:Nat))/\q.cell? ⟨e,1,none⟩=some (slice U X d)) (go_keep) (first
    | (go_at_call 176
       refine(ad.o _).mono ?_;rintro j r ⟨ai,rfl,v,J⟩;have k:Below m.heap.size m r:=(az m.heap.size m).drew.trans J;have P:=ae (Y.o.step k);obtain⟨m0,m1,m2⟩:=kK (P.o.blk 1 rfl);have j0:=(P.o.blk 0 rfl).cell 0;have j1:=(P.o.blk 0 rfl).cell 1;obtain⟨av,cv,rfl⟩:=v.lenA;have an:=ae (A.o.new k);have ag:=ae (ab.o.trans (k.mono I));have al:O.heap.size<=r.heap.size:=aP I k.size
       have ap:PH ((tJ (gQ K H Z s (x.1:Nat),x.2)).ok r (λb=>Any b/\some b≠(Value.slice a6 n6 c6).ownBlock) [slice av (gQ K H Z s (x.1:Nat)).length cv,slice U X d]):=ae (A.o.off (G:=λb=>b<O.heap.size\/m.heap.size<=b)
        (rY ((rI _).more (gH v) λb f _=>.inr f) ((rB _).more ((rB _).new ac.o k) λb f _=>.inl (Nat.lt_trans f au))) λb f=>⟨trivial,f⟩)
       have N:some e≠(Value.slice a6 n6 c6).ownBlock:=an.o.ty (P.o.blk 0 rfl) (by decide);have Q:e<r.heap.size:=(P.o.blk 0 rfl).lt;clear v J k)
    | (change (if _=true then Oper.wp _ (Oper.mk (some 37) _ _ _ _ _) _ _ _ _ else _)
       refine mR (w:=r) rfl _ _ rfl underlying284 EO rfl (by decide) (by decide) an.o al aa (R:=tJ (gQ K H Z s (x.1:Nat),x.2)) ap.o rfl rfl rfl ?_;intro v6 w6 v k ao ak J;rw[<-S.o] at v;have aq:=ae v;have ax:=ae (ag.o.trans k);have r0:=(k.cell (p:=⟨w.heap.size,0,none⟩) au).trans m0;have r1:=(k.cell (p:=⟨w.heap.size,1,none⟩) au).trans m1;have r2:=(k.cell (p:=⟨w.heap.size,2,none⟩) au).trans m2;have r3:=(World.cell?_of_block (a:=⟨e,0,none⟩) (ak e Q N)).trans j0;have r4:=(World.cell?_of_block (a:=⟨e,1,none⟩) (ak e Q N)).trans j1;clear v k ao ak J))
   all_goals(
    go_wp2_with fail;go_roundw
    case rel=>exact⟨o+1,by omega,by go_num,aq,ax⟩
    case measure=>simp[intOf];omega)
  ·obtain rfl:o=E:=by omega
   rw[aJ (by rw[aw.o];exact aj _)] at T;have k:(y9 K H Z s L).length=o:=(by unfold y9;rw[aC];exact aw.o);obtain⟨bm,-⟩:=T.o.len;rw[aC,k] at bm;subst bm;have m:∀c,c<K+H->Byt Z (y.getD c []):=λc h=>HM.o.row h
   have a9:PH (vI (K+H) Z (λc=>y.getD c []) (y9 K H Z s L)/\∀x∈y9 K H Z s L,x.1.Pairwise (·< ·)):=ae (by
    refine⟨λx n=> ?_,λx n=> ?_⟩
    ·obtain⟨e,r,rfl⟩:=aY.1 n
     obtain⟨u,d⟩:=kw (s:=s) (id:=(e.1:Nat)) HK.o;refine⟨?_,u,(HX.o e r).2⟩;have:=jb (mg d) u;show(gQ K H Z s (e.1:Nat)).length<=64;omega
    ·obtain⟨e,r,rfl⟩:=aY.1 n
     exact(kw (s:=s) (id:=(e.1:Nat)) HK.o).2)
   have bb:=ae k;have bo:=ae m;obtain⟨al,d⟩:∃al,al=y9 K H Z s L:=⟨_,rfl⟩;rw[<-d] at a9 bb T;have ch:=ae d;clear d k m;rename World=>Q;obtain⟨p0,p1,p2⟩:=kK (S1.o.blk 0 rfl);go_upto_region 7 with fail;go_cut [11] (λai e=>∃d k,ai=pointer (some ⟨d,0,none⟩)/\PH (Blk e d 292 (svC k K H Z (slice none 0 0) (slice none 0 0) (slice none 0 0) (slice none 0 0) (slice none 0 0) (slice none 0 0) (slice none 0 0))/\Fld e k/\Q.heap.size<=d/\Q.heap.size<=k/\Below Q.heap.size Q e))
   case first=>
    go_region_held3 (λq=>q.cell? ⟨w.heap.size,0,none⟩=some (int i64 K)/\q.cell? ⟨w.heap.size,1,none⟩=some (int i64 H)/\q.cell? ⟨w.heap.size,2,none⟩=some (int i64 Z)) (go_keep) (first
     | (go_at_call 216
        refine(oV _).mono ?_;rintro j wA ⟨k,rfl,r,u,f⟩;have e:Below Q.heap.size Q wA:=(az Q.heap.size Q).drew.trans f;obtain⟨I,J,N⟩:=kK ((S1.o.step e).blk 0 rfl);have v:=ae u;have A:Q.heap.size<=k:=r;have m:=ae e;clear u f e r))
    all_goals(
     go_wp2_with fail;go_meet;exact⟨wA.heap.size,k,rfl,ae ⟨Blk.new wA _ _,Blk.below (t:=337) v.o ((az _ _).alloc (aj _) _) (Blk.lt (t:=337) v.o),m.o.size,A,m.o.alloc m.o.size _⟩⟩)
   case rest=>
    obtain⟨d,k,rfl,u⟩:=hcut;obtain⟨v,A,ct,cu,m⟩:=u.o;have Y:=ae (((S1.o.step m).add (bS k 337 oZ) A).add (bS d _ _) v);have an:=ae (T.o.new m);have cw:=m.size;have I:=ae (HB.o.trans (m.mono a7));obtain⟨N,q1,X⟩:=kK (Y.o.blk 2 rfl);obtain⟨e,S⟩:∃e,e=K+H:=⟨_,rfl⟩;have J:kM K H Z=(e:Int):=(by unfold kM;rw[bg HK.o,S,Int.natCast_add]);have r:=ae (λW=>mi K H Z W);unfold dD at r;rw[J] at r;have bc:e<=64:=(by omega);have ay:PH (∀c,c<e->Byt Z (y.getD c [])):=(by rw[S];exact bo);have aE:PH (vI e Z (λc=>y.getD c []) al/\∀x∈al,x.1.Pairwise (·< ·)):=(by rw[S];exact a9);have HN:=ae S;clear v A m u T HB S1 p0 p1 p2 bo a9 J S;go_wp2_with fail;refine(r.o _).mono ?_;rintro j w4 ⟨rfl,m⟩;have P:=ae (Y.o.step m);have aV:=ae (an.o.new m);have cx:=m.size;have a0:=ae (I.o.trans (m.mono (by omega)));have CQ:=ae (Ic e o Z a6 c6 _ (λc=>y.getD c []) al w4 aV.o.rep bb.o (by omega) (by omega) a4 (by omega) (λc h=>ay.o c h) aE.o.1 (λx n=>Lr (aE.o.2 x n)));clear m r Y an I N q1 X;go_wp2_with fail;refine CQ.o.mono ?_;rintro j r ⟨gp,gk,g,C1,ai,kn,vl,rfl,ap,be,bB,b0,aq,aF⟩;have S4:=ae (P.o.step aF);have cy:d<w4.heap.size:=(P.o.blk 0 rfl).lt;have cz:=aF.size;have B5:Below w.heap.size w r:=(cg.o.trans (a0.o.mono (by omega))).trans (aF.mono (by omega));obtain⟨u,m,v,rfl⟩:=aq.sl;have N:=aq.len.1;rw[aC] at N;have cC:m<=o:=(by rw[<-N,<-bb.o];exact Bf);have ad:=Im (kn:=kn) aE.o.1 aE.o.2 ay.o;obtain⟨rest,aO⟩:∃rest,rest=fL kn (λc=>y.getD c []) Z al:=⟨_,rfl⟩;rw[<-aO] at aq N ad;obtain⟨I,v1,v2,v3⟩:=ap.hs;obtain⟨b1,b2,b3⟩:=ap.ne;have A:=S4.o.blk 0 rfl;have ar:Fld r k:=S4.o.blk 1 rfl;have bi:Blk ((r.setCell ⟨d,4,none⟩ (slice (some ⟨g,0,none⟩) e e)).setCell ⟨d,5,none⟩ (slice u m v)) d 292 (svC k K H Z (slice (some ⟨g,0,none⟩) e e) (slice u m v) (slice none 0 0) (slice none 0 0) (slice none 0 0) (slice none 0 0) (slice none 0 0)):=(A.set 4 _).set 5 _;have ag:∀b,b≠d->((r.setCell ⟨d,4,none⟩ (slice (some ⟨g,0,none⟩) e e)).setCell ⟨d,5,none⟩ (slice u m v)).heap[b]? =r.heap[b]? :=λb f=>(bE _ _ _ _ f).trans (bE _ _ _ _ f);have bj:Fld ((r.setCell ⟨d,4,none⟩ (slice (some ⟨g,0,none⟩) e e)).setCell ⟨d,5,none⟩ (slice u m v)) k:=(ag k (Blk.ne (t:=337) ar A (by decide))).trans ar
    have aS:(fe rest).ok ((r.setCell ⟨d,4,none⟩ (slice (some ⟨g,0,none⟩) e e)).setCell ⟨d,5,none⟩ (slice u m v)) (λb=>b≠d/\b≠g) [slice u m v]:=(fe rest).keep aq.fr λb f _=>by
     have aK:C1<=b:=f;exact⟨ag b (by omega),by omega,by omega⟩
    have ak:Rd ((r.setCell ⟨d,4,none⟩ (slice (some ⟨g,0,none⟩) e e)).setCell ⟨d,5,none⟩ (slice u m v)) ((r.setCell ⟨d,4,none⟩ (slice (some ⟨g,0,none⟩) e e)).setCell ⟨d,5,none⟩ (slice u m v)).heap.size (some ⟨gk,0,none⟩) e (bX kn):=by
     have f:Blk ((r.setCell ⟨d,4,none⟩ (slice (some ⟨g,0,none⟩) e e)).setCell ⟨d,5,none⟩ (slice u m v)) gk 4 (bX kn).toArray:=(ag gk (by omega)).trans ap.knb;exact⟨by rw[lF];exact ap.kl,λ_=>⟨gk,0,rfl,f.lt,λi aa J=>by rw[Nat.zero_add,f.cell i];simpa using J⟩⟩
    have bk:∃I:List Value,Blk ((r.setCell ⟨d,4,none⟩ (slice (some ⟨g,0,none⟩) e e)).setCell ⟨d,5,none⟩ (slice u m v)) g 30 I.toArray/\I.length=e/\∀c,c<e->(rN (vl.getD c [])).ok ((r.setCell ⟨d,4,none⟩ (slice (some ⟨g,0,none⟩) e e)).setCell ⟨d,5,none⟩ (slice u m v)) (λb=>b≠d/\b≠g) [I.getD c undef]:=
     ⟨I,(ag g (by omega)).trans v1,v2,λc J=>(rN _).keep (Pz (v3 c J) A (λaa=>by unfold svC;simp)) λb f _=>⟨ag b f.2,f.2,f.1.2.2⟩⟩
    have B6:=(B5.setCell (p:=⟨d,4,none⟩) (by show w.heap.size<=d;omega) (slice (some ⟨g,0,none⟩) e e)).setCell (p:=⟨d,5,none⟩) (by show w.heap.size<=d;omega) (slice u m v);have ao:((r.setCell ⟨d,4,none⟩ (slice (some ⟨g,0,none⟩) e e)).setCell ⟨d,5,none⟩ (slice u m v)).heap.size=r.heap.size:=(by simp);have CO:=ae (Ht d k K H Z e m v e u (some ⟨gk,0,none⟩) (slice (some ⟨g,0,none⟩) e e) (slice none 0 0) (slice none 0 0) (slice none 0 0) (slice none 0 0) (slice none 0 0) _ kn rest _ bi aS (λb f=>f.1) ak (λp j=>by cases j;show gk≠d;omega) N (by omega) (by omega) (λx n=>⟨(ad x n).1,(ad x n).2.1,(ad x n).2.2.2⟩));have g4:=A.cell 4;have g5:=A.cell 5;have y4:=A.frozen 4;have y5:=A.frozen 5;unfold svC at g4 g5;have bp:=ae bj;have bs:=ae aS;have bt:=ae bk;have ax:=ae B6;have bv:=ae ao;have ab:=ae N;have ac:=ae ad;have bw:=ae aO;have aM:=ae be;have bx:g≠d:=(by omega);have bd:w.heap.size<=d/\w.heap.size<=g/\d<r.heap.size/\g<r.heap.size/\k<r.heap.size/\k≠d:=⟨by omega,by omega,by omega,v1.lt,Blk.lt (t:=337) ar,Blk.ne (t:=337) ar A (by decide)⟩;have ci:=ae bx;have cj:=ae bd;clear bi ag bj aS ak bk B6 ao A ar ap aq v1 v2 v3 ad N aO be aF B5 CQ P aV S4 a0 bB b0 b1 b2 b3 bx bd;go_upto_region 12 with fail;clear g4 g5 y4 y5;generalize (r.setCell ⟨d,4,none⟩ (slice (some ⟨g,0,none⟩) e e)).setCell ⟨d,5,none⟩ (slice u m v)=w6 at*;go_wp2_with fail;refine CO.o.mono ?_;rintro j w7 ⟨rfl,vS,vD,vL,bx,De,ck,hP,ag,a0,ar,bB,be,A⟩;obtain⟨bi,⟨u1,u2,u3,u4,u5,u6⟩⟩:=And.intro ci.o cj.o;have ao:=bv.o;have b0:=Ls hP
    have cl:(rest.map Prod.fst++cW e λc=>kn.getD c false).length<=1100:=by
     have:=mI e λc=>kn.getD c false;rw[aH,aC,ab.o];omega
    obtain⟨St,aF⟩:∃St,St=bx.filter λs=> !decide (m<=s.1):=⟨_,rfl⟩;obtain⟨Le,aO⟩:∃Le,Le=ck.filter λi=> !decide (m<=i):=⟨_,rfl⟩;rw[<-aF] at ag;rw[<-aO] at ar
    have cm:St.length<=2000:=by
     have:=length_filter_le (λs:Nat×Nat=> !decide (m<=s.1)) bx;rw[aF];omega
    have b1:Le.Nodup:=by rw[aO];exact b0.2.2.filter _
    have ML:=Ns (D:=De.length) (W:=gD (λc=>vl.getD c []) (λ_=>replicate De.length 0) (dh (rest.map Prod.fst) (λ_=>replicate De.length 0) (gF (dO De.length) De De.length) St) (K+H))
     (M:=gD (λc=>vl.getD c []) (λc=>vl.getD c []) (dh (rest.map Prod.fst) (λN=>(rest.getD N ([],[])).2) (gF (λ_=>replicate Z 0) De De.length) St) (K+H)) (V:=λc=>vl.getD c []) (z:=λN=>(rest.getD N ([],[])).2) (St:=St) (Le:=Le) (De:=De) (rest:=rest) (kn:=kn) (vl:=vl)
     HK.o HM.o HX.o (by rw[<-HN.o];exact aM.o) (by rw[bw.o,ch.o]) (by rw[<-HN.o];exact hP) HF.o rfl (by rw[ab.o];exact aF) (by rw[ab.o];exact aO) rfl rfl rfl rfl
    rw[<-HN.o] at ML;obtain⟨m1,m2,m3,m4,m5,m6,m7,m8,m9,b2⟩:=ML
    have b3:Le.length<=1000:=by
     have:=jb b1 m4;rw[ab.o] at this;omega
    have ap:De.length<=64:=(by omega);obtain⟨aT,cT,rfl,-⟩:=dB ag;obtain⟨aD,cD,rfl⟩:=a0.lenA;obtain⟨aL,cL,rfl⟩:=ar.lenA;have b5:Fld w7 k:=(A k (by omega) u6).trans bp.o;have bj:=(fe rest).keep bs.o λb f C=>⟨A b C f.1,f⟩
    have b6:∃I:List Value,Blk w7 g 30 I.toArray/\I.length=e/\∀c,c<e->(rN (vl.getD c [])).ok w7 (λb=>b≠d/\b≠g) [I.getD c undef]:=by
     obtain⟨I,a1,U,a3⟩:=bt.o;exact⟨I,(A g a1.lt bi).trans a1,U,λc J=>(rN _).keep (a3 c J) λb f C=>⟨A b C f.1,f⟩⟩
    have b7:=(rS 2 (St.map gY)).more (G:=λb=>b≠d/\b≠g) (Jm ag) λb f _=>by
     have aK:w6.heap.size<=b:=f;exact⟨by omega,by omega⟩
    have b8:=(rI De).more (G:=λb=>b≠d/\b≠g) (gH a0) λb f _=>by
     have aK:w6.heap.size<=b:=f;exact⟨by omega,by omega⟩
    have b9:=(rI Le).more (G:=λb=>b≠d/\b≠g) (gH ar) λb f _=>by
     have aK:w6.heap.size<=b:=f;exact⟨by omega,by omega⟩
    have cE:=be.size;have B7:=qL ax.o be λb f=>A b (by omega) (by omega);have ad:=ae (FH d k K H Z e g m v De.length cD St.length cT u aD aT (slice aL Le.length cL) (slice none 0 0) (slice none 0 0) _ (λc=>vl.getD c []) rest St De w7 bB b5 b6 bj b7 b8 (λb f=>f) ab.o rfl rfl (by omega) cm bc ap a4 (by omega) m1 m3 m2 (λx n=>⟨(ac.o x n).1,(ac.o x n).2.1,(ac.o x n).2.2.1⟩));have ca:=ae bj;have cb:=ae b9;have cc:=ae B7;have M4:=ae m4;have M6:=ae m6;have M7:=ae m7;have M8:=ae m8;have M9:=ae m9;have aS:=ae b2;have M5:=ae m5;have M2:=ae m2;have cn:=ae (rfl:De.length=De.length);obtain⟨D,hD⟩:∃D,De.length=D:=⟨_,rfl⟩;obtain⟨cd,hT⟩:∃cd,St.length=cd:=⟨_,rfl⟩;obtain⟨NL,bk⟩:∃NL,Le.length=NL:=⟨_,rfl⟩;rw[hD] at ad M7 M8 M9 aS ap;rw[hT] at ad;rw[bk] at ad b3;have aV:=ae hD;have aq:=ae bk;clear hP ag a0 ar bB be b0 cl aF aO b1 m1 m2 m3 m4 m5 m6 m7 m8 m9 b2 b5 bj b6 b7 b8 b9 B7 bp bs bt ax CO bw bv A hD hT bk cn;go_wp2_with fail;refine ad.o.mono ?_;rintro j w8 ⟨rfl,gw,gm,bd,b1,ar,b2,A,aF⟩;have B8:=qL cc.o aF λb f=>A b (by omega) (by omega);have aO:=ae (K6 d k K H Z e g gw gm D cD aD _ _ _ _ _ _ _ w8 ar (by omega) (by omega) λb f=>.inr (by omega));have ag:=ae A;have a0:=ae B8;clear ar A B8 aF ad cc;go_wp2_with fail;refine aO.o.mono ?_;rintro j w9 ⟨rfl,ad,A⟩;have b5:=A.1.size;have B9:=qL a0.o A.1 λb f=>A.2 b (by omega) (by omega) (by omega);have aF:=(fe rest).keep (G:=Any) ca.o λb f C=>⟨(A.2 b (by omega) (by omega) (by omega)).trans (ag.o b C f.1),trivial⟩;have ar:=(rI Le).keep (G:=Any) cb.o λb f C=>⟨(A.2 b (by omega) (by omega) (by omega)).trans (ag.o b C f.1),trivial⟩;rw[aq.o] at ar;have bp:=ae (H9 d k K H Z e g gw gm m v D cD NL cL u aD aL _ _ _ _ _ rest Le w9 ad aF ar ab.o aq.o (by omega) b3 ap HK.o HN.o (λi hi=>by have:=M4.o i hi;rw[ab.o] at this;exact this) (λx n=>⟨(ac.o x n).1,(ac.o x n).2.1,(ac.o x n).2.2.1⟩) M7.o);have bs:=ae ad;have bt:=ae B9;clear ad A B9 aF ar aO a0 ag ca cb;go_wp2_with fail;refine bp.o.mono ?_;rintro j A ⟨va,vb,rfl,ad,ar⟩;have b6:=ar.size;have ag:=bs.o.new ar;have bv:=bt.o.trans (ar.mono (by omega));obtain⟨aA,nA,cA,rfl⟩:=ad.oa.sl;obtain⟨aB,nB,cB,rfl⟩:=ad.ob.sl;obtain⟨wA,wB,lA,lB⟩:=PD (K:=K) (H:=H) (D:=D) (Z:=Z) HN.o M5.o (λN hr=>M6.o N (M4.o N hr)) M7.o;have be:=ad.oa.len.1;have aF:=ad.ob.len.1;rw[aC,lA,aq.o] at be
    rw[aC,lB,aq.o] at aF;rw[aq.o] at lA lB;obtain⟨a',c',e1,bw,-⟩:=eZ (M:=sM K H D (rest.map Prod.fst) _ Le) ad.oa.rep (lA.trans be);injection e1 with e1 _ e3;subst e1 e3;have bB:(rM (wJ K H Z (rest.map Prod.fst) (λN=>(rest.getD N ([],[])).2) _ Le)).ok A _ [slice aB nB cB]:=ad.ob.rep;obtain⟨a',c',e1,b0,-⟩:=eZ bB (lB.trans aF);injection e1 with e1 _ e3;subst e1 e3
    have aO:=ae (λ(W:World) (aX:PK) (cX:Nat) (hW:Below A.heap.size A W) (a0:(rM (De.map λc=>y.getD c [])).ok W (λb=>b≠g) [slice aX D cX])=>
     (NJ d k K H Z e g gw gm D cX aX _ _ _ _ _ _ _ _ (λc=>y.getD c []) (De.map λc=>y.getD c []) W (ag.new hW).lt (λb f=>f.2) a0 (by rw[aC];exact aV.o) (λN hr=>by
       obtain⟨c,J,rfl⟩:=aY.1 hr
       exact ay.o c (M2.o c J)) bc ap a4 (by omega) M7.o (λc J=>⟨aS.o c J,λa0=>by
        cases hkc:kn.getD c false with
        | true=>exact(aM.o c J).1 hkc
        | false=>exact absurd ((aM.o c J).2 hkc) a0⟩) (λc J j=>by
       have h1:=(ay.o c J).1;rw[j] at h1;simp at h1;omega)).mono λj q (h:j=returned (.tuple #[])/\Vls q g e _ (λc=>y.getD c [])/\Kept2 W q g g)=>
     (by
       obtain⟨h1,h2,h3⟩:=h;have C:=(ag.new hW).blk.lt;have b7:=hW.size;refine⟨h1,?_,Vls.more h2 λ_ _=>trivial,qL (bv.trans (hW.mono (by omega))) h3.1 λb f=>h3.2 b (by omega) (by omega) (by omega)⟩;have e4:=(ag.new hW).blk.cell 4;exact(World.cell?_of_block (a:=⟨d,4,none⟩) (h3.2 d C (λj=>bi j.symm) (λj=>bi j.symm))).trans e4:j=returned (.tuple #[])/\q.cell? ⟨d,4,none⟩=some (slice (some ⟨g,0,none⟩) e e)/\Vls q g e Any (λc=>y.getD c [])/\Below w.heap.size w q))
    have p7:=ag.blk.cell 7;have p0:=ag.blk.cell 0;unfold svC at p7 p0;have bj:=ae (Fp.of ag.fld);have bk:=ae bw;have a0:=ae b0;have WA:=ae wA;have WB:=ae wB;have LB:=ae (lB.trans aF);have b8:=ae bc;clear ad ar ag bv wA wB lA lB bw b0 bB bp bs bt aM ac M4 M5 M6;by_cases q:D=0
    ·have aM:((D:Int) == 0)=true:=by rw[q];rfl
     have ad:=ae (λ(W:World) (hW:Below A.heap.size A W)=>aO.o W none 0 hW (by
      have j:De.map (λc=>y.getD c [])=[]:=by
       rw[map_eq_nil_iff];exact eq_nil_of_length_eq_zero (by rw[aV.o];exact q)
      rw[j,q];exact⟨none,0,0,rfl,aj _,bu _,λ_=>rfl,rfl,[],rfl,λh=>absurd h (by decide),λi R h=>by simp at h⟩))
     rw[q] at ad;have bp:=ae (M9.o q);clear aO M8 aS bk WA bj M9 M7;go_wp2_with fail;refine wp_goto ?_;refine H1.o _ _ ?_;clear p7 p0 aM;have am:=ae (az A.heap.size A);go_wp2_with fail;go_loopw [95] (λi wr=>∃aa:Nat,aa<=nB/\i=int i64 aa/\PH (Below A.heap.size A wr)) (λi _=>nB-(intOf i).toNat)
     case atStart=>exact⟨0,by omega,rfl,am⟩
     case round=>
      clear am;obtain⟨aa,bB,rfl,ac⟩:=hrel;by_cases bs:aa<nB
      ·have b0:(aa:Int)<(nB:Int):=by omega
       obtain⟨br,or,a8,c8,rfl,b9,bt,ag,-,ar,bv⟩:=(a0.o.below ac.o (aj _)).at bs;have bw:=bp.o _ (FT (l:=wJ K H Z (rest.map Prod.fst) (λN=>(rest.getD N ([],[])).2) _ Le) (i:=aa) (by rw[LB.o];exact bs));rw[bw,aI] at bt ag ar;have N:=ae (uT Z c8 _ a8 wr ag ar bv);clear ag bw ar bv;go_wp2_with fail;refine N.o.mono ?_;rintro j ag ⟨rfl,ar,hj⟩;have bv:PH (Below A.heap.size A ag):=ae (by rw[hj];exact below_drewN ac.o ar);clear hj N ac bt;go_wp2_with fail;go_roundw
       case rel=>exact⟨aa+1,by omega,by go_num,bv⟩
       case measure=>simp[intOf];omega
      ·have N:=ae (ad.o wr ac.o)
       clear ad a0 bp ac;go_wp2_with fail;refine wp_label ?_;go_wp2_with fail;refine N.o.mono ?_;rintro j bt ⟨rfl,c4,hV,hB⟩;have HV:=ae hV;have ar:=ae hB;clear hV hB N;go_wp2_with fail;simp only[dz];go_ret2;have S:=HN.o;subst S;exact⟨g,rfl,HV.o,ar.o⟩
    ·have aM:((D:Int) == 0)=false:=by rw[beq_eq_false_iff_ne];omega
     obtain⟨r1,r2⟩:=M8.o (by omega);have bs:1<=H:=(by have:=ba HK.o;omega);have CS:=wY (some ⟨k,0,none⟩) D Z nA cA cB _ _ aA aB A bj.o bk.o (by have h:=a0.o;rw[<-aF,be] at h;exact h) WA.o WB.o ap (by omega) (by omega) (by omega);rw[r1,r2] at CS;have bp:nB=nA:=(by omega);subst bp;have CS:=ae CS;clear r1 r2 M8 M9 aS M7 bk a0 WA WB bj LB;go_wp2_with fail;refine CS.o.mono ?_;rintro j ag ⟨ai,rfl,ac,ad⟩;have aa:=Cq ac;obtain⟨aX,cX,rfl,-⟩:=O2 aa;rw[aC,aC,aV.o] at aa
     have N:=ae (aO.o ag aX cX ad ((rM _).more aa λb f _=>by
      have aK:A.heap.size<=b:=f;omega))
     have b:PH ((List.map rB (De.map λc=>y.getD c [])).length=D):=ae (by rw[aC,aC];exact aV.o);rw[b.o];clear ac ad aa aO CS;go_wp2_with fail;refine wp_goto ?_;refine H2.o _ _ ?_;go_wp2_with fail;refine N.o.mono ?_;rintro j bt ⟨rfl,c4,hV,hB⟩;have HV:=ae hV;have ar:=ae hB;clear hV hB N p7 p0;go_wp2_with fail;simp only[dz];go_ret2;have S:=HN.o;subst S;exact⟨g,rfl,HV.o,ar.o⟩
theorem NE{w:World}{d n:Nat}{F:Nat->Prop}{b:List PI}(m:Vls w d n F (λc=>b.getD c []))(f:b.length=n)(o:∀c,c<n->b.getD c []≠[]):RdM w w.heap.size (some ⟨d,0,none⟩) n b:=by
 obtain⟨hs,g,p,q⟩:=m;refine⟨f,hs,⟨p,λ_=>⟨d,0,rfl,g.lt,λa h e=>by rw[Nat.zero_add,g.cell a];simpa using e⟩⟩,λa r h=> ?_⟩;have i:a<n:=by rw[<-f];exact(List.getElem?_eq_some_iff.1 h).1
 have s:b.getD a []=r:=by rw[af,h];rfl
 have e:(rN (b.getD a [])).ok w F [hs.getD a undef]:=q a i;unfold rN at e;rw[bh (o a i)] at e;obtain⟨t,c,j,k,u,l,v⟩:=fC e rfl;rw[s] at j k l;exact⟨t,c,by rw[<-j];simpa using rJ (hs:=hs) (by omega),k,u,l,v⟩
theorem H8(K H Z o c:Nat)(s:Int)(a:PK)(F:Nat->Prop)(L:List (Nat×PI))(f:List PI)(w:World)(G:fB K H Z=true)(ab:0<=s)(ac:s<4294967296)
 (hL:(gB L).ok w F [slice a o c])(R:L.length=o)(Y:o<=1000)(hm:MidOK K H Z s f)(S:∀x∈L,x.1<=65535/\x.2=gN K H Z s f x.1):
 Calls prog 113 #[dD K H Z,.int .u32 s,slice a o c] w λp d=>(dK K H Z s (L.map Prod.fst)=true->∃v,p=returned (.tuple #[v,int i64 0])/\OwnB d w.heap.size v (qc K H Z s f K))/\
  (dK K H Z s (L.map Prod.fst)=false->p=returned (.tuple #[slice none 0 0,int i64 9]))/\Below w.heap.size w d:=by
 have r:=ba G;have bt:K<=16:=by omega
 have bv:H<=4:=by omega
 have aR:Z<=24:=by omega
 have bw:1<=Z:=by omega
 have bx:1<=K:=by omega
 have g:=ae λw=>fK K H Z w;rw[G] at g;have k:∀x∈L,x.1<=65535/\x.2.length=Z:=λx h=>⟨(S x h).1,by rw[(S x h).2];exact jJ G hm x.1⟩;have q:=ae (λ(B:Nat) (b:World) (u:(gB L).ok b (Bl w.heap.size) [slice a o c]) (e:Blk b B 25 #[int i64 K,int i64 H,int i64 Z])=>wu B K H Z o c a _ L b u R Y e k);have CI:=ae (λ(b:World) (u:(gB L).ok b (Bl w.heap.size) [slice a o c])=>Nq o c a _ L b u R Y);have CF:=ae (λ(v:PK) (n j:Nat) (b:World) (u:Rd b b.heap.size v n (bH (L.map Prod.fst))) (e:n<=1000)=>sx K H Z s (L.map Prod.fst) v n j b G ab ac u (λi j=>by obtain⟨x,aS,rfl⟩:=aY.1 j;exact(S x aS).1) e);have CD:=ae (λ(b:World) (u:(gB L).ok b (Bl w.heap.size) [slice a o c]) (e:dK K H Z s (L.map Prod.fst)=true)=>Me K H Z o c s a _ L f b G ab ac u R Y hm S e);have CL:=ae λ(id:Nat) w=>xY K H Z s id w ab ac;have b:=ae ((gB L).bl hL);have e:=(az w.heap.size w).alloc (aj _) (cells #[int i64 K,int i64 H,int i64 Z] 25)
 have j:PH (Sx w (w.alloc (cells #[int i64 K,int i64 H,int i64 Z] 25)) [bS w.heap.size 25 #[int i64 K,int i64 H,int i64 Z],eR (Bl w.heap.size) (slice a o c) (gB L)]):=
  ae ((((Sx.nil w).add (eR (Bl w.heap.size) (slice a o c) (gB L)) b.o).alloc _).add (bS _ _ _) (Blk.new w 25 #[int i64 K,int i64 H,int i64 Z]))
 have bB:w.heap.size<(w.alloc (cells #[int i64 K,int i64 H,int i64 Z] 25)).heap.size:=by simp
 have aT:PH ((L.map Prod.fst).length=o):=ae (by rw[aC];exact R);have C:=ae hm;have HK:=ae G;have aV:∀w:World,(Instr.makeSlice 30 (int i64 (Z:Int)) (int i64 (Z:Int))).run prog w=.ok (slice (some ⟨w.heap.size,0,none⟩) Z Z) (w.alloc (cells (bK (replicate Z 0)) 5)):=λw=>dR (n:=Z) (by omega) w;unfold dD at g CF CD CL;clear r G hL e R S k hm b;unfold dD;go_enter func113,ntmps113;go_upto_region 1 with fail;generalize w.alloc (cells #[int i64 K,int i64 H,int i64 Z] 25)=w0 at*;obtain⟨M,N,O⟩:=kK (j.o.blk 0 rfl);go_wp2_with fail;refine(g.o _).mono ?_;rintro p w1 ⟨rfl,e⟩;have b:=ae (j.o.step e);have b0:=e.size;clear e j M N O g;go_wp2_with fail;refine(q.o _ _ (b.o.rep 1 rfl) (b.o.blk 0 rfl)).mono ?_;rintro p w2 ⟨rfl,e⟩;have S2:=ae (b.o.step e);have b1:=e.size;obtain⟨M,N,O⟩:=kK (S2.o.blk 0 rfl);clear e b q;go_upto_region 3 with fail;go_cut [30] (λv b=>v=bool (!dK K H Z s (L.map Prod.fst))/\PH (Sx w b [bS w.heap.size 25 #[int i64 K,int i64 H,int i64 Z],eR (Bl w.heap.size) (slice a o c) (gB L)])/\PH (w2.heap.size<=b.heap.size))
 case first=>
  go_region_held3 (λd=>d.cell? ⟨w.heap.size,0,none⟩=some (int i64 K)/\d.cell? ⟨w.heap.size,1,none⟩=some (int i64 H)/\d.cell? ⟨w.heap.size,2,none⟩=some (int i64 Z)) (go_keep) (first
   | (go_at_call 174
      refine(CI.o _ (S2.o.drew.rep 1 rfl)).mono ?_;rintro p I ⟨v,rfl,P,e⟩;have b:=ae (S2.o.drew.step e);have g:w2.heap.size<=I.heap.size:=e.size;obtain⟨k,q,rfl,d,-⟩:=dI (gH P) aT.o;have j:=ae d;obtain⟨m0,m1,m2⟩:=kK (b.o.blk 0 rfl);clear P e d)
   | (go_at_call 173
      refine(CF.o _ _ _ _ j.o Y).mono ?_;rintro p r ⟨rfl,e⟩;have Q:=ae (b.o.step e);have d:=ae (aP g e.size);obtain⟨t,y,A⟩:=kK (Q.o.blk 0 rfl);clear e))
  all_goals(
   go_wp2_with fail;go_meet;exact⟨rfl,Q,d⟩)
 case rest=>
  obtain⟨rfl,T,aX⟩:=hcut;obtain⟨M,N,O⟩:=kK (T.o.blk 0 rfl);have b2:=aX.o;clear S2 CI CF;cases hfb:dK K H Z s (L.map Prod.fst) with
  | false=>
    have ad:=ae hfb;clear hfb CD;go_wp2_with fail;go_ret2;exact⟨λh=>absurd (h.symm.trans ad.o) (by decide),λ_=>rfl,T.o.1⟩
  | true=>
    have g:=ae (CD.o wc (T.o.rep 1 rfl) hfb);have ad:=ae hfb;clear hfb CD;go_wp2_with fail;refine g.o.mono ?_;rintro p y ⟨gv,rfl,j,e⟩;have Q:=ae (T.o.step e)
    have k:∀c,c<K+H->f.getD c []≠[]:=λc b p=>by
     have u:=(C.o.row b).1;rw[p] at u;simp at u;omega
    have ap:=ae (NE j C.o.len k);have b3:=e.size;obtain⟨n,d⟩:∃n,K+H=n:=⟨_,rfl⟩;rw[d] at ap;have U:=ae d;rw[d];obtain⟨q,r,t⟩:=kK (Q.o.blk 0 rfl);have aq:PH (OwnB y y.heap.size (slice none 0 0) (qc K H Z s f 0)):=ae (OwnB.nil _ _);have ar:=ae (az y.heap.size y);clear j e d k g T M N O;go_wp2_with fail;clear q r t;go_loopw [10,43] (λv i wr=>∃d:Nat,d<=K/\i=int i64 d/\PH (OwnB wr y.heap.size v (qc K H Z s f d))/\PH (Below y.heap.size y wr)) (λ_ i _=>K-(intOf i).toNat)
    case atStart=>exact⟨0,by omega,rfl,aq,ar⟩
    case round=>
     clear aq ar;obtain⟨d,b5,rfl,E,V⟩:=hrel;have b6:=V.o.size;obtain⟨ao,no,co,rfl,b7⟩:=OwnB.sl E.o;by_cases b8:d<K
     ·have b9:(d:Int)<(K:Int):=by omega
      generalize wr=r at*;have j:=ae (Q.o.step V.o);obtain⟨M,N,O⟩:=kK (j.o.blk 0 rfl);have k:=(az r.heap.size r).alloc (aj _) (cells (bK (replicate Z 0)) 5);have g:=ae ((j.o.step k).add (bS r.heap.size 5 (bK (replicate Z 0))) (Blk.new r _ _));have a0:(r.alloc (cells (bK (replicate Z 0)) 5)).heap.size=r.heap.size+1:=(by simp);have au:=ae k;obtain⟨m0,m1,m2⟩:=kK (g.o.blk 1 rfl);have q:=ae (CL.o d);clear k j;go_upto_region 13 with(simp only[aV]);clear M N O;generalize r.alloc (cells (bK (replicate Z 0)) 5)=w3 at*;obtain⟨j,k⟩:∃j,j=r.heap.size:=⟨_,rfl⟩;rw[<-k] at g a0 au;have aw:y.heap.size<=j:=(by omega);have a1:=ae k;have a2:=E;have ax:=V;have t:∀c∈gQ K H Z s (d:Nat),c<n:=(by rw[<-U.o];exact(kw (s:=s) (id:=(d:Nat)) HK.o).1);have a3:PH (gN K H Z s f d=bR (λc=>f.getD c []) (gQ K H Z s (d:Nat)) (replicate Z 0)):=ae rfl;have ca:=Ao K H Z s (d:Nat);have ag:=ae t;rw[<-k];clear E V t k;generalize gQ K H Z s (d:Nat)=k at*;go_wp2_with fail;refine(q.o _).mono ?_;rintro p I ⟨v,rfl,P,e⟩;obtain⟨aL,cL,rfl⟩:=P.lenA;have E:=ae P;have S7:=ae (g.o.step e);have cb:=e.size;have ay:=ae (au.o.trans (e.mono (by omega)));have t:=grownBy_refl I (some j);have aA:=ae t;have aB:PH (Blk I j 5 (bK (bR (λc=>f.getD c []) (k.take 0) (replicate Z 0)))):=ae (S7.o.blk 0 rfl);have a4:=ae (ax.o.trans (ay.o.mono aw));have aD:=ae (ap.o.below a4.o (aj _));have J:∀d,(bR (λc=>f.getD c []) (k.take d) (replicate Z 0)).length=Z:=λd=>eQ aI λc b=>(C.o.row (by rw[U.o];exact ag.o c (bD b))).1;have aa:∀d,By (bR (λc=>f.getD c []) (k.take d) (replicate Z 0)):=λd=>(dF (D:=Z) (Byt.zero Z) λc b=>C.o.row (by rw[U.o];exact ag.o c (bD b))).2;have a5:=ae J;have a7:=ae aa;generalize b:k.length=W at*;have HQ:=ae b;clear b P e t J aa g q m0 m1 m2;generalize b:w3.heap.size=cc at*;clear b;have cd:j<I.heap.size:=(by omega);go_wp2_with fail;go_loopw [54] (λi wr=>∃g:Nat,g<=W/\i=int i64 g/\PH (Blk wr j 5 (bK (bR (λc=>f.getD c []) (k.take g) (replicate Z 0))))/\PH (I.grownBy wr (some j))) (λi _=>W-(intOf i).toNat)
      case atStart=>exact⟨0,by omega,rfl,aB,aA⟩
      case round=>
       clear aB aA;obtain⟨g,ce,rfl,q,t⟩:=hrel;by_cases aE:g<W
       ·have cf:(g:Int)<(W:Int):=by omega
        have b:g<k.length:=(by rw[HQ.o];exact aE);obtain⟨gL,rfl,cg,a8⟩:=E.o.formA HQ.o (by omega);obtain⟨am,-⟩:=E.o.cellA HQ.o aE;have a9:wr.cell? ⟨gL,g,none⟩=some (int i64 (k.getD g 0:Nat)):=(gW t.o a8 (by omega)).trans am;have ai:k.getD g 0<n:=ag.o _ (by rw[getD_at b];exact aQ b);obtain⟨bm,om,a',c',ak,ch,A,al,-⟩:=aD.o.at ai;injection ak with ak;injection ak with bb bc _;subst bb bc;rw[Nat.zero_add] at A;have aF:wr.cell? ⟨gv,k.getD g 0,none⟩=some (slice a' (f.getD (k.getD g 0) []).length c'):=(gW t.o (by omega) (by omega)).trans A;have X:=(C.o.row (by rw[U.o];exact ai)).1;have bd:=(C.o.row (by rw[U.o];exact ai)).2;rw[X] at aF al;have be:=ae (mZ (m:=λc=>f.getD c []) (z:=replicate Z 0) b);have J:=a5.o g;have aa:=a7.o g;have ci:((k.getD g 0:Nat):Int)<(n:Int):=(by omega);have bi:=ae al;clear am A b al;generalize f.getD (k.getD g 0) []=A at*;generalize bR (λc=>f.getD c []) (k.take g) (replicate Z 0)=D at*;generalize b:bR (λc=>f.getD c []) (k.take (g+1)) (replicate Z 0)=D2 at*;have bj:=ae b;clear b;generalize k.getD g 0=x at*;rename World=>r;have aK:PH (Blk r j 5 (bK (yA D A 0))):=ae (by rw[uO];exact q.o);go_wp2_with fail;go_loopw [63] (λi wr=>∃b:Nat,b<=Z/\i=int i64 b/\PH (Blk wr j 5 (bK (yA D A b)))/\PH (I.grownBy wr (some j))) (λi _=>Z-(intOf i).toNat)
        case atStart=>exact⟨0,by omega,rfl,aK,t⟩
        case round=>
         clear aK t q a9 aF;obtain⟨b,bk,rfl,q,t⟩:=hrel;by_cases al:b<Z
         ·have cj:(b:Int)<(Z:Int):=by omega
          obtain⟨br,bl,rfl,ck,aM⟩:=bi.o.2 (by omega);have aO:=aM b (.int .u8 (A.getD b 0:Nat)) (dQ (by omega));have cl:wr.cell? ⟨br,bl+b,none⟩=some (.int .u8 (A.getD b 0:Nat)):=(gW t.o (by omega) (by omega)).trans aO
          have hd:wr.cell? ⟨j,b,none⟩=some (.int .u8 (D.getD b 0:Nat)):=by
           rw[q.o.cell b];have:=dQ (l:=yA D A b) (i:=b) (by rw[yC J X bk];exact al);rw[yD J X al] at this;simpa[bK] using this
          have cm:=q.o.frozen b;have bo:=getD_lt bd b;have bp:=getD_lt aa b;have cn:=u8_xor_nat (D.getD b 0) (A.getD b 0) bp bo;have am:=q.o.set b (.int .u8 ((D.getD b 0 ^^^ A.getD b 0:Nat):Int));rw[kV,yE J X al] at am;have an:=ae am;have bs:=ae (oU t.o b (.int .u8 ((D.getD b 0 ^^^ A.getD b 0:Nat):Int)));clear am aM aO q t;generalize D.getD b 0 ^^^ A.getD b 0=am at*;generalize D.getD b 0=y1 at*;generalize A.getD b 0=y2 at*;go_wp2_with fail;go_roundw
          case rel=>exact⟨b+1,by omega,by go_num,an,bs⟩
          case measure=>simp[intOf];omega
         ·obtain rfl:b=Z:=by omega
          have an:PH (Blk wr j 5 (bK (bR (λc=>f.getD c []) (k.take (g+1)) (replicate b 0)))):=ae (by rw[bj.o,be.o,<-yB J X];exact q.o);go_wp2_with fail;go_roundw
          case rel=>exact⟨g+1,by omega,by go_num,an,t⟩
          case measure=>simp[intOf];omega
       ·obtain rfl:g=W:=by omega
        rw[aJ (by rw[HQ.o];exact aj _),<-a3.o] at q;have an:(gN K H Z s f d).length=Z:=jJ HK.o C.o d;have b:PH (Below j r wr):=ae (ay.o.grown t.o (by omega) λA e=>by injection e with e;omega);have X:PH (OwnB wr y.heap.size (slice ao no co) (qc K H Z s f d)):=ae (fI a2.o (by rw[<-a1.o];exact b.o));have bb:=b.o.size;have aF:y.heap.size<=wr.heap.size:=(by omega);have A:Rd wr wr.heap.size (some ⟨j,0,none⟩) Z (bF (gN K H Z s f d)):=⟨by rw[bG];exact an,λ_=>⟨j,0,rfl,q.o.lt,λi ai hu=>by rw[Nat.zero_add,q.o.cell i];simpa[bK] using hu⟩⟩;have ai:=ae A
        have aK:(qc K H Z s f d).length+Z<=1000000:=by
         rw[Jh HK.o C.o];have:=bn (show d<=16 by omega) aR;omega
        have ak:=ae (ax.o.trans (b.o.mono aw));have aM:=ae (wT K H Z s f d);clear A q aD E t
        go_wp2_with (at_builtin;refine ni rfl _ _ rfl X.o aF aK rfl rfl (λp=>by cases p) ai.o ?_)
        intro v6 w6 A al aO a8;rw[<-aM.o] at A;have am:=ae A;have a9:=ae (ak.o.trans al);obtain⟨a6,n6,c6,rfl,h6⟩:=OwnB.sl am.o;clear A al aO a8 X ai ak h6;go_wp2_with fail;go_roundw
        case rel=>exact⟨d+1,by omega,by go_num,am,a9⟩
        case measure=>simp[intOf];omega
     ·obtain rfl:d=K:=by omega
      have b:=ae (Q.o.1.trans (V.o.mono (by omega)));go_wp2_with fail;go_ret2;exact⟨λ_=>⟨_,rfl,E.o.base (by omega)⟩,λh=>absurd (h.symm.trans ad.o) (by decide),b.o⟩
theorem MO(xs:PI)(a b:PK)(n c d:Nat)(w:World)(e:Rd w w.heap.size a n (bF xs))(f:Rd w w.heap.size b n (bF xs))(i:n<=1000000):
 Calls prog 20 #[slice a n c,slice b n d] w λg h=>g=returned (bool true)/\∃j,h=w.drewN j:=by
 rw[AC] at e f;have g:=Ms _ _ a b n n c d w e f (by unfold maxLen;omega) (by unfold maxLen;omega);rw[bf rfl] at g;exact g
theorem Gu:prog.eqGuardType prog.depth 25=false:=by kernel_rfl
theorem MG(K H Z:Nat)(w:World):(binOp .neq 25 (.agg #[int i64 K,int i64 H,int i64 Z]) (.agg #[int i64 K,int i64 H,int i64 Z])).run prog w=.ok (bool false) w:=by
 have a:prog.underlying 25=some (.struct (prog.fieldsOf 25)):=by kernel_rfl
 have b:prog.stoodInHeld 25=false:=by kernel_rfl
 rw[run_neq_struct,show(10000:Nat)=9999+1 from rfl,run_equalIn_agg w 9999 _ _ _ a b];simp only[Program.fieldsOf,underlying25];go_simp
theorem J3{k:Nat}{L:List Rp}{w:World}{F:Nat->Prop}{a:List Value}{n:Nat}(b:0<k)(d:L.length=n)(e:a.length=n*k)(f:∀(i:Nat) R,L[i]? =some R->R.ok w F ((a.drop (i*k)).take k)):∀u∈a,u.oneCell'=true:=λu g=>by
 obtain⟨i,c,rfl⟩:=bC g;have g:i/k<L.length:=by rw[d];exact(Nat.div_lt_iff_lt_mul b).2 (by rw[<-e];exact c)
 have h:=f (i/k) _ (ah g);refine Rp.one _ h _ (mem_of_getElem? (i:=i%k) ?_);rw[List.getElem?_take,bg (Nat.mod_lt _ b),List.getElem?_drop,show i/k*k+i%k=i by rw[Nat.mul_comm];exact Nat.div_add_mod i k];exact ah c
theorem Gv{P:Program}{w:World}{ops:Array Oper}{o:Oper}{a:Act}{K:Act->World->Prop}{Q:Exit->Act->World->Prop}{E:Prop}(J:o.guard=none)(s x:Operand){T e:TypeId}{z:Value}{k h:Nat}
 (M:o.op=.call { callee:=.builtin .append,args:=#[s,x],argTypes:=#[T,T] })(N:P.underlying T=some (.slice e))(O:(P.info? e).map (λf=>(f.zero,f.size,f.bytes))=some (some z,k,h))(R:z.cells.size=k)(p:0<k)(S:h<=1000)
 {C m c:Nat}{v:Value}{i:Addr}{L q:List Rp}{F:Nat->Prop}(r:OwnS w C e k F v L)(t:C<=w.heap.size)(U:L.length+m<=1000000)
 (V:(rS k q).ok w (λb=>F b/\some b≠v.ownBlock) [slice (some i) m c])(hs:a.eval s=v)(W:a.eval x=slice (some i) m c)
 (X:∀d g,OwnS g C e k F d (L++q)->Below C w g->w.heap.size<=g.heap.size->(∀b,b<w.heap.size->some b≠v.ownBlock->g.heap[b]? =w.heap[b]?)->(d.ownBlock=v.ownBlock\/∃b,d.ownBlock=some b/\w.heap.size<=b)->K (a.put o.dst d) g):
 if Region.wanted o (yielded ops a.tmps)=true then Oper.wp P o a w K Q else E:=by
 have Y:=r.lt;obtain⟨Z,u,h2⟩:=r;obtain⟨f,aa,ab,ac,ag⟩:=info_parts O;obtain⟨an,m',c',e,g1,g2,g3,y,A,D,g6,G⟩:=V;injection e with e _;injection e with e1 e2 e3;subst e1 e2 e3;have hw:Region.wanted o (yielded ops a.tmps)=true:=by simp[Region.wanted,J]
 rw[bg hw]
 have ai:∀(g:Nat) (j:Value),A[g]? =some j->w.cell? (i.add g)=some j:=by
  intro g j H;have ao:=(List.getElem?_eq_some_iff.1 H).1;obtain⟨b,o,e,hF,hc⟩:=g6 (by omega);obtain rfl:=Option.some.inj e;rw[Addr.add_lit];exact hc g j H
 have n:(L.length+m)*h<=140737488355328:=by
  have:=bn U S;omega
 obtain⟨d,w',ak,al,l,_,I⟩:=run_append_own_at (P:=P) w C T o.type e f z k h N aa ab ac ag R p v L.length Z u i m c A D ai (J3 p y D G) (by unfold maxLen;omega) n t;unfold Oper.wp execOp;simp only[M,resolve,invoke,builtin,Sem.run_bind,Sem.run_pure,Result.andThen_ok,map_toArray,map_cons,map_nil,hs,W,ak];exact X d w' (OwnS.app u h2 G (by rw[y];exact al) l I) ((az _ _).grown l t λb am=>(Y b am).1) l.size (λb n am=>l.block b n am) (I.elim .inl λe=>.inr ⟨_,e,aj _⟩)
theorem qA{c a B:Prop}[Decidable c](b:c)(d:a):(if c then a else B):=by rw[bg b];exact d
theorem MH{P:Program}{w:World}{o:Oper}{a:Act}{K:Act->World->Prop}{Q:Exit->Act->World->Prop}(g:o.guard=none)(s x:Operand){T e:TypeId}{z:Value}{k h:Nat}
 (l:o.op=.call { callee:=.builtin .append,args:=#[s,x],argTypes:=#[T,T] })(n:P.underlying T=some (.slice e))(p:(P.info? e).map (λd=>(d.zero,d.size,d.bytes))=some (some z,k,h))(q:z.cells.size=k)(r:0<k)(t:h<=1000)
 {C m c:Nat}{v:Value}{i:Addr}{L j:List Rp}{F:Nat->Prop}(u:OwnS w C e k F v L)(y:C<=w.heap.size)(A:L.length+m<=1000000)
 (D:(rS k j).ok w (λb=>F b/\some b≠v.ownBlock) [slice (some i) m c])(hs:a.eval s=v)(G:a.eval x=slice (some i) m c)
 (H:∀f d,OwnS d C e k F f (L++j)->Below C w d->w.heap.size<=d.heap.size->(∀b,b<w.heap.size->some b≠v.ownBlock->d.heap[b]? =w.heap[b]?)->(f.ownBlock=v.ownBlock\/∃b,f.ownBlock=some b/\w.heap.size<=b)->K (a.put o.dst f) d):
 Oper.wp P o a w K Q:=by
 have d:=Gv (ops:=#[]) (E:=True) (Q:=Q) g s x l n p q r t u y A D hs G H
 rwa [bg (by simp[Region.wanted,g])] at d
theorem OwnI.keepO{w w':World}{C:Nat}{v:Value}{xs:PI}(a:OwnI w C v xs)(c:∀b,v.ownBlock=some b->w'.heap[b]? =w.heap[b]?):OwnI w' C v xs:=bZ a c
section
variable {B:Nat}
def Fd(w:World)(b:Nat):Prop:=¬Md w b
theorem Fd.keep{w w':World}{b:Nat}(a:Fd w b)(c:w'.heap[b]? =w.heap[b]?):Fd w' b:=λd=>a (d.keep c.symm)
theorem Rp.chgD(R:Rp){w w':World}{c:List Value}(a:R.ok w (Fd w) c)(d:ChgD B w w'):R.ok w' (Fd w') c:=
 R.keep a λe b f=>⟨d.block e f λa=>b a.2,b.keep (d.block e f λa=>b a.2)⟩
theorem Rp.fd(R:Rp){w w':World}{a:List Value}(b:R.ok w (Fd w) a)(c:Below w.heap.size w w'):R.ok w' (Fd w') a:=R.chgD (B:=0) b (ChgD.below c)
theorem OwnI.chgD{w w':World}{C:Nat}{v:Value}{l:PI}(a:OwnI w C v l)(d:ChgD B w w'):OwnI w' C v l:=
 a.keepO λb c=>d.block b (a.ltA b c).2 λe=>Md.not (a.ty b c) (by decide) (by decide) e.2
def cZ(x:Nat×PI):Rp:=rP (rV (int i64 x.1)) (rB x.2)
def uu:Nat×PI:=(0,[])
theorem zM{P:List (Nat×PI)}{w:World}{F:Nat->Prop}{a:PK}{n c i:Nat}(h:(rS 2 (P.map cZ)).ok w F [slice a n c])(x:P.length=n)(j:i<n):
 ∃b o d e,a=some ⟨b,o,none⟩/\F b/\b<w.heap.size/\w.cell? ⟨b,o+i*2,none⟩=some (int i64 (P.getD i uu).1)/\w.cell? ⟨b,o+i*2+1,none⟩=some (slice d (P.getD i uu).2.length e)/\(rB (P.getD i uu).2).ok w F [slice d (P.getD i uu).2.length e]:=by
 have k:i<P.length:=by omega
 have l:(P.map cZ)[i]? =some (cZ (P.getD i uu)):=by rw[List.getElem?_map,af,ah k];rfl
 obtain⟨b,o,y,rfl,m,p,q,z,g⟩:=uQ h (by decide) j l;obtain⟨r,A,rfl,s,f⟩:=q;have t:r=[int i64 (P.getD i uu).1]:=s.1;subst t;have u:=(rB (P.getD i uu).2).len f;obtain⟨C,rfl⟩:=length_eq_one_iff.1 u;obtain⟨d,e,v,-⟩:=fC f rfl;subst v;exact⟨b,o,d,e,rfl,m,p,g 0 _ rfl,g 1 _ rfl,f⟩
end
section
variable {B:Nat}
theorem Gh{w:World}{ops:Array Oper}{rest:List Oper}{o:Oper}{a:Act}{Q:Exit->Act->World->Prop}(e:o.guard=none)(s x:Operand){C y:Nat}{i:Int}{v:Value}{xs:PI}(f:i=(y:Int))
 (g:o.op=.call { callee:=.builtin .append,args:=#[s,x],argTypes:=#[22,22] })
 (h:OwnI w C v xs)(j:C<=w.heap.size)(u:xs.length<=1000000)(hs:a.eval s=v)(k:a.eval x=slice (some ⟨w.heap.size,0,none⟩) 1 1)
 (K:∀c b,OwnI b C c (xs++[y])->Chg (λd=>some d=v.ownBlock) w b->wpList prog ops Q rest (a.put o.dst c) b):
 wpList prog ops Q (o :: rest) a (w.alloc (cells #[int i64 i] 3)):=by
 subst f;have d:=(az w.heap.size w).alloc (aj _) (cells #[int i64 (y:Int)] 3);have l:OwnI (w.alloc (cells #[int i64 (y:Int)] 3)) C v xs:=fI h d;have m:=aP j d.size;have n:=dZ w #[int i64 (y:Int)] 3 0;generalize w.alloc (cells #[int i64 (y:Int)] 3)=p at*;refine jv (P:=prog) p e s x 22 g C 3 (int i64 0) 8 underlying22 iU rfl v xs.length (bH xs) hs l w.heap.size (int i64 (y:Int)) k n rfl (by omega) (by unfold maxLen;omega) m λc b q r z=> ?_;refine K c b ?_ ((Chg.of d).trans (Chg.grown r λA t _=>t.symm));unfold OwnI;rw[aH];have t:bH (xs++[y])=bH xs++[int i64 (y:Int)]:=by unfold bH;rw[aU];rfl
 rw[t];exact q
theorem ChgD.newer{w w1 d:World}{M:Nat->Prop}(a:ChgD B w w1)(k:Chg M w1 d)(f:∀b,M b->w.heap.size<=b):ChgD B w d:=
 ⟨k.os.trans a.os,k.tape.trans a.tape,k.output.trans a.output,aP a.size k.size,λc e g=>(k.block c (aW e a.size) λh=>by have:=f c h;omega).trans (a.block c e g)⟩
end
theorem uM(m:cQ)(g n:PK)(e i b d:Nat)(F:Nat->Prop)(w:World)(hd:(rI m.drives).ok w F [slice g e i])(aa:m.drives.length=e)(ho:(rS 4 (m.objs.map bQ)).ok w F [slice n b d])(ab:m.objs.length=b)(hm:il m):
 Calls prog 91 #[.agg (bV m (slice g e i) (slice n b d))] w λa E=>a=returned (bool true)/\Below w.heap.size w E:=by
 obtain⟨⟨u,v⟩,p,c,x,⟨q,A⟩,q8,j⟩:=hm
 have l:PH (Sx w (w.alloc (cells (bV m (slice g e i) (slice n b d)) 68)) [bS w.heap.size 68 (bV m (slice g e i) (slice n b d)),eR F (slice g e i) (rI m.drives),eR F (slice n b d) (rS 4 (m.objs.map bQ))]):=
  ae (((((Sx.nil w).add (eR F (slice n b d) (rS 4 (m.objs.map bQ))) ho).add (eR F (slice g e i) (rI m.drives)) hd).alloc _).add (bS _ _ _) (Blk.new w _ _))
 have av:=ba c;have M:=ae j;have T:=ae ab;have o:=ae λw=>fR (m.seq:Nat) 1 2147483647 w;have y:=ae λw=>fR (m.next:Nat) 0 16777216 w;have z:=ae λw=>fR (m.extra:Nat) 0 16 w;rw[bf (show(1:Int)<=(m.seq:Nat)/\((m.seq:Nat):Int)<=2147483647 by omega)] at o;rw[bf (show(0:Int)<=(m.next:Nat)/\((m.next:Nat):Int)<=16777216 by omega)] at y;rw[bf (show(0:Int)<=(m.extra:Nat)/\((m.extra:Nat):Int)<=16 by omega)] at z;have f:=ae λw=>fK m.K m.H m.Z w;rw[c] at f;have D:=ae λw (h:(rI m.drives).ok w F [slice g e i])=>Gz m.drives w.heap.size g e i 63 w (by obtain⟨a',c',a,G,-⟩:=Ae h;injection a with H I N;subst H N;rw[show(bH m.drives).length=e by simpa[bH] using aa] at G;exact G) (by omega) q;have CE:=ae λ(a:cN) (C:a∈m.objs) (r:PK) (s:Nat) w (h:(rI a.tries).ok w F [slice r a.tries.length s]) (J:a.tries.length<=1000)=>Cc m a (slice g e i) (slice n b d) r a.tries.length s F w h rfl J (j.1 a C) c p rfl rfl;have aw:(b:Int)<=12:=by omega
 have al:=ae c;unfold bV at*;unfold dD at f;clear hd ho j c q aa u v p x A ab;go_enter func91,ntmps91;go_wp2_with fail;generalize w.alloc (cells #[int i64 m.seq,int i64 m.next,int i64 m.K,int i64 m.H,int i64 m.Z,int i64 m.extra,slice g e i,slice n b d] 68)=w0 at*;refine(o.o _).mono ?_;rintro a p ⟨rfl,rfl⟩;obtain⟨q,r,s,m3,u,v,x,A⟩:=bY (l.o.blk 0 rfl);go_wp2_with fail;refine(y.o _).mono ?_;rintro a p ⟨rfl,rfl⟩;go_wp2_with fail;refine(f.o _).mono ?_;rintro a w1 ⟨rfl,C⟩;have O:=ae (l.o.step C);clear C l q r s m3 u v x A;obtain⟨q,r,s,m3,u,v,x,A⟩:=bY (O.o.blk 0 rfl);go_wp2_with fail;refine(z.o _).mono ?_;rintro a p ⟨rfl,rfl⟩;go_wp2_with fail;refine(D.o _ (O.o.rep 1 rfl)).mono ?_;rintro a p ⟨rfl,rfl⟩;go_wp2_with fail;have ac:=ae (az p.heap.size p);clear o y z f D q r s m3 u v x A;generalize c:w.heap.size=Gm at*;have ax:=ae c;clear c;go_loopw [40] (λJ wr=>∃k:Nat,k<=b/\J=int i64 k/\PH (Below p.heap.size p wr)) (λJ _=>b-(intOf J).toNat)
 case atStart=>exact⟨0,by omega,rfl,ac⟩
 case round=>
  clear ac;obtain⟨k,ay,rfl,P⟩:=hrel;have D:=ae (O.o.step P.o);by_cases U:k<b
  ·have aA:(k:Int)<(b:Int):=by omega
   obtain⟨K,L,j,l,rfl,hF,C,d0,d1,d2,d3,G⟩:=qQ (D.o.rep 2 rfl) T.o U;have S:k<m.objs.length:=(by rw[T.o];exact U);have V:m.objs.getD k bO∈m.objs:=(by rw[af,ah S];exact aQ _);have ak:=mS (M.o.1 _ V) al.o;have o:=(az wr.heap.size wr).alloc (aj _) (cells (d9 (m.objs.getD k bO) (slice j (m.objs.getD k bO).tries.length l)) 65);have W:=ae λc (y:Below (wr.alloc (cells (d9 (m.objs.getD k bO) (slice j (m.objs.getD k bO).tries.length l)) 65)).heap.size (wr.alloc (cells (d9 (m.objs.getD k bO) (slice j (m.objs.getD k bO).tries.length l)) 65)) c)=>CE.o _ V j l c ((rI _).new G (o.trans (y.mono o.size))) (by omega);have z:=ae ((D.o.step o).add (bS wr.heap.size 65 _) (Blk.new wr _ (d9 (m.objs.getD k bO) (slice j (m.objs.getD k bO).tries.length l))));have Q:=ae (P.o.trans (o.mono P.o.size));obtain⟨f,hq⟩:∃f,f=k-1:=⟨_,rfl⟩;have ad:(0:Int)<(k:Int)->IntKind.i64.wrap ((k:Int)-1)=(f:Int):=λh=>(by rw[IntKind.wrap_i64];omega);have ag:(0:Int)<(k:Int)->(f:Int)<(b:Int):=λh=>by omega
   have ai:(0:Int)<(k:Int)->Op.bytesLess (m.objs.getD f bO).name.toList (m.objs.getD k bO).name.toList=true:=λh=>by
    have h1:=M.o.2.1 f (by omega)
    rwa [show f+1=k by omega] at h1
   have am:PH ((0:Int)<(k:Int)->∀c,Below wr.heap.size wr c->c.cell? ⟨K,L+f*4,none⟩=some (.string (m.objs.getD f bO).name)):=ae λh c y=>by
    obtain⟨b',o',_,_,a,_,_,h,_⟩:=qQ ((rS 4 _).new (D.o.rep 2 rfl) y) T.o (show f<b by omega);injection a with a;injection a with H I _;subst H I;exact h
   have R:=ae λw (X:Nat) (Y:(rS 4 ((m.objs.take k).map bQ)).ok w F [slice (some ⟨K,L,none⟩) k d]) (hG:Blk w X 65 (d9 (m.objs.getD k bO) (slice j (m.objs.getD k bO).tries.length l)))=>Ee (λ_=>false) 150 #[pointer (some ⟨X,0,none⟩)] (m.objs.take k) F (some ⟨K,L,none⟩) k d w Y (by rw[aG];omega) (by omega) (enters_of func150 (by kernel_rfl) rfl) (λZ Y c y a4 c4 _=>by
    have h:=FG (m.objs.getD k bO) Z a4 Z.tries.length c4 X _ c (hG.below y hG.lt)
    rwa [decide_eq_false (show ¬Z.obj=(m.objs.getD k bO).obj from by
     obtain⟨J,hi,rfl⟩:=bC Y;rw[aG] at hi;rw[getElem_take];have:=M.o.2.2 J k (by omega) S
     rwa [af,ah (by omega)] at this)] at h)
   have Z:PH (∀c,(rS 4 (m.objs.map bQ)).ok c F [slice (some ⟨K,L,none⟩) b d]->(rS 4 ((m.objs.take k).map bQ)).ok c F [slice (some ⟨K,L,none⟩) k d]):=ae λc h=>by
    have:=I4 (t:=4) (k:=k) (by omega) h (Nat.le_of_lt U)
    rwa [<-map_take] at this
   have aB:b<=d:=(by obtain⟨_,_,_,a,h1,_⟩:=D.o.rep 2 rfl;injection a with a _;injection a with _ I N;omega);have aD:(k:Int)<=(d:Int):=(by omega);have aE:¬d=k:=(by omega);rw[show((m.objs.take k).any λ_=>false)=false by simp] at R;clear o G V ak hF D P CE O M hq S;generalize m.objs.getD k bO=a at*;generalize (m.objs.getD f bO).name=nq at*;generalize m.objs.take k=TK at*;unfold d9 at W z Q R;go_upto_region 8 with fail;clear d0 d1 d2 d3
   have an:PH (∀c,Below (wr.alloc (cells #[.string a.name,int i64 a.obj,int i64 a.len,slice j a.tries.length l] 65)).heap.size (wr.alloc (cells #[.string a.name,int i64 a.obj,int i64 a.len,slice j a.tries.length l] 65)) c->Below wr.heap.size wr c):=ae λc y=>by
    have o:=(az wr.heap.size wr).alloc (aj _) (cells #[.string a.name,int i64 a.obj,int i64 a.len,slice j a.tries.length l] 65);exact o.trans (y.mono o.size)
   generalize wr.heap.size=G4 at*;generalize wr.alloc (cells #[.string a.name,int i64 a.obj,int i64 a.len,slice j a.tries.length l] 65)=w4 at*;obtain⟨e0,H,I,N⟩:=eB (z.o.blk 0 rfl);obtain⟨q,r,s,m3,u,v,x,A⟩:=bY (z.o.blk 1 rfl)
   have ao:(¬(0:Int)<(k:Int)/\¬0<k/\decide (0<k)=false)\/((0:Int)<(k:Int)/\0<k/\decide (0<k)=true):=by
    rcases Nat.eq_zero_or_pos k with h | h
    ·exact .inl ⟨by omega,by omega,decide_eq_false (by omega)⟩
    ·exact .inr ⟨by omega,h,bf h⟩
   rcases ao with⟨y,ap,aq⟩ | ⟨y,ap,aq⟩
   all_goals(
    have ar:=ae y
    (try replace ad:=ad y)
    (try replace ag:=ag y)
    (try replace ai:=ai y)
    refine bL (by kernel_rfl) (by kernel_rfl) ?_
    iterate 20 (
     with_reducible refine wpQuiet_step (λX S=> ?_)
     go_simp
     first
     | refine S _ ?_
     | refine⟨_,λ_ _=>rfl,S _ ?_⟩
     | (apply Exists.intro
        refine⟨λE c=> ?_,S _ ?_⟩
        ·obtain⟨ak,aF,aK,aL,aM,aO,aR,aS⟩:=bY ((z.o.step c).blk 1 rfl)
         obtain⟨aT,aV,aX,a0⟩:=eB ((z.o.step c).blk 0 rfl)
         (try have a5:=am.o ar.o E (an.o E c))
         first
         | (go_simp
            first | exact rfl | exact⟨rfl,rfl⟩)
         | (refine(W.o E c).mono ?_
            rintro au V ⟨rfl,Y⟩;exact⟨rfl,c.trans (Y.mono c.size)⟩))
     clear S X)
    with_reducible refine wpQuiet_nil ?_
    intro V X;have S:=ae (z.o.step X);have Y:=ae (Q.o.trans (X.mono Q.o.size));clear e0 H I N q r s m3 u v x A;obtain⟨q,r,s,m3,u,v,x,A⟩:=bY (S.o.blk 1 rfl);have ak:=ae (R.o V G4 (Z.o V (S.o.rep 3 rfl)) (S.o.blk 0 rfl));clear R Z W z Q X q r s m3 u v x;go_wp2_with fail;refine ak.o.mono ?_;rintro au w6 ⟨rfl,C⟩;have X:=ae (Y.o.trans (C.mono Y.o.size));clear C ak S Y;go_wp2_with fail;go_roundw
    case rel=>(try((repeat apply Exists.intro);refine⟨?_,rfl⟩));exact⟨k+1,by omega,by go_num,X⟩
    case measure=>simp[intOf];omega)
  ·obtain rfl:k=b:=by omega
   go_wp2_with fail;go_ret;exact⟨rfl,D.o.1⟩
theorem sS{w wr h:World}{d e i:Option Nat}(a:Chg (λb=>some b=d) w wr)(j:∀b,e=some b->some b=d\/w.heap.size<=b)(c:Chg (λb=>some b=e) wr h)(n:∀b,i=some b->some b=e\/wr.heap.size<=b):
 Chg (λb=>some b=d) w h/\∀b,i=some b->some b=d\/w.heap.size<=b:=
 ⟨⟨c.os.trans a.os,c.tape.trans a.tape,c.output.trans a.output,aP a.size c.size,λf k l=>(c.block f (aW k a.size) λg=>(j f g.symm).elim l λm=>by omega).trans (a.block f k l)⟩,
   λb f=>(n b f).elim (λg=>j b g.symm) λm=>.inr (aP a.size m)⟩
theorem OwnB.oty{w:World}{C:Nat}{v:Value}{l:PI}(d:OwnB w C v l):∀b,v.ownBlock=some b->Ty 5 w b:=by
 intro b a;rcases d.2 with⟨c,_⟩ | ⟨f,g,h,c,_,e,_⟩
 ·rw[c] at a;simp[Value.ownBlock] at a
 ·rw[c] at a;simp[Value.ownBlock] at a
  subst a;exact⟨_,_,e⟩
theorem mU{w:World}{ops:Array Oper}{rest:List Oper}{o:Oper}{a:Act}{Q:Exit->Act->World->Prop}(h:o.guard=none)(s x:Operand){C y:Nat}{i:Int}{v:Value}{xs:PI}(j:i=(y:Int))
 (k:o.op=.call { callee:=.builtin .append,args:=#[s,x],argTypes:=#[30,30] })
 (l:OwnB w C v xs)(m:C<=w.heap.size)(D:xs.length<=1000000)(hs:a.eval s=v)(n:a.eval x=slice (some ⟨w.heap.size,0,none⟩) 1 1)
 (K:∀d e,OwnB e C d (xs++[y])->Chg (λb=>some b=v.ownBlock) w e->(∀b,d.ownBlock=some b->some b=v.ownBlock\/w.heap.size<=b)->wpList prog ops Q rest (a.put o.dst d) e):
 wpList prog ops Q (o :: rest) a (w.alloc (cells #[.int .u8 i] 5)):=by
 subst j;have f:=(az w.heap.size w).alloc (aj _) (cells #[.int .u8 (y:Int)] 5);have p:=l.below f;have q:=aP m f.size;have r:=dZ w #[.int .u8 (y:Int)] 5 0;generalize w.alloc (cells #[.int .u8 (y:Int)] 5)=t at*;refine jv (P:=prog) t h s x 30 k C 5 (.int .u8 0) 1 underlying30 iW rfl v xs.length (bF xs) hs p w.heap.size (.int .u8 (y:Int)) n r rfl (by omega) (by unfold maxLen;omega) q λd e u z A=> ?_;refine K d e ?_ ((Chg.of f).trans (Chg.grown z λg c _=>c.symm)) (λb g=>A.elim (λc=>.inl (by rw[<-c,g])) λc=>.inr (by rw[g] at c;injection c with c;rw[c];exact f.size));unfold OwnB;rw[aH];have c:bF (xs++[y])=bF xs++[.int .u8 (y:Int)]:=by unfold bF;rw[aU];rfl
 rw[c];exact u
theorem qa(v:Value)(xs:PI)(C n s:Nat)(w:World)(t:OwnB w C v xs)(z:C<=w.heap.size)(I:n<4294967296)(hs:s<=4)(J:xs.length<=1000):
 Calls prog 195 #[v,int i64 n,int i64 s] w λd c=>∃a,d=returned a/\OwnB c C a (xs++bU n s)/\Chg (λb=>some b=v.ownBlock) w c/\(∀b,a.ownBlock=some b->some b=v.ownBlock\/w.heap.size<=b):=by
 have u:PH (OwnB w C v (xs++(bU n s).take (s-s))):=ae (by rw[Nat.sub_self,take_zero,append_nil];exact t);obtain⟨p,a⟩:∃p,p=v.ownBlock:=⟨_,rfl⟩;have x:PH (Chg (λb=>some b=p) w w/\∀b,v.ownBlock=some b->some b=p\/w.heap.size<=b):=ae ⟨Chg.refl _ _,λb c=>.inl (by rw[a,c])⟩;rw[<-a];have A:IntKind.i64.wrap ((s:Int)-1)=(s:Int)-1:=by rw[IntKind.wrap_i64];omega
 obtain⟨K,L,rfl,-⟩:=t.rd;clear t a;go_enter func195,ntmps195;go_wp2_with fail;go_loopw [0,7] (λc a wr=>∃j:Nat,j<=s/\a=int i64 ((j:Int)-1)/\PH (OwnB wr C c (xs++(bU n s).take (s-j)))/\PH (Chg (λb=>some b=p) w wr/\∀b,c.ownBlock=some b->some b=p\/w.heap.size<=b)) (λ_ a _=>(intOf a+1).toNat)
 case atStart=>exact⟨s,aj _,rfl,u,x⟩
 case round=>
  clear u x A;obtain⟨j,M,rfl,c,a⟩:=hrel;have q:C<=wr.heap.size:=aP z a.o.1.size;by_cases D:j=0
  ·subst D
   rw[Nat.sub_zero,aJ (by rw[cH];exact aj _)] at c;generalize d:xs++bU n s=E at*;have e:=ae d;clear d;obtain⟨F,G,rfl,-⟩:=c.o.rd;go_wp2_with fail;go_ret;exact⟨_,rfl,by rw[e.o];exact c.o,a.o.1,a.o.2⟩
  ·obtain⟨d,rfl⟩:∃d,j=d+1:=⟨j-1,by omega⟩
   have r:(xs++(bU n s).take (s-(d+1))).length<=1000000:=(by rw[aH,aG,cH];omega);have i:PH (xs++(bU n s).take (s-d)=xs++(bU n s).take (s-(d+1))++[n/256 ^ d%256]):=ae (by rw[rA n s d (by omega),append_assoc]);generalize xs++(bU n s).take (s-(d+1))=E at*;obtain⟨F,G,rfl,-⟩:=c.o.rd;have H:d=0\/d=1\/d=2\/d=3:=(by omega);rcases H with rfl | rfl | rfl | rfl
   ·go_wp2_with (at_builtin;refine mU (w:=wr) (C:=C) (y:=n%256) rfl _ _ ?hi rfl c.o q r rfl rfl ?_)
    case hi=>omega
    intro k l e f g;have m:PH (OwnB l C k (xs++(bU n s).take (s-0))):=ae (by rw[i.o,show n/256 ^ 0%256=n%256 by simp];exact e);have o:=ae (sS a.o.1 a.o.2 f g);clear e f g c a i;go_wp2_with fail;go_roundw
    case rel=>exact⟨0,by omega,by go_num,m,o⟩
    case measure=>simp[intOf]
   ·go_wp2_with (at_builtin;refine mU (w:=wr) (C:=C) (y:=n/256%256) rfl _ _ ?hi rfl c.o q r rfl rfl ?_)
    case hi=>omega
    intro k l e f g;have m:PH (OwnB l C k (xs++(bU n s).take (s-1))):=ae (by rw[i.o,show n/256 ^ 1%256=n/256%256 by simp];exact e);have o:=ae (sS a.o.1 a.o.2 f g);clear e f g c a i;go_wp2_with fail;go_roundw
    case rel=>exact⟨1,by omega,by go_num,m,o⟩
    case measure=>simp[intOf]
   ·go_wp2_with (at_builtin;refine mU (w:=wr) (C:=C) (y:=n/65536%256) rfl _ _ ?hi rfl c.o q r rfl rfl ?_)
    case hi=>omega
    intro k l e f g;have m:PH (OwnB l C k (xs++(bU n s).take (s-2))):=ae (by rw[i.o,show n/256 ^ 2%256=n/65536%256 by simp];exact e);have o:=ae (sS a.o.1 a.o.2 f g);clear e f g c a i;go_wp2_with fail;go_roundw
    case rel=>exact⟨2,by omega,by go_num,m,o⟩
    case measure=>simp[intOf]
   ·go_wp2_with (at_builtin;refine mU (w:=wr) (C:=C) (y:=n/16777216%256) rfl _ _ ?hi rfl c.o q r rfl rfl ?_)
    case hi=>omega
    intro k l e f g;have m:PH (OwnB l C k (xs++(bU n s).take (s-3))):=ae (by rw[i.o,show n/256 ^ 3%256=n/16777216%256 by simp];exact e);have o:=ae (sS a.o.1 a.o.2 f g);clear e f g c a i;go_wp2_with fail;go_roundw
    case rel=>exact⟨3,by omega,by go_num,m,o⟩
    case measure=>simp[intOf]
def iX(s:ByteArray):PI:=s.data.toList.map UInt8.toNat
theorem jy(s:ByteArray):(iX s).length=s.size:=by unfold iX;rw[aC];rfl
def kx(e:cN):PI:=[e.name.size]++iX e.name++bU e.obj 3++bU e.len 2++e.tries
def eF(m:cQ):PI:=bU m.seq 4++bU m.next 4++[m.K,m.H,m.Z,m.extra,m.drives.length]++m.drives++[m.objs.length]++(m.objs.map kx).flatten
theorem wI(s:ByteArray):Lib.strCells s=bF (iX s):=by unfold Lib.strCells bF iX;rw[map_map];rfl
theorem M3{w:World}{o:Oper}{a:Act}{K:Act->World->Prop}{Q:Exit->Act->World->Prop}(e:o.guard=none)(s x:Operand){C y g:Nat}{v:Value}{xs:PI}
 (j:o.op=.call { callee:=.builtin .append,args:=#[s,x],argTypes:=#[30,30] })(f:OwnB w C v xs)(h:C<=w.heap.size)(r:xs.length<=1000000)(i:Blk w g 5 #[.int .u8 (y:Int)])
 (hs:a.eval s=v)(k:a.eval x=slice (some ⟨g,0,none⟩) 1 1)
 (l:∀b c,OwnB c C b (xs++[y])->Below C w c->w.grownBy c v.ownBlock->K (a.put o.dst b) c):
 Oper.wp prog o a w K Q:=by
 have m:Rd w w.heap.size (some ⟨g,0,none⟩) 1 [.int .u8 (y:Int)]:=⟨rfl,λ_=>⟨g,0,rfl,i.lt,λd n c=>by rw[Nat.zero_add,i.cell];simpa using c⟩⟩
 have p:=pz (P:=prog) (ops:=#[]) (E:=True) (Q:=Q) e s x 30 j C 5 (.int .u8 0) 1 underlying30 iW rfl v xs.length (bF xs) hs f w.heap.size (some ⟨g,0,none⟩) 1 1 _ k (λd=>by cases d) m (λn c=>by rw[mem_singleton] at c;rw[c];rfl) (by omega) (by unfold maxLen;omega) h λb n q c t=>l b n (by
  unfold OwnB;rw[aH];have d:bF (xs++[y])=bF xs++[.int .u8 (y:Int)]:=(by unfold bF;rw[aU];rfl);rw[d];exact q) ((az _ _).grown c h λg b=>(f.lt g b).1) c
 rwa [bg (by simp[Region.wanted,e])] at p
theorem Km:∃i,prog.info? 5=some i/\i.zero=some (.int .u8 0)/\i.size=1/\i.bytes=1:=by
 have c:=iW;rw[Option.map_eq_some_iff] at c;obtain⟨i,d,a⟩:=c;injection a with a b;injection b with b e;exact⟨i,d,a,b,e⟩
theorem GM{w:World}{o:Oper}{a:Act}{K:Act->World->Prop}{Q:Exit->Act->World->Prop}(y:o.guard=none)(d x:Operand){C:Nat}{v:Value}{xs:PI}{s:ByteArray}
 (g:o.op=.call { callee:=.builtin .append,args:=#[d,x],argTypes:=#[30,9] })(e:OwnB w C v xs)(f:C<=w.heap.size)(z:xs.length+s.size<=1000000)
 (hs:a.eval d=v)(h:a.eval x=.string s)
 (i:∀b c,OwnB c C b (xs++iX s)->Below C w c->w.grownBy c v.ownBlock->K (a.put o.dst b) c):
 Oper.wp prog o a w K Q:=by
 obtain⟨j,k,l,m,n⟩:=Km;obtain⟨b,p,q,r,c,A⟩:=Lib.run_append_own_string (P:=prog) w C 30 9 o.type 5 j underlying30 underlying9 k l m n v xs.length (bF xs) e s (by unfold maxLen;omega) (by omega) f;unfold Oper.wp execOp;simp only[g,resolve,invoke,builtin,Sem.run_bind,Sem.run_pure,Result.andThen_ok,map_toArray,map_cons,map_nil,hs,h,q];refine i b p ?_ ((az _ _).grown c f λt u=>(e.lt t u).1) c;unfold OwnB;have t:bF (xs++iX s)=bF xs++Lib.strCells s:=by rw[wI];unfold bF;rw[aU]
 rw[aH,jy,t];exact r
theorem Kn{l:PI}{n:Nat}(a:xx 63 l=true)(b:l.length=n):∀i,i<n->l.getD i 0<=63:=λi c=>by
 unfold xx at a;rw[all_eq_true] at a;have:=a i (bA.2 (by omega));rw[Bool.and_eq_true] at this;have c:=ba this.1;omega
theorem xB{α:Type}(f:α->PI)(c:Nat):∀ {L:List α},(∀x∈L,(f x).length<=c)->((L.map f).flatten).length<=L.length*c
 | [],_=>by simp
 | x :: L,h=>by
   have d:=xB f c (L:=L) λa b=>h a (mem_cons_of_mem _ b);have a:=h x (mem_cons_self ..);rw[map_cons,flatten_cons,aH,length_cons,Nat.succ_mul];omega
theorem GN(m:cQ)(K M:PK)(d N e O:Nat)(F:Nat->Prop)(w:World)(hd:(rI m.drives).ok w F [slice K d N])(ai:m.drives.length=d)(ho:(rS 4 (m.objs.map bQ)).ok w F [slice M e O])(aB:m.objs.length=e)(hm:il m):
 Calls prog 124 #[.agg (bV m (slice K d N) (slice M e O))] w λf Y=>∃v,f=returned v/\OwnB Y w.heap.size v (eF m)/\Below w.heap.size w Y:=by
 have b:PH (Sx w (w.alloc (cells (bV m (slice K d N) (slice M e O)) 68)) [bS w.heap.size 68 (bV m (slice K d N) (slice M e O)),eR F (slice K d N) (rI m.drives),eR F (slice M e O) (rS 4 (m.objs.map bQ))]):=
  ae (((((Sx.nil w).add (eR F (slice M e O) (rS 4 (m.objs.map bQ))) ho).add (eR F (slice K d N) (rI m.drives)) hd).alloc _).add (bS _ _ _) (Blk.new w _ _))
 have c:=ae λw (hd:(rI m.drives).ok w F [slice K d N]) (ho:(rS 4 (m.objs.map bQ)).ok w F [slice M e O])=>uM m K M d N e O F w hd ai ho aB hm;obtain⟨⟨n,o⟩,i,a,q,⟨j,t⟩,u,k⟩:=hm;have aD:=ba a;have HM:=ae k;have aM:=ae aB;have ak:=ae ai;have aO:=ae a;have bs:=ae i;have bb:=ae (show eF m=bU m.seq 4++bU m.next 4++[m.K,m.H,m.Z,m.extra,m.drives.length]++m.drives++[m.objs.length]++(m.objs.map kx).flatten from rfl);have CN:=ae λ(v:Value) (xs:PI) (C l s:Nat) (w:World) (ho:OwnB w C v xs) (r:C<=w.heap.size) (x:l<4294967296) (z:s<=4) (A:xs.length<=1000)=>AA v xs C l s w ho r x z A;have bt:(m.K:Int)%256=(m.K:Int):=by omega
 have bw:(m.H:Int)%256=(m.H:Int):=by omega
 have bx:(m.Z:Int)%256=(m.Z:Int):=by omega
 have bB:(m.extra:Int)%256=(m.extra:Int):=by omega
 have b0:(d:Int)%256=(d:Int):=by omega
 have b1:(e:Int)%256=(e:Int):=by omega
 have bc:PH (m.seq<4294967296/\m.next<4294967296):=ae (by omega);have al:PH (d<=64/\e<=12):=ae (by omega);have co:d<=64:=by omega
 have b2:PH (∀r,r<d->m.drives.getD r 0<=63):=ae (Kn j ai);rw[ai,aB] at bb;unfold bV at*;clear hd ho k a j ai n o i q t u aB aD;go_enter func124,ntmps124;go_wp2_with fail;generalize w.alloc (cells #[int i64 m.seq,int i64 m.next,int i64 m.K,int i64 m.H,int i64 m.Z,int i64 m.extra,slice K d N,slice M e O] 68)=w0 at*;refine(c.o _ (b.o.rep 1 rfl) (b.o.rep 2 rfl)).mono ?_;rintro f a ⟨rfl,t⟩;have P:=ae (b.o.step t);clear t b c;obtain⟨Q,R,S,m3,T,U,V,W⟩:=bY (P.o.blk 0 rfl);generalize b:w.heap.size=b5 at*;have HG:=ae b;clear b S m3 T U V W;have bd:=ae (CN.o (slice none 0 0) [] a.heap.size m.seq 4 a.drew (OwnB.nil _ _) (aj _) bc.o.1 (by omega) (by simp));go_upto_region 3 with fail;go_cut [3] (λv G=>PH (OwnB G a.heap.size v (bU m.seq 4++bU m.next 4))/\PH (Below a.heap.size a G))
 case first=>
  go_region_law (first
   | (have o:=c
      go_simp;go_at_call 195;refine(CN.o (slice H j I) (bU m.seq 4) a.heap.size m.next 4 b c.o i.o.size bc.o.2 (by omega) (by rw[cH];omega)).mono ?_;rintro f w3 ⟨q,rfl,n,t⟩;have am:=ae n;have ad:=ae (i.o.trans t);clear n t;go_simp)
   | (go_simp
      go_at_call 195;refine bd.o.mono ?_;rintro f b ⟨k,rfl,n,t⟩;have c:PH (OwnB b a.heap.size k (bU m.seq 4)):=ae (by simpa using n);have i:PH (Below a.heap.size a b):=ae (((az _ a).drew).trans t);obtain⟨H,j,I,rfl,-⟩:=c.o.sl;have l:=ae (P.o.step i.o);have u:b.cell? ⟨b5,1,none⟩=some (int i64 m.next):=(l.o.blk 0 rfl).cell 1;clear n t;go_simp))
  all_goals(
   go_simp;refine ‹∀(a':Act) (Y:World),Met _ a' Y->_› _ _ ?_;go_meet;exact⟨am,ad⟩)
 case rest=>
  obtain⟨am,ad⟩:=hcut;rename World=>w3;obtain⟨b3,l3,k3,rfl,-⟩:=am.o.sl;have i:=ae (P.o.step ad.o);have j:=ad.o.size;clear bd Q R;obtain⟨Q,R,S,m3,T,U,V,W⟩:=bY (i.o.blk 0 rfl);have o:=(az w3.heap.size w3).alloc (aj _) (cells (bK [m.K,m.H,m.Z,m.extra,d]) 5);have k:=ae (am.o.below o);have b:=ae (ad.o.trans (o.mono j));have l:a.heap.size<=(w3.alloc (cells (bK [m.K,m.H,m.Z,m.extra,d]) 5)).heap.size:=b.o.size;have q:=ae (qi (Blk.new w3 5 (bK [m.K,m.H,m.Z,m.extra,d])));have A:(bU m.seq 4++bU m.next 4).length+5<=1000000:=(by rw[aH,cH,cH];omega);clear o am ad
  go_wp2_with (at_builtin;refine ni (w:=w3.alloc (cells (bK [m.K,m.H,m.Z,m.extra,d]) 5)) (C:=a.heap.size) (xs:=bU m.seq 4++bU m.next 4) (ys:=[m.K,m.H,m.Z,m.extra,d]) rfl _ _ rfl k.o l A rfl rfl (λf=>by cases f) q.o ?_)
  intro v4 w4 u x z D;have c:=ae (b.o.trans x);have S4:=ae (P.o.step c.o);have aE:PH ((bU m.seq 4++bU m.next 4++[m.K,m.H,m.Z,m.extra,d]).length=13):=ae (by rw[aH,aH,cH,cH];rfl);have aR:PH (OwnB w4 a.heap.size v4 (bU m.seq 4++bU m.next 4++[m.K,m.H,m.Z,m.extra,d]++m.drives.take 0)):=ae (by rw[take_zero,append_nil];exact u);generalize bU m.seq 4++bU m.next 4++[m.K,m.H,m.Z,m.extra,d]=Z at*;clear u x z D b k q i A j l Q R S m3 T U V W;obtain⟨Q,R,S,m3,T,U,V,W⟩:=bY (S4.o.blk 0 rfl);obtain⟨b4,l4,k4,rfl,-⟩:=aR.o.sl;have be:PH (Below a.heap.size a w4):=c;clear c Q R S m3 T U W bt bw bx bB b0;go_wp2_with fail;go_loopw [3,44] (λv r wr=>∃k:Nat,k<=d/\r=int i64 k/\PH (OwnB wr a.heap.size v (Z++m.drives.take k))/\PH (Below a.heap.size a wr)) (λ_ r _=>d-(intOf r).toNat)
  case atStart=>exact⟨0,by omega,rfl,aR,be⟩
  case round=>
   clear aR be S4;obtain⟨k,cp,rfl,l,i⟩:=hrel;have S5:=ae (P.o.step i.o);have X:=i.o.size;obtain⟨bv,lv,kv,rfl,-⟩:=l.o.sl;by_cases bi:k<d
   ·have b7:(k:Int)<(d:Int):=by omega
    have b:k<m.drives.length:=(by rw[ak.o];exact bi);obtain⟨a',c',f,an,-⟩:=dI (S5.o.rep 1 rfl) ak.o;injection f with D J E;subst D E;obtain⟨ao,ap,rfl,t,aq⟩:=an.2 (by omega);have cq:=aq k (int i64 (m.drives.getD k 0:Nat)) (bT b);have b8:=b2.o k bi;have HT:PH (Z++m.drives.take (k+1)=Z++m.drives.take k++[m.drives.getD k 0]):=ae (by rw[aN b,af,ah b,append_assoc];rfl);have A:(Z++m.drives.take k).length<=1000000:=(by have:=al.o.1;rw[aH,aE.o,aG];omega);generalize m.drives.getD k 0=ar at*;generalize Z++m.drives.take k=XX at*;clear aq an b S5
    go_wp2_with (at_builtin;refine fD (w:=wr) (C:=a.heap.size) (y:=ar) rfl _ _ ?hi rfl l.o X A rfl rfl ?_)
    case hi=>omega
    intro v5 w5 ab au;rw[<-HT.o] at ab;have aS:=ae ab;have aT:=ae (i.o.trans au);clear ab au l i HT;go_wp2_with fail;go_roundw
    case rel=>exact⟨k+1,by omega,by go_num,aS,aT⟩
    case measure=>simp[intOf];omega
   ·obtain rfl:k=d:=by omega
    rw[aJ (by rw[ak.o];exact aj _)] at l;have A:(Z++m.drives).length<=1000000:=(by rw[aH,aE.o,ak.o];have:=al.o.1;omega);have c:PH ((Z++m.drives).length<=77):=ae (by rw[aH,aE.o,ak.o];have:=al.o.1;omega);generalize Z++m.drives=XX at*;clear aE;obtain⟨Q,R,S,m3,T,U,V,W⟩:=bY (S5.o.blk 0 rfl);clear Q R S m3 T U V
    go_wp2_with (at_builtin;refine fD (w:=wr) (C:=a.heap.size) (y:=e) rfl _ _ ?hi rfl l.o X A rfl rfl ?_)
    case hi=>rfl
    intro v6 w6 j q;have b:=ae (i.o.trans q);have S6:=ae (P.o.step b.o);have aV:PH (OwnB w6 a.heap.size v6 (XX++[e]++((m.objs.take 0).map kx).flatten)):=ae (by rw[take_zero,map_nil,flatten_nil,append_nil];exact j);have ca:PH ((XX++[e]).length<=78):=ae (by rw[aH,length_singleton];have:=c.o;omega);generalize XX++[e]=X6 at*;obtain⟨b6,l6,k6,rfl,-⟩:=aV.o.sl;clear j q l i S5 A c X W b1;obtain⟨Q,R,S,m3,T,U,V,W⟩:=bY (S6.o.blk 0 rfl);clear Q R S m3 T U V;go_wp2_with fail;have bj:PH (Below a.heap.size a w6):=b;clear b;go_loopw [3,64] (λv r wr=>∃c:Nat,c<=e/\r=int i64 c/\PH (OwnB wr a.heap.size v (X6++((m.objs.take c).map kx).flatten))/\PH (Below a.heap.size a wr)) (λ_ r _=>e-(intOf r).toNat)
    case atStart=>exact⟨0,by omega,rfl,aV,bj⟩
    case round=>
     clear aV bj S6 W V;obtain⟨c,cr,rfl,l,i⟩:=hrel;have S7:=ae (P.o.step i.o);have X:=i.o.size;obtain⟨bv,lv,kv,rfl,-⟩:=l.o.sl;by_cases bk:c<e
     ·obtain⟨ao,ap,H,I,rfl,hF,t,e0,D,J,E,hr⟩:=qQ (P.o.rep 2 rfl) aM.o bk
      rw[<-i.o.cell (p:=⟨ao,ap+c*4,none⟩) t] at e0;rw[<-i.o.cell (p:=⟨ao,ap+c*4+1,none⟩) t] at D;rw[<-i.o.cell (p:=⟨ao,ap+c*4+2,none⟩) t] at J;rw[<-i.o.cell (p:=⟨ao,ap+c*4+3,none⟩) t] at E;have cs:(c:Int)<(e:Int):=(by omega);have ct:e<=12:=al.o.2;have aX:c<m.objs.length:=(by rw[aM.o];exact bk);have ac:m.objs.getD c bO∈m.objs:=(by rw[af,ah aX];exact aQ _);have aD:=HM.o.1 _ ac;have ag:=mS aD aO.o
      have cb:PH (X6++((m.objs.take (c+1)).map kx).flatten=X6++((m.objs.take c).map kx).flatten++kx (m.objs.getD c bO)):=ae (by
       rw[aN aX,aU,flatten_append,af,ah aX,append_assoc];simp)
      have av:PH ((X6++((m.objs.take c).map kx).flatten).length<=400):=ae (by
       have h1:=xB kx 26 (L:=m.objs.take c) λar b=>by
        have h2:=HM.o.1 ar (bD b);have h3:=mS h2 aO.o;have h4:=h2.1.2.1;unfold kx;simp only[aH,length_singleton,jy,cH];omega
       rw[aG] at h1;have:=ca.o;have:=al.o.2;rw[aH];have h5:min c m.objs.length*26<=12*26:=Nat.mul_le_mul_right _ (by omega);omega)
      generalize X6++((m.objs.take c).map kx).flatten=u at*;have o:=(az wr.heap.size wr).alloc (aj _) (cells (d9 (m.objs.getD c bO) (slice H (m.objs.getD c bO).tries.length I)) 65);have aa:=ae (Blk.new wr 65 (d9 (m.objs.getD c bO) (slice H (m.objs.getD c bO).tries.length I)));have a0:=ae (l.o.below o);have aF:=ae (i.o.trans (o.mono X));have cc:=ae hr;generalize m.objs.getD c bO=f at*;obtain⟨b,q,x,j⟩:=f;unfold d9 kx at*;simp only at*;obtain⟨⟨cd,bl,-⟩,ax,ay,z,-⟩:=aD
      dsimp only at cd bl ax ay z
      have aA:=ba aO.o;have aK:m.K*m.Z<=16*24:=bn (by omega) (by omega)
      have aw:PH (q<4294967296/\x<4294967296/\b.size<=12):=ae (by
       have:=bs.o;refine⟨by omega,?_,bl⟩;omega)
      have ce:IntKind.u8.wrap (b.size:Int)=(b.size:Int):=(by rw[IntKind.wrap_u8];omega);have cf:(b.size:Int)%256=(b.size:Int):=(by omega);have cg:=ae z;have ch:=ae ag;have cu:=ae X;clear ac aA ax ay z aK ag o hr hF l i S7 X;go_upto_region 14 with fail;clear e0 D J E;generalize wr.alloc (cells #[.string b,int i64 q,int i64 x,slice H j.length I] 65)=w7 at*;generalize ac:wr.heap.size=z at*;have cv:=ae ac;clear ac;obtain⟨e0,D,J,E⟩:=eB aa.o;have A:u.length<=1000000:=(by have:=av.o;omega);have bm:(u++[b.size]).length+b.size<=1000000:=(by have:=av.o;rw[aH,length_singleton];omega);have o:=((az w7.heap.size w7).alloc (aj _) (cells #[.int .u8 b.size] 5)).drew;have ci:((w7.alloc (cells #[.int .u8 b.size] 5)).drew).cell? ⟨z,0,none⟩=some (.string b):=(aa.o.below o aa.o.lt).cell 0;go_cut [3] (λv G=>PH (OwnB G a.heap.size v (u++[b.size]++iX b))/\PH (Below a.heap.size a G)/\PH (Blk G z 65 #[.string b,int i64 q,int i64 x,slice H j.length I]))
      case first=>
       go_region_law (first
        | (change (if _=true then Oper.wp _ (Oper.mk (some 77) _ _ _ _ _) _ _ _ _ else _)
           refine qA rfl ?_;refine GM (w:=w8) (C:=a.heap.size) (v:=slice a8 l8 k8) (xs:=u++[b.size]) (s:=b) rfl (.tmp 74) (.tmp 76) rfl aA.o aK.o.size bm (by go_simp) (by go_simp) ?_;intro v9 w9 aL a4 a5;have ac:=ae aL;have ax:=ae (aK.o.trans a4);have ag:PH (Blk w9 z 65 #[.string b,int i64 q,int i64 x,slice H j.length I]):=ae ((a5.block z ay.o.lt λf=>(aA.o.oty z f.symm).ne (Blk.ty ay.o) (by decide)).trans ay.o);clear aL a4 a5)
        | (change (if _=true then Oper.wp _ (Oper.mk (some 74) _ _ _ _ _) _ _ _ _ else _)
           refine qA rfl ?_;refine M3 (w:=(w7.alloc (cells #[.int .u8 b.size] 5)).drew) (C:=a.heap.size) (y:=b.size) (g:=w7.heap.size) (v:=slice bv lv kv) (xs:=u) rfl (.tmp 68) (.tmp 73) rfl (a0.o.below o) (aP aF.o.size o.size) A (Blk.drew (Blk.new w7 _ _)) (by go_simp) (by go_simp) ?_;intro v8 w8 aL a4 a5;have aA:=ae aL;have aK:=ae ((aF.o.trans (o.mono aF.o.size)).trans a4);have ay:PH (Blk w8 z 65 #[.string b,int i64 q,int i64 x,slice H j.length I]):=ae ((a5.block z (aW aa.o.lt o.size) λf=>(a0.o.oty z f.symm).ne (Blk.ty aa.o) (by decide)).trans (aa.o.below o aa.o.lt));obtain⟨a8,l8,k8,rfl,-⟩:=aA.o.sl;have a6:w8.cell? ⟨z,0,none⟩=some (.string b):=ay.o.cell 0;clear aL a4 a5))
       all_goals(
        go_simp;refine ‹∀(a':Act) (Y:World),Met _ a' Y->_› _ _ ?_;go_meet;exact⟨ac,ax,ag⟩)
      case rest=>
       obtain⟨ac,ax,ag⟩:=hcut;rename World=>w9;obtain⟨b9,l9,k9,rfl,ay⟩:=ac.o.sl;have a4:=ax.o.size;have bo:(u++[b.size]++iX b).length<=1000:=(by have:=av.o;have:=aw.o.2.2;rw[aH,aH,length_singleton,jy];omega);have bp:(u++[b.size]++iX b++bU q 3).length<=1000:=(by have:=av.o;have:=aw.o.2.2;rw[aH,aH,aH,length_singleton,jy,cH];omega);have cj:PH ((u++[b.size]++iX b++bU q 3++bU x 2).length<=1000):=ae (by have:=av.o;have:=aw.o.2.2;rw[aH,aH,aH,aH,length_singleton,jy,cH,cH];omega);have ck:PH (u++[b.size]++iX b++bU q 3++bU x 2++j=u++([b.size]++iX b++bU q 3++bU x 2++j)):=ae (by simp only[append_assoc]);clear e0 D J E ce cf A bm o ci a0 aF aa ay;obtain⟨e0,D,J,E⟩:=eB ag.o;have br:=ae (qa (slice b9 l9 k9) (u++[b.size]++iX b) a.heap.size q 3 w9.drew (ac.o.below ((az _ _).drew)) a4 aw.o.1 (by omega) bo);go_wp2_with fail;go_cut [3] (λv G=>PH (OwnB G a.heap.size v (u++[b.size]++iX b++bU q 3++bU x 2))/\PH (Below a.heap.size a G)/\PH (Blk G z 65 #[.string b,int i64 q,int i64 x,slice H j.length I]))
       case first=>
        go_region_law (first
         | (have cw:=ay
            go_simp;go_at_call 195;refine(qa (slice cl cm cn) (u++[b.size]++iX b++bU q 3) a.heap.size x 2 a5 ay.o a6.o.size aw.o.2.1 (by omega) bp).mono ?_;rintro f a7 ⟨cx,rfl,n,G,-⟩;have aA:=ae n;have aK:=ae (a6.o.trans (G.below a6.o.size λc hq=>(ay.o.lt c hq.symm).1));have aL:=ae (a9.o.chg G λf=>(ay.o.oty z f.symm).ne (Blk.ty a9.o) (by decide));clear n G;go_simp)
         | (go_simp
            go_at_call 195;refine br.o.mono ?_;rintro f a5 ⟨cy,rfl,n,G,-⟩;have ay:=ae n;have a6:=ae ((ax.o.drew).trans (G.below a4 λc hq=>(ac.o.lt c hq.symm).1));have a9:PH (Blk a5 z 65 #[.string b,int i64 q,int i64 x,slice H j.length I]):=ae (ag.o.drew.chg G λf=>(ac.o.oty z f.symm).ne (Blk.ty ag.o) (by decide));obtain⟨cl,cm,cn,rfl,-⟩:=ay.o.sl;have cz:a5.cell? ⟨z,2,none⟩=some (int i64 x):=a9.o.cell 2;clear n G;go_simp))
        all_goals(
         go_simp;refine ‹∀(a':Act) (Y:World),Met _ a' Y->_› _ _ ?_;go_meet;exact⟨aA,aK,aL⟩)
       case rest=>
        obtain⟨aA,aK,aL⟩:=hcut;rename World=>a7;clear e0 D J E br ac ax ag a4 bo bp;obtain⟨e0,D,J,E⟩:=eB aL.o;generalize u++[b.size]++iX b++bU q 3++bU x 2=G at*;obtain⟨a9,cl,cm,rfl,-⟩:=aA.o.sl;have a5:PH (OwnB a7 a.heap.size (slice a9 cl cm) (G++j.take 0)):=ae (by rw[take_zero,append_nil];exact aA.o);have a6:PH (Below a.heap.size a a7):=aK;have cw:=ch.o;generalize n:j.length=Y at*;have ay:=ae n;clear n aA aK e0 D J;go_wp2_with fail;clear E;go_loopw [3,88] (λv r wr=>∃n:Nat,n<=Y/\r=int i64 n/\PH (OwnB wr a.heap.size v (G++j.take n))/\PH (Below a.heap.size a wr)) (λ_ r _=>Y-(intOf r).toNat)
        case atStart=>exact⟨0,by omega,rfl,a5,a6⟩
        case round=>
         clear a5 a6 aL;obtain⟨n,cx,rfl,l,i⟩:=hrel;have X:=i.o.size;obtain⟨cy,cz,cA,rfl,-⟩:=l.o.sl;by_cases cn:n<Y
         ·have b7:(n:Int)<(Y:Int):=by omega
          have r:n<j.length:=(by rw[ay.o];exact cn);obtain⟨a',c',f,an,-⟩:=dI ((rI _).new cc.o i.o) ay.o;injection f with D J E;subst D E;obtain⟨b',o',rfl,cB,aq⟩:=an.2 (by omega);have cq:=aq n (int i64 (j.getD n 0:Nat)) (bT r);have b8:=cg.o (j.getD n 0) (by rw[af,ah r];exact aQ r);have HT:PH (G++j.take (n+1)=G++j.take n++[j.getD n 0]):=ae (by rw[aN r,af,ah r,append_assoc];rfl);have A:(G++j.take n).length<=1000000:=(by have:=cj.o;rw[aH,aG];omega);generalize j.getD n 0=ar at*;generalize G++j.take n=XX at*;clear aq an r
          go_wp2_with (at_builtin;refine fD (w:=wr) (C:=a.heap.size) (y:=ar) rfl _ _ ?hi rfl l.o X A rfl rfl ?_)
          case hi=>omega
          intro v5 w5 ab au;rw[<-HT.o] at ab;have aS:=ae ab;have aT:=ae (i.o.trans au);clear ab au l i HT;go_wp2_with fail;go_roundw
          case rel=>(try((repeat apply Exists.intro);refine⟨?_,rfl⟩));exact⟨n+1,by omega,by go_num,aS,aT⟩
          case measure=>simp[intOf];omega
         ·obtain rfl:n=Y:=by omega
          rw[aJ (by rw[ay.o];exact aj _),ck.o,<-cb.o] at l;go_wp2_with fail;go_roundw
          case rel=>exact⟨c+1,by omega,by go_num,l,i⟩
          case measure=>simp[intOf];omega
     ·obtain rfl:c=e:=by omega
      rw[aJ (by rw[aM.o];exact aj _)] at l;go_wp2_with fail;go_ret;exact⟨_,rfl,by rw[bb.o];exact l.o.base (by rw[HG.o];exact aP (aj _) (by have:=P.o.1.size;rw[HG.o] at this;exact this)),by rw[HG.o];exact(HG.o▸S7.o.1)⟩
