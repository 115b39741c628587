import Derived.Test.YtgccllbnfngpcaaGreatDoorW15
set_option linter.unusedVariables false
set_option maxRecDepth 100000
set_option maxHeartbeats 400000000
namespace Go.Proofs.YtgccllbnfngpcaaGreatDoor
open Go.RowKit _root_.Go.Proofs.Tryz List
open Value (int slice pointer bool)
open IntKind (i64)
open Ending (returned)
open Obj (cells)
section
variable {B:Nat}
def N7(K H Z o i t:Nat)(M:List PI)(a:PI)(id:Nat):Nat×PI:=(a.getD (id%a.length) 0,cellL 1 (iR o i id K H Z t (gN K H Z (t:Nat) M id)))
def lj(o:Nat)(T:PI)(i:Nat):Nat:=ia o i (T.getD i 0)
def nR(K H Z o:Nat)(T l:PI)(i:Nat):List PI:=wh K H Z (lj o T i:Nat) (fQ (K*Z) l i)
def JG(K H Z ex o:Nat)(T l a:PI)(i:Nat):List (Nat×PI):=(range (K+ex)).map (N7 K H Z o i (lj o T i) (nR K H Z o T l i) a)
def dU(K H Z ex o:Nat)(T l:PI)(ords:Nat->PI)(k:Nat):List (Nat×PI):=((range k).map λa=>JG K H Z ex o T l (ords a) a).flatten
theorem oO(K H Z ex o:Nat)(T l:PI)(ords:Nat->PI)(k:Nat):dU K H Z ex o T l ords (k+1)=dU K H Z ex o T l ords k++JG K H Z ex o T l (ords k) k:=by
 unfold dU;rw[range_succ,aU,flatten_append];simp
theorem xa(K H Z ex o:Nat)(T l:PI)(ords:Nat->PI)(k:Nat):(dU K H Z ex o T l ords k).length=k*(K+ex):=by
 induction k with
 | zero=>simp[dU]
 | succ k a=>rw[oO,aH,a,Nat.succ_mul];unfold JG;rw[aC,aZ]
theorem Ck{K H Z ex o:Nat}{T l:PI}{ords a:Nat->PI}{k:Nat}(b:∀i,i<k->ords i=a i):dU K H Z ex o T l ords k=dU K H Z ex o T l a k:=by
 unfold dU;congr 1;exact map_congr_left λi c=>by rw[b i (bA.1 c)]
theorem fJ{q:Nat}{l:PI}(i:Nat)(c:By l):(fQ q l i).length=q/\By (fQ q l i):=by
 refine⟨by unfold fQ;rw[aH,aI,aG];omega,λd b=> ?_⟩;unfold fQ at b;rcases bz.1 b with a | a
 ·exact c d (mem_of_mem_drop (bD a))
 ·rw[eq_of_mem_replicate a];omega
theorem F9(m:cQ)(o g:Nat)(f:Fl)(R:Nat->List PI)(nm:ByteArray)(T l:PI)(a ad:PK)(n nb c ct:Nat)(w:World)(h:Stq B w g f m R)(W:fB m.K m.H m.Z=true)(cU:m.extra<=16)(ho:o<=16777215)(hT:zt m.K m.H m.Z o nb T)(cd:ja (m.K*m.Z) n=nb)(cV:nb<=8)(a0:0<(bI f).length)
 (hx:Rd w w.heap.size a n (bF l))(d:By l)(hn:n<=1000)(aM:n<=c/\c<=maxLen)(a3:(rI T).ok w (Fu w) [slice ad nb ct]):
 Calls prog 104 #[pointer (some ⟨g,0,none⟩),.agg (d9 ⟨nm,o,n,T⟩ (slice ad nb ct)),slice a n c] w λe Y=>∃v ords,e=returned (.tuple #[v,bool true])/\(∀i,i<nb->(ords i).Perm (bI f))/\(rS 2 ((dU m.K m.H m.Z m.extra o T l ords nb).map cZ)).ok Y (Fu Y) [v]/\Below w.heap.size w Y:=by
 obtain⟨sq,nx,K,H,Z,ex,dr,ob⟩:=m;simp only at*;have hl:l.length=n:=by have:=hx.len;rwa [bG] at this
 have cX:=ba W;have ce:=h.n0.2
 have u:PH (Sx w (w.alloc (cells (d9 ⟨nm,o,n,T⟩ (slice ad nb ct)) 65)) [bS w.heap.size 65 (d9 ⟨nm,o,n,T⟩ (slice ad nb ct)),jW B g f ⟨sq,nx,K,H,Z,ex,dr,ob⟩ R,mF a n (bF l),eR (Fu w) (slice ad nb ct) (rI T)]):=
  ae ((((((Sx.nil w).add (eR (Fu w) (slice ad nb ct) (rI T)) a3).add (mF a n (bF l)) hx).add (jW B g f ⟨sq,nx,K,H,Z,ex,dr,ob⟩ R) h).alloc _).add (bS _ _ _) (Blk.new w _ _))
 have z:=ae λw (h:Stq B w g f ⟨sq,nx,K,H,Z,ex,dr,ob⟩ R)=>vq g f _ R w h;have j:=ae λw (hx:Rd w w.heap.size a n (bF l))=>Ar K H Z l a n c w W hx hn aM.1 aM.2;have CD:=ae λ(i t:Nat) (b:i<=8) (k:t<=16) w=>kU o i t w ho b k;have cY:K*Z<=16*24:=bn (by omega) (by omega);have k:lw (K*Z) l=(range nb).map (fQ (K*Z) l):=by unfold lw;rw[hl,cd]
 rw[k] at j;have cf:=ae λi=>fJ (q:=K*Z) i d;have cg:PH (∀i,i<nb->MidOK K H Z (lj o T i:Nat) (nR K H Z o T l i)):=ae λi b=>(mL W (fJ i d).2 (fJ i d).1 (hT.2 i b).2.1).2.1
 have aO:PH (∀i,i<nb->T.getD i 0<16/\lj o T i<4294967296):=ae λi b=>by
  have:=(hT.2 i b).1;unfold lj ia;exact⟨this,by omega⟩
 have CE:=ae λ(i:Nat) (b:i<nb) a c w (r:Rd w w.heap.size a (K*Z) (bF (fQ (K*Z) l i))) (h1:K*Z<=c) (h2:c<=maxLen)=>BA K H Z (lj o T i:Nat) (fQ (K*Z) l i) a (K*Z) c w W (by omega) (by have:=(aO.o i b).2;omega) r (fJ i d).2 rfl h1 h2 (hT.2 i b).2.1;have CO:=ae λ(i:Nat) (b:i<8) a q c w F (h:(rI (bI f)).ok w F [slice a q c]) (r:(bI f).length=q)=>Cj o i (bI f) F a q c w h r ho b (Kk ce) (fT f) (by omega);have HK:=ae W;have a4:=ae hT.1;have ch:(bI f).length<=64:=aP (length_filter_le _ _) (by rw[aZ];exact h.n0.2);unfold d9 at*;clear h W hx d a3 k hl aM hT;go_enter func104,ntmps104;go_wp2_with fail;generalize w.alloc (cells #[.string nm,int i64 o,int i64 n,slice ad nb ct] 65)=w0 at*;refine(z.o w0 (u.o.stq 1 rfl)).mono ?_;rintro e w1 ⟨v1,rfl,k,A⟩;obtain⟨a1,c1,rfl⟩:=k.lenA;obtain⟨nl,y⟩:∃nl,(bI f).length=nl:=⟨_,rfl⟩;rw[y] at k a0 ch ⊢;have a6:=ae y;have r:=ae ((u.o.step A).add (eR Any (slice a1 nl c1) (rI (bI f))) (Rp.any _ (gH k)));clear k A u z y;obtain⟨-,⟨vd,vo,am,-⟩,-⟩:=r.o.stq 2 rfl;obtain⟨k0,k1,k2,k3,k4,k5,k6,k7,-⟩:=fS am;clear am k0 k1 k5 k6 k7;unfold dD at j CE;go_wp2_with fail;refine(j.o w1 (r.o.rd 3 rfl)).mono ?_;rintro e A ⟨v2,rfl,k,y⟩;have u:((range nb).map (fQ (K*Z) l)).length=nb:=by rw[aC,aZ]
 have ci:=ae u;obtain⟨a2,c2,rfl,-⟩:=eZ k u;have S2:=ae ((r.o.step y).add (eR (Fr w1.heap.size) (slice a2 nb c2) (rM ((range nb).map (fQ (K*Z) l)))) k);clear k y r j k2 k3 k4 u;have a7:=ae (az A.heap.size A);have a9:PH (∀i,i<0->((λ_:Nat=>([]:PI)) i).Perm (bI f)):=ae λi b=>by omega
 have bb:PH (∀b,False->Ty 5 A b):=ae λb d=>d.elim;have bc:PH (OwnS A A.heap.size 165 2 (λ_=>False) (slice none 0 0) ((dU K H Z ex o T l (λ_=>[]) 0).map cZ)):=ae (OwnS.nil _ _ _ _ _);go_wp2_with fail;go_loopw [9,28] (λv q wr=>∃(i:Nat) (ords:Nat->PI) (F:Nat->Prop),i<=nb/\q=int i64 i/\PH (∀r,r<i->(ords r).Perm (bI f))/\PH (∀b,F b->Ty 5 wr b)/\PH (OwnS wr A.heap.size 165 2 F v ((dU K H Z ex o T l ords i).map cZ))/\PH (Below A.heap.size A wr)) (λ_ q _=>nb-(intOf q).toNat)
 case atStart=>exact⟨0,_,_,by omega,rfl,a9,bb,bc,a7⟩
 case round=>
  clear a9 bb bc a7;obtain⟨i,ords,F0,c0,rfl,ar,HF,S,HB⟩:=hrel;obtain⟨J,M,O,rfl⟩:=S.o.sl;by_cases ag:i<nb
  ·have c3:(i:Int)<(nb:Int):=by omega
   have u:=ae (S2.o.step HB.o);obtain⟨c4,c6,e,G,-⟩:=eZ (u.o.rep 0 rfl) ci.o;injection e with e1 e2 e3;subst e1 e3;obtain⟨bx,ox,ax,cx,rfl,c7,y,z,c9,k,cj⟩:=G.at (i:=i) (by omega);have I:((range nb).map (fQ (K*Z) l)).getD i []=fQ (K*Z) l i:=(by rw[af,List.getElem?_map,List.getElem?_range ag];rfl);rw[I,(cf.o i).1] at y z k;have j:=ae (u.o.add (mF ax (K*Z) (bF (fQ (K*Z) l i))) z);have D:=ae (CE.o i ag);have au:=ae (cg.o i ag);have av:=ae (CO.o i (by omega));have da:PH (dU K H Z ex o T l ords i=dU K H Z ex o T l ords i):=ae rfl;obtain⟨kz,E⟩:∃kz,kz=K*Z:=⟨_,rfl⟩;have Q:PH (wh K H Z (lj o T i:Nat) (fQ kz l i)=nR K H Z o T l i):=ae (by rw[E];rfl);rw[<-E] at D j y k;have ck:=ae k;clear z G I E k u;obtain⟨db,dd,aR,u,-⟩:=dI (j.o.rep 6 rfl) a4.o;injection aR with aR _ cl;subst aR cl;obtain⟨bt,ot,rfl,U,z⟩:=u.2 (by omega);have V:wr.cell? ⟨bt,ot+i,none⟩=some (int i64 (T.getD i 0:Nat)):=z i _ (bT (by rw[a4.o];exact ag));have bd:=ae λw=>CD.o i (T.getD i 0) (by omega) (Nat.le_of_lt (aO.o i ag).1) w;have aw:=ae (aO.o i ag).2;have aS:PH (∀k:PI,JG K H Z ex o T l k i=(range (K+ex)).map (N7 K H Z o i (lj o T i) (nR K H Z o T l i) k)):=ae λk=>rfl;rw[Q.o] at D;have E:PH (128*o+16*i+T.getD i 0=lj o T i):=ae rfl;rw[E.o] at bd;clear u z Q E;generalize T.getD i 0=ti at*;generalize lj o T i=t at*;generalize nR K H Z o T l i=u at*;go_upto_region 6 with fail;clear y;refine bL (by kernel_rfl) (by kernel_rfl) ?_
   iterate 10 (
    with_reducible refine wpQuiet_step (λKq aa=> ?_)
    go_simp
    first
    | refine aa _ ?_
    | refine⟨_,λ_ _=>rfl,aa _ ?_⟩
    | (apply Exists.intro
       refine⟨λY an=> ?_,aa _ ?_⟩
       ·obtain⟨y,be,ai,z⟩:=eB ((j.o.step an).blk 3 rfl)
        have E:Y.cell? ⟨bt,ot+i,none⟩=some (int i64 ti):=(an.cell (p:=⟨bt,ot+i,none⟩) U).trans V
        first
        | (go_simp
           first | exact rfl | exact⟨rfl,rfl⟩)
        | (go_at_call 114
           refine(bd.o Y).mono ?_;rintro bi w5 ⟨rfl,rfl⟩;exact⟨rfl,an⟩))
    clear aa Kq)
   with_reducible refine wpQuiet_nil ?_
   intro E y;have z:=ae (j.o.step y);have G:=ae (HB.o.trans (y.mono HB.o.size));have I:=ae (S.o.new y);have Q:PH (∀b,F0 b->Ty 5 E b):=ae λb d=>(HF.o b d).keep (y.block b (HF.o b d).lt);have ac:PH (∀b,(Value.slice J M O).ownBlock=some b->A.heap.size<=b/\b<E.heap.size):=ae I.o.lt;clear y j V U S HF;have ak:=ae (D.o ax cx E (z.o.rd 0 rfl) ck.o cj);obtain⟨-,⟨de,dg,am,-⟩,-⟩:=z.o.stq 4 rfl;obtain⟨k0,k1,k2,k3,k4,k5,k6,k7,-⟩:=fS am;obtain⟨e0,e1,ai,e3⟩:=eB (z.o.blk 3 rfl);clear am k0 k1 k5 k6 k7 D;go_wp2_with fail;refine ak.o.mono ?_;rintro e w4 ⟨gb,vb,rfl,al,ao,D,j⟩;obtain⟨ab,cb,rfl,-⟩:=eZ D au.o.len;have cm:=ae al;have cn:=ae j.size;have y:=ae (((z.o.step j).add (eR (Fr E.heap.size) (slice ab (K+H) cb) (rM u)) D).add (bS gb _ _) ao);have U:=ae (G.o.trans (j.mono G.o.size));have ap:=ae (I.o.new j);have V:PH (∀b,F0 b->Ty 5 w4 b):=ae λb d=>(Q.o b d).keep (j.block b (Q.o b d).lt);have aq:=ae (av.o a1 nl c1 w4 Any (y.o.rep 4 rfl) a6.o);clear al ao D j ak z G I Q k2 k3 k4 e0 e1 ai e3;obtain⟨e0,e1,ai,e3⟩:=eB (y.o.blk 5 rfl);go_wp2_with fail;refine aq.o.mono ?_;rintro e w5 ⟨v5,k,rfl,D,z,j⟩;obtain⟨a5,c5,rfl⟩:=z.lenA;have co:PH (0<k.length):=ae (by rw[D.length_eq,a6.o];exact a0);have bj:=ae D;have G:=ae ((y.o.step j).add (eR Any (slice a5 k.length c5) (rI k)) (Rp.any _ (gH z)));have I:=ae (U.o.trans (j.mono U.o.size));have ak:=ae (ap.o.new j);have Q:PH (∀b,F0 b->Ty 5 w5 b):=ae λb d=>(V.o b d).keep (j.block b (V.o b d).lt);have al:=ae (gH z);clear z j av aq y U ap V e0 e1 ai e3 D;obtain⟨N,hN⟩:∃N,N=K+ex:=⟨_,rfl⟩;have y:IntKind.i64.wrap ((K:Int)+(ex:Int))=(N:Int):=(by rw[IntKind.wrap_i64];omega);have di:N<=32:=(by omega);have cp:=ae hN;have cq:PH ((dU K H Z ex o T l ords i).length<=1000):=ae (by rw[xa];have:i*(K+ex)<=8*32:=bn (by omega) (by omega);omega);clear hN;generalize j:dU K H Z ex o T l ords i=P at*;have aT:=ae j;clear j;go_upto_region 11 with fail;refine bL (by kernel_rfl) (by kernel_rfl) ?_
   iterate 13 (
    with_reducible refine wpQuiet_step (λKq aa=> ?_)
    go_simp
    first
    | refine aa _ ?_
    | refine⟨_,λ_ _=>rfl,aa _ ?_⟩
    | (apply Exists.intro
       refine⟨λY an=> ?_,aa _ ?_⟩
       ·obtain⟨-,⟨cr,cs,ay,-⟩,-⟩:=(G.o.step an).stq 7 rfl
        obtain⟨aA,aB,bk,bl,bm,aD,aE,aF,-⟩:=fS ay
        first
        | (go_simp
           first | exact rfl | exact⟨rfl,rfl⟩))
    clear aa Kq)
   with_reducible refine wpQuiet_nil ?_
   intro z j;have S7:=ae (G.o.step j);have aK:=ae (I.o.trans (j.mono I.o.size));have bo:PH (∀b,F0 b->Ty 5 z b):=ae λb d=>(Q.o b d).keep (j.block b (Q.o b d).lt);have bp:PH (OwnS z A.heap.size 165 2 F0 (slice J M O) ((P++(range 0).map (N7 K H Z o i t u k)).map cZ)):=ae (by rw[range_zero,map_nil,append_nil];exact ak.o.new j);have cu:=ae ((rI _).new al.o j);have cw:PH (Blk z gb _ _):=ae (S7.o.blk 1 rfl);have cy:PH ((rM u).ok z (Fr E.heap.size) [slice ab (K+H) cb]):=ae (S7.o.rep 2 rfl);clear j G I y ak Q al;obtain⟨Q,j⟩:∃Q,Q=(Value.slice J M O).ownBlock:=⟨_,rfl⟩;have aL:PH (∀b,some b=Q->A.heap.size<=b/\b<E.heap.size):=ae λb d=>ac.o b (by rw[<-j,d]);have br:PH (∀b,(Value.slice J M O).ownBlock=some b->some b=Q\/z.heap.size<=b):=ae λb d=>.inl (by rw[j,d]);have bs:PH (Chg (λb=>some b=Q) z z):=ae (Chg.refl _ _);clear j ac;go_wp2_with fail;go_loopw [9,72] (λv q wr=>∃j:Nat,j<=N/\q=int i64 j/\∃F:Nat->Prop,PH (∀b,F b->Ty 5 wr b)/\PH (OwnS wr A.heap.size 165 2 F v ((P++(range j).map (N7 K H Z o i t u k)).map cZ))/\PH (Chg (λb=>some b=Q) z wr)/\PH (∀b,v.ownBlock=some b->some b=Q\/z.heap.size<=b)) (λ_ q _=>N-(intOf q).toNat)
   case atStart=>exact⟨0,by omega,rfl,_,bo,bp,bs,br⟩
   case round=>
    clear bo bp bs br;obtain⟨j,dj,rfl,F,HF,S,HJ,bw⟩:=hrel;obtain⟨J,M,O,rfl⟩:=S.o.sl;have bB:=ae (aK.o.trans (HJ.o.below aK.o.size λr e=>(aL.o r e).1));have y:(rI k).ok wr Any [slice a5 k.length c5]:=(rI _).keep cu.o λb d hl=>⟨HJ.o.block b hl λe=>by have h1:=(aL.o b e).2;have h2:=cn.o;have h3:w4.heap.size<=b:=d;omega,trivial⟩;have D:(rM u).ok wr (Fr E.heap.size) [slice ab (K+H) cb]:=(rM _).keep cy.o λb d hl=>⟨HJ.o.block b hl λe=>by have h1:=(aL.o b e).2;have h3:E.heap.size<=b:=d;omega,d⟩;have G:=Blk.chg cw.o HJ.o λe=>(by have h1:=(aL.o gb e).2;have h2:E.heap.size<=gb:=cm.o;omega);have U:=ae ((((S2.o.step bB.o).add (eR (Fr E.heap.size) (slice ab (K+H) cb) (rM u)) D).add (bS gb _ _) G).add (eR Any (slice a5 k.length c5) (rI k)) y);clear y D G;by_cases dk:j<N
    ·have dl:(j:Int)<(N:Int):=by omega
     have CY:=ae λw (y:Blk w gb 269 #[int i64 K,int i64 H,int i64 Z,.int .u32 (t:Nat),slice ab (K+H) cb]) (D:(rM u).ok w (Fr E.heap.size) [slice ab (K+H) cb])=>yF K H Z (t:Nat) u gb j ab (K+H) cb (Fr E.heap.size) w HK.o (by have:=aw.o;omega) (by have:=aw.o;omega) au.o (by have:=aw.o;omega) y D;have b8:=ae (CY.o _ ((U.o.blk 1 rfl).drew) ((rM _).new (U.o.rep 2 rfl) ((az _ _).drew)));have ao:=ae (jJ HK.o au.o j);have b9:=ae (En HK.o au.o j);obtain⟨-,⟨cr,cs,ay,-⟩,-⟩:=U.o.stq 6 rfl;obtain⟨k0,k1,k2,k3,k4,k5,k6,k7,-⟩:=fS ay;obtain⟨e0,e1,ai,e3⟩:=eB (U.o.blk 5 rfl);clear ay k0 k1 k5 k6 k7 e0 ai e3;go_upto_region 14 with fail;have cz:z.heap.size<=wr.heap.size:=HJ.o.size;go_cut [17] (λv y=>∃G9 G I,v=pointer (some ⟨G9,0,none⟩)/\PH (Blk y G9 178 #[int i64 o,int i64 i,int i64 j,int i64 K,int i64 H,int i64 Z,.int .u32 (t:Nat),slice G Z I])/\PH ((rB (gN K H Z (t:Nat) u j)).ok y (λb=>Ty 5 y b) [slice G Z I])/\PH (Below wr.heap.size wr y))
     case first=>
      have y:=((az wr.heap.size wr).alloc (aj _) (cells #[int i64 0,int i64 0,int i64 0,int i64 0,int i64 0,int i64 0,.int .u32 0,slice none 0 0] 178)).drew;have SZ:=ae (U.o.step y);have cA:=ae (CY.o _ (SZ.o.blk 1 rfl) (SZ.o.rep 2 rfl));have ca:=ae (Blk.drew (Blk.new wr 178 #[int i64 0,int i64 0,int i64 0,int i64 0,int i64 0,int i64 0,.int .u32 0,slice none 0 0]));have cc:=ae y;obtain⟨-,⟨cE,cF,D,-⟩,-⟩:=SZ.o.stq 6 rfl;obtain⟨V,z1,z2,z3,z4,z5,z6,z7,-⟩:=fS D;have ez:((wr.alloc (cells #[int i64 0,int i64 0,int i64 0,int i64 0,int i64 0,int i64 0,.int .u32 0,slice none 0 0] 178)).drew).cell? ⟨w.heap.size,1,none⟩=some (int i64 o):=(SZ.o.blk 5 rfl).cell 1;clear D V z1 z5 z6 z7 y CY
      go_region_law (first
       | (go_simp
          go_at_call 160;refine b8.o.mono ?_;rintro bi D ⟨v8,rfl,ac,y⟩;replace y:=bP y;have ak:=(az D.heap.size D).alloc (aj _) (cells #[int i64 0,int i64 0,int i64 0,int i64 0,int i64 0,int i64 0,.int .u32 0,slice none 0 0] 178);have V:=ae ((U.o.step y).step ak);obtain⟨-,⟨cI,cK,al,-⟩,-⟩:=V.o.stq 6 rfl;obtain⟨ap,aq,cL,cM,cO,aV,aX,cB,-⟩:=fS al;have cP:(D.alloc (cells #[int i64 0,int i64 0,int i64 0,int i64 0,int i64 0,int i64 0,.int .u32 0,slice none 0 0] 178)).cell? ⟨w.heap.size,1,none⟩=some (int i64 o):=(V.o.blk 5 rfl).cell 1;clear ak V al ap aq aV aX cB;have ap:=(rB _).more (kL ac) (λb d _=>d.1);obtain⟨G,I,rfl,ak,al⟩:=ac.rd2 ao.o;have aV:PH ((rB (gN K H Z (t:Nat) u j)).ok D (λb=>Ty 5 D b) [slice G Z I]):=ae ap;have S9:=ae (U.o.step y);obtain⟨-,⟨cB,cC,aq,-⟩,-⟩:=S9.o.stq 6 rfl;obtain⟨aA,aB,bk,bl,bm,aD,aE,aF,-⟩:=fS aq;have be:D.cell? ⟨w.heap.size,1,none⟩=some (int i64 o):=(S9.o.blk 5 rfl).cell 1;have aX:=ae y;clear ac y aq aA aB aD aE aF ak al ap;go_simp)
       | (go_simp
          go_at_call 160;refine cA.o.mono ?_;rintro bi D ⟨v8,rfl,ac,y⟩;have V:=ae (ca.o.below y ca.o.lt);have y:=cc.o.trans (y.mono cc.o.size);have f0:=V.o.frozen 0;have f1:=V.o.frozen 1;have f2:=V.o.frozen 2;have f3:=V.o.frozen 3;have f4:=V.o.frozen 4;have f5:=V.o.frozen 5;have f6:=V.o.frozen 6;have f7:=V.o.frozen 7;obtain⟨y0,y1,y2,y3,y4,y5,y6,y7⟩:=bY V.o;have ap:=(rB _).more (kL ac) (λb d _=>d.1);obtain⟨G,I,rfl,ak,al⟩:=ac.rd2 ao.o;have aV:PH ((rB (gN K H Z (t:Nat) u j)).ok D (λb=>Ty 5 D b) [slice G Z I]):=ae ap;have S9:=ae (U.o.step y);obtain⟨-,⟨cB,cC,aq,-⟩,-⟩:=S9.o.stq 6 rfl;obtain⟨aA,aB,bk,bl,bm,aD,aE,aF,-⟩:=fS aq;have be:D.cell? ⟨w.heap.size,1,none⟩=some (int i64 o):=(S9.o.blk 5 rfl).cell 1;have aX:=ae y;clear ac y aq aA aB aD aE aF ak al ap;go_simp))
      all_goals(
       go_simp;refine ‹∀(a':Act) (Y:World),Met _ a' Y->_› _ _ ?_;go_meet
       first
       | (have cD:=V
          have hz:=KE aV.o aX.o cD.o (aj _) (int i64 o) (int i64 i) (int i64 j) (int i64 K) (int i64 H) (int i64 Z) (.int .u32 (t:Nat)) (slice G Z I);exact⟨wr.heap.size,G,I,rfl,ae hz.1,ae hz.2.1,ae hz.2.2⟩)
       | (have hz:=Nn (vs:=#[int i64 o,int i64 i,int i64 j,int i64 K,int i64 H,int i64 Z,.int .u32 (t:Nat),slice G Z I]) aV.o aX.o
          exact⟨D.heap.size,G,I,rfl,ae hz.1,ae hz.2.1,ae hz.2.2⟩))
     case rest=>
      obtain⟨G9,G,I,rfl,aq,aA,V⟩:=hcut;clear CY b8 k2 k3 k4 e1;obtain⟨aB,dm,e8,ak,al,-⟩:=fC aA.o ao.o;injection e8 with cc _ cA;subst cc cA;have ac:=ae (U.o.step V.o);have aD:=ae (S.o.new V.o);have aE:PH (∀b,F b->Ty 5 wc b):=ae λb d=>(HF.o b d).keep (V.o.block b (HF.o b d).lt);have aF:=ae (HJ.o.trans (Chg.of V.o));have CQ:=ae (oN o i j K H Z t (gN K H Z (t:Nat) u j) G I wc.drew (by omega) (by omega) (by omega) HK.o aw.o ak b9.o al);unfold uI at CQ;have HT:PH ((P++(range (j+1)).map (N7 K H Z o i t u k)).map cZ=(P++(range j).map (N7 K H Z o i t u k)).map cZ++[cZ (k.getD (j%k.length) 0,cellL 1 (iR o i j K H Z t (gN K H Z (t:Nat) u j)))]):=ae (by rw[range_succ,aU (l:=range j),<-append_assoc,aU];rfl);have cB:((P++(range j).map (N7 K H Z o i t u k)).map cZ).length<=1000000:=(by have:=cq.o;rw[aC,aH,aC,aZ];omega);have aV:PH ((cellL 1 (iR o i j K H Z t (gN K H Z (t:Nat) u j))).length=64):=ae (gA (by rw[iT,ao.o];omega));obtain⟨b0,b1,b2,b3,b4,b5,b6,b7⟩:=bY aq.o;have aX:=ae λw (hx:(rI k).ok w Any [slice a5 k.length c5])=>OD k Any a5 k.length c5 j w hx rfl co.o;have cC:=ae (aX.o wc.drew ((rI _).new (ac.o.rep 0 rfl) (az _ _).drew));have cD:=ae (ac.o.rep 0 rfl);have cE:z.heap.size<=wc.heap.size:=aF.o.size;have cF:=ae aK.o.size;generalize cellL 1 (iR o i j K H Z t (gN K H Z (t:Nat) u j))=be at*;generalize k.getD (j%k.length) 0=ap at*;clear aq aA V ao b9 ak al S HF HJ U S7 ac cz aK aS aT ar bj;generalize V:(P++(range j).map (N7 K H Z o i t u k)).map cZ=LL at*;clear V;go_wp2_with fail
      go_region_law (first
       | (change (if _=true then Oper.wp _ (Oper.mk (some 97) _ _ _ _ _) _ _ _ _ else _)
          refine mR (w:=V) (C:=A.heap.size) (F:=λb=>F b\/b=g7) (v:=slice J M O) (L:=LL) (R:=cZ (ap,be)) rfl _ _ rfl underlying120 uV rfl (by decide) (by decide) bi.o cI cB cK.o rfl rfl rfl ?_;intro v8 D ac y cL aq bk;obtain⟨aB,cM,cO,rfl⟩:=ac.sl;rw[<-HT.o] at ac;have cP:=ae ac;have cR:PH (∀b,(F b\/b=g7)->Ty 5 D b):=ae λb d=>(aA.o b d).keep (aq b (aA.o b d).lt λe=>(aA.o b d).ne (bi.o.ownTy b e.symm) (by decide));have bl:Chg (λb=>some b=Q\/z.heap.size<=b) z V:=bm.o.mono λr _ e=>.inl e;have ca:Chg (λb=>some b=Q\/z.heap.size<=b) V D:=⟨y.os,y.tape,y.output,y.size,λb d hN=>aq b d λe=>hN (bw.o b e.symm)⟩;have cS:PH (Chg (λb=>some b=Q) z D):=ae ((bl.trans ca).mono λr W e=>e.elim id λh=>absurd h (by omega));have cT:PH (∀b,(Value.slice aB cM cO).ownBlock=some b->some b=Q\/z.heap.size<=b):=ae λb d=>bk.elim (λe=>bw.o b (e.symm.trans d)) λ⟨b',e,dp⟩=>.inr (by have h1:some b=some b':=d.symm.trans e;injection h1 with h1;omega);clear bl ca;clear ac y cL aq bk)
       | (go_simp
          go_at_call 162;refine CQ.o.mono ?_;rintro e V ⟨g7,rfl,bk,aq,ac⟩;replace ac:=bP ac;have cI:A.heap.size<=V.heap.size:=aP cF.o (aP cE ac.size);have av:=ae (aX.o V ((rI _).new cD.o ac));have bm:=ae (aF.o.trans (Chg.of ac));have bl:z.heap.size<=V.heap.size:=bm.o.size;have bi:PH (OwnS V A.heap.size 165 2 (λb=>F b\/b=g7) (slice J M O) LL):=ae ((aD.o.new ac).base (aj _) λb d=>.inl d);have aA:PH (∀b,(F b\/b=g7)->Ty 5 V b):=ae λb d=>d.elim (λh=>(aE.o b h).keep (ac.block b (aE.o b h).lt)) λe=>e▸Blk.ty aq
          have cK:PH ((cZ (ap,be)).ok V (λb=>(F b\/b=g7)/\some b≠(Value.slice J M O).ownBlock) [int i64 ap,slice (some ⟨g7,0,none⟩) 64 64]):=ae (rY (x:=[int i64 ap]) (rZ rfl) (by
           have h:=mq (F:=λb=>(F b\/b=g7)/\some b≠(Value.slice J M O).ownBlock) aq ⟨.inr rfl,λe=>by have h1:=(aD.o.lt g7 e.symm).2;have h2:wc.heap.size<=g7:=bk;omega⟩ (by rw[aV.o];unfold maxLen;omega);rw[aV.o] at h;exact h))
          clear bk aq ac;go_simp)
       | (go_simp
          go_at_call 161;refine cC.o.mono ?_;rintro e w9 ⟨rfl,rfl⟩;go_simp)
       | (go_simp
          go_at_call 161;refine av.o.mono ?_;rintro e w9 ⟨rfl,rfl⟩;go_simp))
      all_goals(
       go_simp;go_wp2_with fail;go_roundw
       case rel=>(try((repeat apply Exists.intro);refine⟨?_,rfl⟩));exact⟨j+1,by omega,by go_num,_,cR,cP,cS,cT⟩
       case measure=>simp[intOf];omega)
    ·obtain rfl:j=N:=by omega
     have y:PH (OwnS wr A.heap.size 165 2 F (slice J M O) ((dU K H Z ex o T l (λr=>if r=i then k else ords r) (i+1)).map cZ)):=ae (by
      have e1:dU K H Z ex o T l (λr=>if r=i then k else ords r) i=P:=by
       rw[<-aT.o];exact Ck λr W=>by rw[bh (by omega)]
      rw[oO,e1,bg rfl,aS.o,<-cp.o];exact S.o)
     have D:PH (∀r,r<i+1->((λr=>if r=i then k else ords r) r).Perm (bI f)):=ae λr W=>by
      by_cases e:r=i
      ·show(if r=i then k else ords r).Perm _;rw[bg e];exact bj.o
      ·show(if r=i then k else ords r).Perm _;rw[bh e];exact ar.o r (by omega)
     have r:=bB;clear S aT aS ar HJ;go_wp2_with fail;go_roundw
     case rel=>(try((repeat apply Exists.intro);refine⟨?_,rfl⟩));exact⟨i+1,_,_,by omega,by go_num,D,HF,y,r⟩
     case measure=>simp[intOf];omega
  ·obtain rfl:i=nb:=by omega
   have j:PH ((rS 2 ((dU K H Z ex o T l ords i).map cZ)).ok wr (Fu wr) [slice J M O]):=ae ((S.o.base (aj _) λb d=>Mt.not (HF.o b d) (by decide) (by decide) (by decide)).repU (by decide));go_wp2_with fail;go_ret2;exact⟨_,ords,rfl,ar.o,j.o,(S2.o.step HB.o).1⟩
end
section
variable {B:Nat}
end
section
variable {B:Nat}
theorem Rp.fmA(R:Rp){w:World}{o:Obj}{a:List Value}(b:R.ok w (Fm w) a):R.ok (w.alloc o) (Fm (w.alloc o)) a:=R.fm b ((az _ _).alloc (aj _) o)
theorem Rp.put8m(R:Rp){w:World}{g:Nat}{j:List Value}{q r t u v x y z:Value}(A:Blk w g 68 #[q,r,t,u,v,x,y,z])(C:R.ok w (Fm w) j)(a b c d e f h i:Value):
 R.ok ((((((((w.setCell ⟨g,0,none⟩ a).setCell ⟨g,1,none⟩ b).setCell ⟨g,2,none⟩ c).setCell ⟨g,3,none⟩ d).setCell ⟨g,4,none⟩ e).setCell ⟨g,5,none⟩ f).setCell ⟨g,6,none⟩ h).setCell ⟨g,7,none⟩ i) (Fm ((((((((w.setCell ⟨g,0,none⟩ a).setCell ⟨g,1,none⟩ b).setCell ⟨g,2,none⟩ c).setCell ⟨g,3,none⟩ d).setCell ⟨g,4,none⟩ e).setCell ⟨g,5,none⟩ f).setCell ⟨g,6,none⟩ h).setCell ⟨g,7,none⟩ i)) j:=
 R.keep C λD k m=>by
  have m:=xH w a b c d e f h i D λD=>k.2 (D▸Blk.ty A);exact⟨m,k.keep m⟩
end
section
variable {B:Nat}
end
structure cJ where
 o:Nat
 b:Nat
 i:Nat
 t:Nat
 d:PI
def lq:cJ:=⟨0,0,0,0,[]⟩
def ek(K H Z:Nat)(r:cJ)(v:Value):Array Value:=#[int i64 r.o,int i64 r.b,int i64 r.i,int i64 K,int i64 H,int i64 Z,.int .u32 (r.t:Nat),v]
theorem recYV(K H Z:Nat)(r:cJ)(v:Value):uI r.o r.b r.i K H Z r.t v=.agg (ek K H Z r v):=rfl
def tu(K H Z:Nat)(r:cJ):Rp:=rP (rVs [int i64 r.o,int i64 r.b,int i64 r.i,int i64 K,int i64 H,int i64 Z,.int .u32 (r.t:Nat)]) (rB r.d)
def RecY8(w:World)(b o:Nat)(K H Z:Nat)(r:cJ)(v:Value):Prop:=b<w.heap.size/\∀a,a<8->w.cell? ⟨b,o+a,none⟩=(ek K H Z r v)[a]?
theorem RecY8.below{w w':World}{b o K H Z:Nat}{r:cJ}{v:Value}(a:RecY8 w b o K H Z r v)(c:Below w.heap.size w w'):RecY8 w' b o K H Z r v:=
 ⟨aW a.1 c.size,λd e=>(c.cell (p:=⟨b,o+d,none⟩) a.1).trans (a.2 d e)⟩
theorem RecY8.c{w:World}{b o K H Z:Nat}{r:cJ}{v:Value}(a:RecY8 w b o K H Z r v):w.cell? ⟨b,o,none⟩=some (int i64 r.o)/\w.cell? ⟨b,o+1,none⟩=some (int i64 r.b)/\w.cell? ⟨b,o+2,none⟩=some (int i64 r.i)/\w.cell? ⟨b,o+3,none⟩=some (int i64 K)/\
 w.cell? ⟨b,o+4,none⟩=some (int i64 H)/\w.cell? ⟨b,o+5,none⟩=some (int i64 Z)/\w.cell? ⟨b,o+6,none⟩=some (.int .u32 (r.t:Nat))/\w.cell? ⟨b,o+7,none⟩=some v:=
 ⟨a.2 0 (by omega),a.2 1 (by omega),a.2 2 (by omega),a.2 3 (by omega),a.2 4 (by omega),a.2 5 (by omega),a.2 6 (by omega),a.2 7 (by omega)⟩
theorem jg{K H Z:Nat}{L:List cJ}{w:World}{F:Nat->Prop}{a:PK}{n c i:Nat}(j:(rS 8 (L.map (tu K H Z))).ok w F [slice a n c])(C:L.length=n)(k:i<n):
 ∃b o f g,a=some ⟨b,o,none⟩/\F b/\RecY8 w b (o+i*8) K H Z (L.getD i lq) (slice f (L.getD i lq).d.length g)/\(rB (L.getD i lq).d).ok w F [slice f (L.getD i lq).d.length g]:=by
 have m:i<L.length:=by omega
 have q:(L.map (tu K H Z))[i]? =some (tu K H Z (L.getD i lq)):=by rw[List.getElem?_map,af,ah m];rfl
 obtain⟨b,o,D,rfl,r,t,u,E,d⟩:=uQ j (by decide) k q;obtain⟨G,I,rfl,v,h⟩:=u;have x:=v.1;subst x;have y:=(rB (L.getD i lq).d).len h;obtain⟨J,rfl⟩:=length_eq_one_iff.1 y;obtain⟨f,g,z,-⟩:=fC h rfl;subst z;refine⟨b,o,f,g,rfl,r,⟨t,λe M=> ?_⟩,h⟩;have A:e=0\/e=1\/e=2\/e=3\/e=4\/e=5\/e=6\/e=7:=by omega
 rcases A with rfl | rfl | rfl | rfl | rfl | rfl | rfl | rfl
 ·exact d 0 _ rfl
 ·exact d 1 _ rfl
 ·exact d 2 _ rfl
 ·exact d 3 _ rfl
 ·exact d 4 _ rfl
 ·exact d 5 _ rfl
 ·exact d 6 _ rfl
 ·exact d 7 _ rfl
theorem rn_ok{K H Z:Nat}{r:cJ}{w:World}{F:Nat->Prop}{v:Value}(b:(rB r.d).ok w F [v]):(tu K H Z r).ok w F (ek K H Z r v).toList:=
 rY (x:=[int i64 r.o,int i64 r.b,int i64 r.i,int i64 K,int i64 H,int i64 Z,.int .u32 (r.t:Nat)]) (Co (by intro c a;simp at a;rcases a with rfl | rfl | rfl | rfl | rfl | rfl | rfl <;> rfl)) b
def Od(x y z:Int):Int:=if x=0 then (if y=0 then z else y) else x
theorem JU(x y z:Int)(b o c:Nat)(w:World)(k:w.cell? ⟨b,o,none⟩=some (int i64 x))(m:w.cell? ⟨b,o+1,none⟩=some (int i64 y))(q:w.cell? ⟨b,o+2,none⟩=some (int i64 z))(h:Od x y z≠0):Calls prog 223 #[slice (some ⟨b,o,none⟩) 3 c] w λa d=>a=returned (int i64 (Od x y z))/\d=w:=by
 obtain⟨n,a⟩:∃n:Nat,n=if x=0 then (if y=0 then 2 else 1) else 0:=⟨_,rfl⟩
 have g:(n=0/\x≠0)\/(n=1/\x=0/\y≠0)\/(n=2/\x=0/\y=0/\z≠0):=by
  unfold Od at h;by_cases d:x=0
  ·rw[bg d] at a h
   by_cases e:y=0
   ·rw[bg e] at a h;exact .inr (.inr ⟨a,d,e,h⟩)
   ·rw[bh e] at a;exact .inr (.inl ⟨a,d,e⟩)
  ·rw[bh d] at a;exact .inl ⟨a,d⟩
 clear a;go_enter func223,ntmps223;go_wp2_with fail;go_loopw [8] (λf wr=>∃a:Nat,a<=n/\f=int i64 a/\PH (wr=w)) (λf _=>2-(intOf f).toNat)
 case atStart=>exact⟨0,by omega,rfl,ae rfl⟩
 case round=>
  obtain⟨a,r,rfl,f⟩:=hrel;obtain rfl:=f.o;rcases g with⟨rfl,d⟩ | ⟨rfl,rfl,e⟩ | ⟨rfl,rfl,rfl,i⟩
  ·obtain rfl:a=0:=by omega
   have j:(x == 0)=false:=(by rw[beq_eq_false_iff_ne];exact d);go_wp2_with fail;go_ret;exact⟨by unfold Od;rw[bh d];rfl,rfl⟩
  ·have t:(y == 0)=false:=by rw[beq_eq_false_iff_ne];exact e
   have j:a=0\/a=1:=(by omega);rcases j with rfl | rfl
   ·go_wp2_with fail
    go_roundw
    case rel=>exact⟨1,by omega,by first | rfl | go_num,ae (by first | rfl | trivial)⟩
    case measure=>simp[intOf]
   ·go_wp2_with fail
    go_ret;exact⟨by unfold Od;rw[bg rfl,bh e];rfl,rfl⟩
  ·have t:(z == 0)=false:=by rw[beq_eq_false_iff_ne];exact i
   have j:a=0\/a=1\/a=2:=(by omega);rcases j with rfl | rfl | rfl
   ·go_wp2_with fail
    go_roundw
    case rel=>exact⟨1,by omega,by first | rfl | go_num,ae (by first | rfl | trivial)⟩
    case measure=>simp[intOf]
   ·go_wp2_with fail
    go_roundw
    case rel=>exact⟨2,by omega,by first | rfl | go_num,ae (by first | rfl | trivial)⟩
    case measure=>simp[intOf]
   ·go_wp2_with fail
    go_ret;exact⟨by unfold Od;rw[bg rfl,bg rfl];rfl,rfl⟩
def Io(x y:cJ):Prop:=x.o<y.o\/(x.o=y.o/\(x.b<y.b\/(x.b=y.b/\x.i<y.i)))
theorem ordN{x y:cJ}(a:Io y x):Od (Lib.compareInt x.o y.o) (Lib.compareInt x.b y.b) (Lib.compareInt x.i y.i)=1:=by
 unfold Io at a;unfold Od Lib.compareInt;rcases a with a | ⟨b,a | ⟨c,a⟩⟩
 ·rw[bh (show ¬((x.o:Int)<(y.o:Int)) by omega),bg (show(y.o:Int)<(x.o:Int) by omega)];rfl
 ·rw[b,bh (show ¬((x.o:Int)<(x.o:Int)) by omega),bh (show ¬((x.o:Int)<(x.o:Int)) by omega),bh (show ¬((x.b:Int)<(y.b:Int)) by omega),bg (show(y.b:Int)<(x.b:Int) by omega)];rfl
 ·rw[b,c,bh (show ¬((x.o:Int)<(x.o:Int)) by omega),bh (show ¬((x.o:Int)<(x.o:Int)) by omega),bh (show ¬((x.b:Int)<(x.b:Int)) by omega),bh (show ¬((x.b:Int)<(x.b:Int)) by omega),bh (show ¬((x.i:Int)<(y.i:Int)) by omega),bg (show(y.i:Int)<(x.i:Int) by omega)];rfl
theorem qp(K H Z:Nat)(x y:cJ)(b c:Value)(w:World)(h:Io y x):Calls prog 181 #[.agg (ek K H Z x b),.agg (ek K H Z y c)] w λe a=>e=returned (int i64 1)/\Below w.heap.size w a:=by
 have v:=ae λ(p d:Int) w=>Tryz.cmp_Compare_int p d w;have t:=ae (ordN h);have d:(w.alloc (cells (ek K H Z x b) 178)).heap.size=w.heap.size+1:=by simp
 have f:=ae ((Blk.new w 178 (ek K H Z x b)).alloc (cells (ek K H Z y c) 178));have g:PH (Blk ((w.alloc (cells (ek K H Z x b) 178)).alloc (cells (ek K H Z y c) 178)) (w.heap.size+1) 178 (ek K H Z y c)):=ae (by rw[<-d];exact Blk.new _ _ _);have u:PH (Below w.heap.size w ((w.alloc (cells (ek K H Z x b) 178)).alloc (cells (ek K H Z y c) 178))):=ae (((az _ _).alloc (aj _) _).alloc (by simp) _);clear d h;obtain⟨i,j,k,xt,C⟩:=x;obtain⟨m,q,r,z,D⟩:=y;unfold ek at*;simp only at*;go_enter func181,ntmps181;go_upto_region 1 with fail;generalize (w.alloc (cells #[int i64 i,int i64 j,int i64 k,int i64 K,int i64 H,int i64 Z,.int .u32 (xt:Nat),b] 178)).alloc (cells #[int i64 m,int i64 q,int i64 r,int i64 K,int i64 H,int i64 Z,.int .u32 (z:Nat),c] 178)=d at*;have E:d.cell? ⟨w.heap.size,0,none⟩=some (int i64 i):=f.o.cell 0;have F:d.cell? ⟨w.heap.size,1,none⟩=some (int i64 j):=f.o.cell 1;have G:d.cell? ⟨w.heap.size,2,none⟩=some (int i64 k):=f.o.cell 2;have I:d.cell? ⟨w.heap.size+1,0,none⟩=some (int i64 m):=g.o.cell 0;have J:d.cell? ⟨w.heap.size+1,1,none⟩=some (int i64 q):=g.o.cell 1;have L:d.cell? ⟨w.heap.size+1,2,none⟩=some (int i64 r):=g.o.cell 2
 go_region_held3 (λa=>(a.cell? ⟨w.heap.size,0,none⟩=some (int i64 i)/\a.cell? ⟨w.heap.size,1,none⟩=some (int i64 j)/\a.cell? ⟨w.heap.size,2,none⟩=some (int i64 k))/\a.cell? ⟨w.heap.size+1,0,none⟩=some (int i64 m)/\a.cell? ⟨w.heap.size+1,1,none⟩=some (int i64 q)/\a.cell? ⟨w.heap.size+1,2,none⟩=some (int i64 r)) (go_keep) (first
  | (go_at_call 225;refine(v.o _ _ _).mono ?_;rintro e a ⟨rfl,rfl⟩;go_simp)
  | (go_at_call 223;refine(JU _ _ _ _ _ _ _ (by first | exact dZ _ _ _ 0 | (go_simp;done)) (by first | exact dZ _ _ _ 1 | (go_simp;done)) (by first | exact dZ _ _ _ 2 | (go_simp;done)) (by rw[t.o];decide)).mono ?_;rintro e a ⟨rfl,rfl⟩;go_simp))
 all_goals(
  go_simp;go_wp2_with fail;go_ret;exact⟨congrArg (λA=>Ending.returned (Value.int .i64 A)) t.o,(u.o.alloc u.o.size _).drew⟩)
theorem Mx(K H Z:Nat)(x y:cJ)(a b:Value)(w:World)(h:Io y x):Calls prog 183 #[.agg (ek K H Z x a),.agg (ek K H Z y b)] w λc d=>c=returned (bool false)/\Below w.heap.size w d:=by
 have f:=ae λw=>qp K H Z x y a b w h;have d:(w.alloc (cells (ek K H Z x a) 178)).heap.size=w.heap.size+1:=by simp
 have g:=ae ((Blk.new w 178 (ek K H Z x a)).alloc (cells (ek K H Z y b) 178));have i:PH (Blk ((w.alloc (cells (ek K H Z x a) 178)).alloc (cells (ek K H Z y b) 178)) (w.heap.size+1) 178 (ek K H Z y b)):=ae (by rw[<-d];exact Blk.new _ _ _);have e:PH (Below w.heap.size w ((w.alloc (cells (ek K H Z x a) 178)).alloc (cells (ek K H Z y b) 178))):=ae (((az _ _).alloc (aj _) _).alloc (by simp) _);clear d h;obtain⟨j,k,m,xt,A⟩:=x;obtain⟨q,r,t,u,C⟩:=y;unfold ek at*;simp only at*;go_enter func183,ntmps183;go_upto_region 1 with fail;generalize (w.alloc (cells #[int i64 j,int i64 k,int i64 m,int i64 K,int i64 H,int i64 Z,.int .u32 (xt:Nat),a] 178)).alloc (cells #[int i64 q,int i64 r,int i64 t,int i64 K,int i64 H,int i64 Z,.int .u32 (u:Nat),b] 178)=v at*;obtain⟨D,E,F,G,I,J,L,M⟩:=bY g.o;obtain⟨O,Q,R,S,U,V,W,Y⟩:=bY i.o;go_wp2_with fail;refine(f.o v).mono ?_;rintro c w1 ⟨rfl,d⟩;have z:=ae (e.o.trans (d.mono e.o.size));clear d;go_wp2_with fail;go_ret;exact⟨rfl,z.o⟩
def ou(L:List cJ):Prop:=∀a,a+1<L.length->Io (L.getD a lq) (L.getD (a+1) lq)
theorem ins_rn(K H Z:Nat)(L:List cJ)(F:Nat->Prop)(a:PK)(n c:Nat)(w:World)(t:(rS 8 (L.map (tu K H Z))).ok w F [slice a n c])(u:L.length=n)(S:n<=1000)(hs:ou L):
 Calls prog 311 #[slice a n c,int i64 0,int i64 n,.func (.func 181) #[] #[]] w λe k=>e=returned (.tuple #[])/\Below w.heap.size w k:=by
 have z:=ae t;have m:=ae u;have A:=ae hs;have v:=ae (az w.heap.size w);clear t u hs;go_enter func311,ntmps311;go_wp2_with fail;go_loopw [8] (λi wr=>∃b:Nat,b<=n+1/\1<=b/\i=int i64 b/\PH (Below w.heap.size w wr)) (λi _=>n-(intOf i).toNat)
 case atStart=>exact⟨1,by omega,by omega,rfl,v⟩
 case round=>
  clear v;obtain⟨b,U,V,rfl,f⟩:=hrel;by_cases C:b<n
  ·have D:(b:Int)<(n:Int):=by omega
   have W:(0:Int)<(b:Int):=(by omega);have E:0<b:=(by omega);have Y:decide (0<b)=true:=bf E;have aa:(1:Int)<=(b:Int):=(by omega);obtain⟨d,j⟩:∃d,d=b-1:=⟨_,rfl⟩;have ab:IntKind.i64.wrap ((b:Int)-1)=(d:Int):=(by rw[IntKind.wrap_i64];omega);have ac:(d:Int)<(n:Int):=(by omega);have x:=ae ((rS 8 _).new z.o f.o);obtain⟨ad,o,a3,c3,rfl,-,q,-⟩:=jg x.o m.o C;obtain⟨b',o',a4,c4,e,-,r,-⟩:=jg (i:=d) x.o m.o (by omega);injection e with e;injection e with G I _;subst G I;have g:=A.o d (by rw[m.o];omega);rw[show d+1=b by omega] at g;have y:=ae λJ M w=>qp K H Z (L.getD b lq) (L.getD d lq) J M w g;have q:=ae q;have r:=ae r;clear g j;generalize L.getD b lq=ag at*;generalize L.getD d lq=ai at*;unfold ek at y;go_wp2_with fail;rename World=>J;go_loopw [9] (λg wr=>g=int i64 b/\PH (wr=J)) (λ_ _=>0)
   case atStart=>exact⟨rfl,ae rfl⟩
   case round=>
    obtain⟨rfl,M⟩:=hrel;obtain rfl:=M.o;go_upto_region 4 with fail;refine bL (by kernel_rfl) (by kernel_rfl) ?_
    iterate 17 (
     with_reducible refine wpQuiet_step (λO g=> ?_)
     go_simp
     first
     | refine g _ ?_
     | refine⟨_,λ_ _=>rfl,g _ ?_⟩
     | (apply Exists.intro
        refine⟨λk j=> ?_,g _ ?_⟩
        ·obtain⟨ak,al,am,an,ao,ap,aq,ar⟩:=(q.o.below j).c
         obtain⟨au,av,aw,ax,ay,aA,aB,aD⟩:=(r.o.below j).c
         first
         | (go_simp
            first | exact rfl | exact⟨rfl,rfl⟩)
         | (go_at_call 181
            refine(y.o _ _ k).mono ?_;rintro aE Q ⟨rfl,R⟩;exact⟨rfl,j.trans (R.mono j.size)⟩))
     clear g O)
    with_reducible refine wpQuiet_nil ?_
    intro Q g;have O:=ae (f.o.trans (g.mono f.o.size));clear g;go_wp2_with fail;go_roundw
    case rel=>exact⟨b+1,by omega,by omega,by go_num,O⟩
    case measure=>simp[intOf];omega
  ·have D:¬(b:Int)<(n:Int):=by omega
   go_wp2_with fail
   (try simp only[Exit.inBlock,Exit.then])
   refine bodyPost_end (results_none rfl _ _ _) rfl ?_;exact⟨rfl,f.o⟩
theorem Cv(K H Z:Nat)(L:List cJ)(F:Nat->Prop)(a:PK)(n c:Nat)(w:World)(u:(rS 8 (L.map (tu K H Z))).ok w F [slice a n c])(v:L.length=n)(O:n<=1000)(hs:ou L):
 Calls prog 182 #[slice a n c,.func (.func 183) #[] #[]] w λe k=>e=returned (slice a n c)/\Below w.heap.size w k:=by
 have z:=ae u;have m:=ae v;have A:=ae hs;have q:=ae (az w.heap.size w);clear u v hs;by_cases Q:n<2
 ·have C:(n:Int)<2:=by omega
  go_enter func182,ntmps182;go_wp2_with fail;go_ret;exact⟨rfl,q.o⟩
 have C:¬(n:Int)<2:=by omega
 go_enter func182,ntmps182;go_wp2_with fail;go_loopw [5] (λi wr=>∃b:Nat,b<=n/\1<=b/\i=int i64 b/\PH (Below w.heap.size w wr)) (λi _=>n-(intOf i).toNat)
 case atStart=>exact⟨1,by omega,by omega,rfl,q⟩
 case round=>
  clear q;obtain⟨b,R,S,rfl,f⟩:=hrel;by_cases D:b<n
  ·have U:(b:Int)<(n:Int):=by omega
   have V:(1:Int)<=(b:Int):=(by omega);obtain⟨d,j⟩:∃d,d=b-1:=⟨_,rfl⟩;have W:IntKind.i64.wrap ((b:Int)-1)=(d:Int):=(by rw[IntKind.wrap_i64];omega);have Y:(d:Int)<(n:Int):=(by omega);have x:=ae ((rS 8 _).new z.o f.o);obtain⟨aa,o,a3,c3,rfl,-,r,-⟩:=jg x.o m.o D;obtain⟨b',o',a4,c4,e,-,t,-⟩:=jg (i:=d) x.o m.o (by omega);injection e with e;injection e with E G _;subst E G;have g:=A.o d (by rw[m.o];omega);rw[show d+1=b by omega] at g;have y:=ae λI J w=>Mx K H Z (L.getD b lq) (L.getD d lq) I J w g;have r:=ae r;have t:=ae t;clear g j;generalize L.getD b lq=ab at*;generalize L.getD d lq=ac at*;unfold ek at y;go_upto_region 6 with fail;refine bL (by kernel_rfl) (by kernel_rfl) ?_
   iterate 11 (
    with_reducible refine wpQuiet_step (λI g=> ?_)
    go_simp
    first
    | refine g _ ?_
    | refine⟨_,λ_ _=>rfl,g _ ?_⟩
    | (apply Exists.intro
       refine⟨λk j=> ?_,g _ ?_⟩
       ·obtain⟨ad,ag,ai,ak,al,am,an,ao⟩:=(r.o.below j).c
        obtain⟨ap,aq,ar,au,av,aw,ax,ay⟩:=(t.o.below j).c
        first
        | (go_simp
           first | exact rfl | exact⟨rfl,rfl⟩)
        | (go_at_call 183
           refine(y.o _ _ k).mono ?_;rintro aA J ⟨rfl,M⟩;exact⟨rfl,j.trans (M.mono j.size)⟩))
    clear g I)
   with_reducible refine wpQuiet_nil ?_
   intro J g;have I:=ae (f.o.trans (g.mono f.o.size));clear g;go_wp2_with fail;go_roundw
   case rel=>exact⟨b+1,by omega,by omega,by go_num,I⟩
   case measure=>simp[intOf];omega
  ·obtain rfl:b=n:=by omega
   go_wp2_with fail;go_ret;exact⟨rfl,f.o⟩
theorem Jj:(prog.info? 178).map (λa=>(a.zero,a.size,a.bytes))=some (some (.agg #[int i64 0,int i64 0,int i64 0,int i64 0,int i64 0,int i64 0,.int .u32 0,slice none 0 0]),8,80):=by kernel_rfl
section
variable {B:Nat}
end
section
variable {B:Nat}
def Ha(e:cN)(r:cJ):Prop:=e.obj=r.o/\r.b<e.tries.length/\r.t=ia r.o r.b (e.tries.getD r.b 0)/\r.o<=16777215/\e.tries.getD r.b 0<=16/\r.b<8
theorem Dv(K H Z e f:Nat)(r:cJ)(nm:ByteArray)(T:PI)(v:Value)(c:PK)(b d:Nat)(F:Nat->Prop)(w:World)(x:Blk w f 178 (ek K H Z r v))(y:(rI T).ok w F [slice c b d])(z:T.length=b)(D:Ha ⟨nm,r.o,e,T⟩ r):
 Calls prog 246 (#[.agg (d9 ⟨nm,r.o,e,T⟩ (slice c b d))]++#[pointer (some ⟨f,0,none⟩)]) w λa g=>a=returned (bool true)/\Below w.heap.size w g:=by
 show Calls prog 246 #[.agg (d9 ⟨nm,r.o,e,T⟩ (slice c b d)),pointer (some ⟨f,0,none⟩)] w _
 have i:PH (Sx w (w.alloc (cells (d9 ⟨nm,r.o,e,T⟩ (slice c b d)) 65)) [bS w.heap.size 65 (d9 ⟨nm,r.o,e,T⟩ (slice c b d)),bS f 178 (ek K H Z r v),eR F (slice c b d) (rI T)]):=
  ae (((((Sx.nil w).add (eR F (slice c b d) (rI T)) y).add (bS f _ _) x).alloc _).add (bS _ _ _) (Blk.new w _ _))
 obtain⟨m,a,R,E,S⟩:=r;obtain⟨-,U,k,q,t,u⟩:=D;simp only at*;have j:=λw=>kU m a (T.getD a 0) w q (Nat.le_of_lt u) t;rw[show 128*m+16*a+T.getD a 0=E from k.symm] at j;have G:=ae j;have A:=ae z;have I:a<b:=by omega
 have V:(a:Int)<(b:Int):=by omega
 clear j x y k q t u z;unfold ek d9 at*;go_enter func246,ntmps246;generalize j:w.alloc (cells #[.string nm,int i64 m,int i64 e,slice c b d] 65)=J at*;obtain⟨W,Y,q,k,-⟩:=dI (i.o.rep 2 rfl) A.o;injection q with q _ L;subst q L;obtain⟨t,u,rfl,M,C⟩:=k.2 (by omega);have O:J.cell? ⟨t,u+a,none⟩=some (int i64 (T.getD a 0:Nat)):=C a _ (bT (by rw[A.o];exact I));clear k C;generalize T.getD a 0=C at*;go_upto_region 1 with fail
 (try rw[j])
 clear j;refine bL (by kernel_rfl) (by kernel_rfl) ?_
 iterate 30 (
  with_reducible refine wpQuiet_step (λQ j=> ?_)
  go_simp
  first
  | refine j _ ?_
  | refine⟨_,λ_ _=>rfl,j _ ?_⟩
  | (apply Exists.intro
     refine⟨λg k=> ?_,j _ ?_⟩
     ·obtain⟨aa,ab,ac,ad⟩:=eB ((i.o.step k).blk 0 rfl)
      obtain⟨ag,ai,ak,al,am,an,ao,ap⟩:=bY ((i.o.step k).blk 1 rfl);have aq:g.cell? ⟨t,u+a,none⟩=some (int i64 C):=(k.cell (p:=⟨t,u+a,none⟩) M).trans O
      first
      | (go_simp
         first | exact rfl | exact⟨rfl,rfl⟩)
      | (go_at_call 114
         refine(G.o g).mono ?_;rintro r w5 ⟨rfl,rfl⟩;exact⟨rfl,k⟩))
  clear j Q)
 with_reducible refine wpQuiet_nil ?_
 intro w3 j;have Q:=ae (i.o.step j);clear j;go_wp2_with fail;go_ret;exact⟨rfl,Q.o.1⟩
def okRQ(K H Z:Nat)(e:cN)(x:Option cJ×PI):Prop:=
 x.2.length=64/\By x.2/\(∀a,x.1=some a->x.2=cellL 1 (iR a.o a.b a.i K H Z a.t a.d)/\a.d.length=Z/\By a.d/\a.i<=65535/\Ha e a)/\(x.1=none->¬(jf x.2/\x.2.getD 3 0=1))
def fU(X:List (Option cJ×PI)):List PI:=X.map (·.2)
theorem iJ(X:List (Option cJ×PI)):(fU X).length=X.length:=aC _
theorem Hb(X:List (Option cJ×PI)){k:Nat}(a:k<X.length):(fU X).getD k []=(X.getD k (none,[])).2:=by
 unfold fU;rw[af,af,List.getElem?_map,ah a];rfl
def dX(X:List (Option cJ×PI)):List cJ:=X.filterMap (·.1)
theorem Hd{X:List (Option cJ×PI)}{k:Nat}(a:k<X.length):dX (X.take (k+1))=dX (X.take k)++(match (X.getD k (none,[])).1 with | some b=>[b] | none=>[]):=by
 unfold dX;rw[aN a,filterMap_append];congr 1;have c:X.getD k (none,[])=X[k]:=by rw[af,ah a];rfl
 rw[c];cases h:X[k].1 with
 | none=>rw[filterMap_cons_none h];rfl
 | some b=>rw[filterMap_cons_some h];rfl
end
section
variable {B:Nat}
def gq(o b:Nat)(L:List cJ):List (Nat×PI):=(L.filter λa=>a.o == o && a.b == b).map λa=>(a.i,a.d)
theorem vB(o b:Nat)(L M:List cJ):gq o b (L++M)=gq o b L++gq o b M:=by unfold gq;rw[filter_append,aU]
theorem AQ(o b:Nat)(L:List cJ):(gq o b L).length<=L.length:=by unfold gq;rw[aC];exact length_filter_le _ _
def fH(X:Nat->List (Option cJ×PI))(o b:Nat)(L:PI):List (Nat×PI):=(L.map λs=>gq o b (dX (X s))).flatten
theorem GV(X:Nat->List (Option cJ×PI))(o b:Nat)(L:PI)(s:Nat):fH X o b (L++[s])=fH X o b L++gq o b (dX (X s)):=by
 unfold fH;rw[aU,flatten_append];simp
theorem AR{X:Nat->List (Option cJ×PI)}{o b c:Nat}{L:PI}(a:∀s∈L,(dX (X s)).length<=c):(fH X o b L).length<=L.length*c:=by
 induction L with
 | nil=>simp[fH]
 | cons s L d=>
   have g:=d λe f=>a e (mem_cons_of_mem _ f);have f:=a s (mem_cons_self ..);have h:=AQ o b (dX (X s));have e:fH X o b (s :: L)=gq o b (dX (X s))++fH X o b L:=rfl;rw[e,aH,length_cons,Nat.succ_mul];omega
end
theorem J9(p:PI->Bool)(g:FuncId)(y:Array Value)(L:List PI)(F:Nat->Prop)(a:PK)(n c:Nat)(w:World)(m:(rM L).ok w F [slice a n c])(z:L.length=n)(R:n<=1000000)
 (S:∀b w,(callFunc g b).run prog w=.ok (.enter g b) w)(A:∀x∈L,∀W,Below w.heap.size w W->∀q u,Rd W W.heap.size q x.length (bF x)->Calls prog g (#[slice q x.length u]++y) W λd b=>d=returned (bool (p x))/\Below W.heap.size W b):
 Calls prog 151 #[slice a n c,.func (.func g) #[] y] w λd b=>d=returned (int i64 (mE p L))/\Below w.heap.size w b:=by
 have G:=ae m;have e:=ae z;have I:=ae A;have C:=ae (az w.heap.size w);clear m z A;go_enter func151,ntmps151;go_wp2_with fail;go_loopw [8] (λb wr=>∃k:Nat,k<=n/\b=int i64 k/\PH (Below w.heap.size w wr)/\PH (∀b,b<k->p (L.getD b [])=false)) (λb _=>n-(intOf b).toNat)
 case atStart=>exact⟨0,by omega,rfl,C,ae λb h=>absurd h (Nat.not_lt_zero b)⟩
 case round=>
  clear C;obtain⟨k,U,rfl,f,v⟩:=hrel;by_cases i:k<n
  ·have V:(k:Int)<(n:Int):=by omega
   obtain⟨Y,c',d,j,-⟩:=eZ ((rM _).new G.o f.o) e.o;injection d with J _ M;subst J M;obtain⟨aa,o,q,u,rfl,hb,c0,t,-⟩:=j.at i;have D:L.getD k []∈L:=(by rw[af,ah (by rw[e.o];exact i)];exact aQ _);have r:=ae (I.o (L.getD k []) D wr f.o q u t);have E:PH (L.getD k []=L[k]'(by rw[e.o];exact i)):=ae (by rw[af,ah (by rw[e.o];exact i)];rfl);clear t D j;cases hq:p (L.getD k []) with
   | true=>
     rw[hq] at r;have D:=ae hq;clear hq;generalize L.getD k []=x at*
     go_wp2_with (go_at_fn g;refine r.o.mono ?_;rintro d O ⟨rfl,t⟩)
     go_ret
     have d:=tz (p:=p) (l:=L) (k:=k) (by rw[e.o];exact i) (by rw[<-E.o];exact D.o) λb j=>by
      have:=v.o b j
      rwa [af,ah (by rw[e.o];omega)] at this
     rw[d];exact⟨rfl,f.o.trans (t.mono f.o.size)⟩
   | false=>
     rw[hq] at r
     have D:PH (∀b,b<k+1->p (L.getD b [])=false):=ae λb j=>by
      rcases bq b k with h | h
      ·exact v.o b h
      ·obtain rfl:b=k:=by omega
       exact hq
     clear hq E;generalize L.getD k []=x at*
     go_wp2_with (go_at_fn g;refine r.o.mono ?_;rintro d O ⟨rfl,t⟩)
     have Q:=ae (f.o.trans (t.mono f.o.size));clear t;go_roundw
     case rel=>exact⟨k+1,by omega,by go_num,Q,D⟩
     case measure=>simp[intOf];omega
  ·obtain rfl:k=n:=by omega
   go_wp2_with fail;go_ret;refine⟨?_,f.o⟩
   have d:=qB (p:=p) (l:=L) λx m=>by
    obtain⟨b,j,rfl⟩:=bC m;have:=v.o b (by rw[<-e.o];exact j)
    rwa [af,ah j] at this
   rw[d];rfl
theorem Ka(p:PI->Bool)(g:FuncId)(d:Array Value)(L:List PI)(F:Nat->Prop)(a:PK)(n c:Nat)(w:World)(f:(rM L).ok w F [slice a n c])(k:L.length=n)(m:n<=1000000)
 (q:∀b w,(callFunc g b).run prog w=.ok (.enter g b) w)(i:∀x∈L,∀W,Below w.heap.size w W->∀b e,Rd W W.heap.size b x.length (bF x)->Calls prog g (#[slice b x.length e]++d) W λb e=>b=returned (bool (p x))/\Below W.heap.size W e):
 Calls prog 92 #[slice a n c,.func (.func g) #[] d] w λb e=>b=returned (bool (L.any p))/\Below w.heap.size w e:=by
 have e:=ae (J9 p g d L F a n c w f k m q i);rw[<-uX];clear f i;generalize mE p L=t at*;go_enter func92,ntmps92;go_wp2_with fail;refine e.o.mono ?_;rintro b u ⟨rfl,j⟩;have r:=ae j;clear j e;go_wp2_with fail;go_ret;exact⟨rfl,r.o⟩
theorem Db(x y:PI)(a b:PK)(n c m e d:Nat)(w:World)(f:Rd w w.heap.size a n (bF x))(g:Rd w w.heap.size b m (bF y))(i:Blk w d 30 #[slice b m e])(k:By x)(q:By y):
 Calls prog 93 (#[slice a n c]++#[pointer (some ⟨d,0,none⟩)]) w λj r=>j=returned (bool (decide (x=y)))/\Below w.heap.size w r:=by
 show Calls prog 93 #[slice a n c,pointer (some ⟨d,0,none⟩)] w _;have r:=ae (j4 x y _ _ a b n m c e w f g k q);have u:=i.cell 0;have t:=ae (az w.heap.size w);generalize decide (x=y)=v at*;clear f g i;go_enter func93,ntmps93;go_wp2_with fail;refine r.o.mono ?_;rintro j z ⟨rfl,rfl⟩;go_wp2_with fail;go_ret;exact⟨rfl,t.o⟩
section
variable {B:Nat}
end
section
variable {B:Nat}
theorem Ch(m:cQ)(f a:PK)(c g d b z p D:Nat)(F:Nat->Prop)(R:List PI)(o:Option Nat)(w:World)(h:DrR w z p D R o)(u:(rI m.drives).ok w F [slice f c g])(S:m.drives.length=c)(v:(rS 4 (m.objs.map bQ)).ok w F [slice a d b])(U:m.objs.length=d)(V:il m)
 (E:jV m)(W:∀r∈R,r.length=64/\By r)(hn:R.length<=1000)(ad:∀p∈bJ m,p∈R):
 Calls prog 45 #[pointer (some ⟨z,0,none⟩),.agg (bV m (slice f c g) (slice a d b))] w λA e=>A=returned (bool true)/\Below w.heap.size w e:=by
 have j:=(az w.heap.size w).alloc (aj _) (cells (bV m (slice f c g) (slice a d b)) 68);have k:=ae (Blk.new w 68 (bV m (slice f c g) (slice a d b)));have q:=ae j;have C:=ae λ(e:World) (t:Below w.heap.size w e)=>h.below t;have O:=ae λ(e:World) (t:Below w.heap.size w e)=>(rI _).new u t;have Q:=ae λ(e:World) (t:Below w.heap.size w e)=>(rS 4 _).new v t;have L:=ae λ(w:World) (u:(rI m.drives).ok w F [slice f c g]) (v:(rS 4 (m.objs.map bQ)).ok w F [slice a d b])=>uM m f a c g d b F w u S v U V;have ab:=ae λ(w:World) (u:(rI m.drives).ok w F [slice f c g]) (v:(rS 4 (m.objs.map bQ)).ok w F [slice a d b])=>nC m f a c g d b F w u S v U V E
 have M:=ae λ(w:World) (h:DrR w z p D R o) (W:∀r∈R,r.length=64/\By r) (hn:R.length<=1000)=>show ∃G Y,DrB w z p D G Y/\(rM R).ok w Any [G] from by
  obtain⟨G,Y,h1,h2,_⟩:=h;exact⟨G,Y,h1,h2.repAny⟩
 have I:=ae W;have HN:=ae hn;have aA:=ae ad;have a3:=ae E;have aB:=ae (jo E);clear h u S v U V E W ad j;unfold bV at*;have aD:PH (∀p∈bJ m,p.length=64):=ae λp e=>by obtain⟨i,_,rfl⟩:=aY.1 e;exact jK m i
 have aE:PH ((bJ m).length<=1000):=ae (by rw[eM];have:=aB.o;omega);generalize bJ m=x at*;go_enter func45,ntmps45;go_upto_region 1 with fail;generalize w.alloc (cells #[int i64 m.seq,int i64 m.next,int i64 m.K,int i64 m.H,int i64 m.Z,int i64 m.extra,slice f c g,slice a d b] 68)=J at*;obtain⟨x0,x1,x2,x3,x4,x5,x6,x7⟩:=bY k.o;have a4:PH (w.heap.size<J.heap.size):=ae k.o.lt;go_wp2_with fail;refine(L.o J (O.o J q.o) (Q.o J q.o)).mono ?_;rintro A w1 ⟨rfl,e⟩;have t:=ae (q.o.trans (e.mono q.o.size));have y:=ae (k.o.below e k.o.lt);clear e L x0 x1 x2 x3 x4 x5 x6 x7 k q;obtain⟨v1,aF,e,q⟩:=M.o w1 (C.o w1 t.o) I.o HN.o;have CD:=ae (Ju z p D aF v1 R Any w1 e q HN.o (λk hx=>by have:=(I.o k hx).1;omega));clear e q M C;go_wp2_with fail;refine CD.o.mono ?_;rintro A L ⟨vl,rfl,q,C⟩;obtain⟨al,cl,rfl,-⟩:=q.val;rw[aC] at q ⊢;have ac:PH ((rM R).ok L Any [slice al R.length cl]):=ae q.repAny;have e:=ae (t.o.trans (C.mono t.o.size));have ag:=ae (y.o.below C y.o.lt);clear q C CD y t;obtain⟨x0,x1,x2,x3,x4,x5,x6,x7⟩:=bY ag.o;go_wp2_with fail;refine(ab.o L (O.o L e.o) (Q.o L e.o)).mono ?_;rintro A C ⟨vp,rfl,t,aa⟩;obtain⟨ap,cp,rfl,-⟩:=t.val;rw[aC] at t ⊢;have ai:PH ((rM x).ok C Any [slice ap x.length cp]):=ae t.repAny;have aK:=ae ((rM _).new ac.o aa);have y:=ae (e.o.trans (aa.mono e.o.size));obtain⟨q,M⟩:∃q,x.length=q:=⟨_,rfl⟩;rw[M] at ai ⊢;have ak:=ae M;have a5:q<=1000:=by rw[<-M];exact aE.o
 have am:=ae (az C.heap.size C);clear aa ab ag ac e x0 x1 x2 x3 x4 x5 x6 x7 O Q t M;go_wp2_with fail;go_loopw [16] (λi wr=>∃e:Nat,e<=q/\i=int i64 e/\PH (Below C.heap.size C wr)) (λi _=>q-(intOf i).toNat)
 case atStart=>exact⟨0,by omega,rfl,am⟩
 case round=>
  clear am;obtain⟨e,a6,rfl,t⟩:=hrel;by_cases ag:e<q
  ·have a7:(e:Int)<(q:Int):=by omega
   obtain⟨ar,cr,er,an,-⟩:=eZ ((rM _).new ai.o t.o) ak.o;injection er with aL _ aM;subst aL aM;obtain⟨bx,ox,M,O,rfl,aO,ao,aa,aR,aS,a8⟩:=an.at (i:=e) ag;have ab:x.getD e []∈x:=(by rw[af,ah (by rw[ak.o];exact ag)];exact aQ _);have aq:=aD.o _ ab;have ac:=aA.o _ ab;have au:=(I.o _ ac).2;generalize x.getD e []=Q at*;rw[aq] at ao aa aS;have aT:=ae ac;have aV:=ae au;have j:=(az wr.heap.size wr).alloc (aj _) (cells #[slice M 64 O] 30);have av:=ae (Blk.new wr 30 #[slice M 64 O]);have aX:=ae (aa.below j (aj _));have a0:=ae ((rM _).new ((rM _).new aK.o t.o) j);have a9:=ae ((y.o.trans (t.o.mono y.o.size)).trans (j.mono (y.o.trans (t.o.mono y.o.size)).size));have aw:=ae (t.o.trans (j.mono t.o.size));have ay:=ae j.size;clear j an aa aR ab ac au aq;go_upto_region 7 with fail;clear ao aO;generalize wr.alloc (cells #[slice M 64 O] 30)=w4 at*
   have CA:=ae (Ka (λk=>decide (k=Q)) 93 #[pointer (some ⟨wr.heap.size,0,none⟩)] R Any al R.length cl w4 a0.o rfl (by have:=HN.o;omega) (enters_of func93 (by kernel_rfl) rfl) (λk hx aa hW a b hr=>
    Db k Q a M k.length b 64 O wr.heap.size aa hr ((aX.o.below hW ay.o).more (aP ay.o hW.size)) (av.o.below hW av.o.lt) (I.o k hx).2 aV.o))
   rw[show(R.any λk=>decide (k=Q))=true from any_eq_true.2 ⟨Q,aT.o,by simp⟩] at CA;go_wp2_with fail;refine CA.o.mono ?_;rintro A w5 ⟨rfl,k⟩;have aa:=ae (aw.o.trans (k.mono aw.o.size));clear k CA;go_wp2_with fail;go_roundw
   case rel=>exact⟨e+1,by omega,by go_num,aa⟩
   case measure=>simp[intOf];omega
  ·obtain rfl:e=q:=by omega
   go_wp2_with fail;go_ret;exact⟨rfl,y.o.trans (t.o.mono y.o.size)⟩
def El(m:cQ)(R:List PI):Prop:=(∀a∈R,a.length=64/\By a)/\R.length<=1000/\∀p∈bJ m,p∈R
theorem JA(x g d:Nat)(f:Fl)(m:cQ)(R:Nat->List PI)(w:World)(h:Stq B w g f m R)(hs:Blk w d 60 #[pointer (some ⟨g,0,none⟩)])(i:x<f.n/\f.Z x=false)(y:il m)(z:jV m)(j:El m (R x)):
 Calls prog 169 (#[int i64 x]++#[pointer (some ⟨d,0,none⟩)]) w λb c=>b=returned (bool true)/\Below w.heap.size w c:=by
 show Calls prog 169 #[int i64 x,pointer (some ⟨d,0,none⟩)] w _;have A:PH (Sx w w [bS d 60 #[pointer (some ⟨g,0,none⟩)],jW B g f m R]):=ae (((Sx.nil w).add (jW B g f m R) h).add (bS d _ _) hs);have Q:=h.n0.2;obtain⟨-,⟨S,U,C,r,k⟩,J,-⟩:=h;obtain⟨D,E,rfl,-⟩:=dI r rfl;obtain⟨F,t,G,rfl⟩:=kO k
 have I:m.objs.length=t:=by
  obtain⟨V,W,Y,u,_,_,_,L,_⟩:=k;injection u with u _;injection u with _ e2 _;rw[aC] at L;omega
 have q:=ae C
 have M:PH (∀a,Below w.heap.size w a->Calls prog 45 #[pointer (some ⟨f.D x,0,none⟩),.agg #[int i64 m.seq,int i64 m.next,int i64 m.K,int i64 m.H,int i64 m.Z,int i64 m.extra,slice D m.drives.length E,slice F t G]] a λb c=>b=returned (bool true)/\Below a.heap.size a c):=ae λa e=>by
  obtain⟨-,⟨o,v,-⟩,-⟩:=((A.o.step e).stq 1 rfl).drs;rcases v x i.1 with⟨b,-⟩ | ⟨-,v⟩
  ·rw[i.2] at b;cases b
  ·exact Ch m D F _ E t G (f.D x) f.p (f.room x) (Fu w) (R x) (o x) a v.r ((rI _).new r e) rfl ((rS 4 _).new k e) I y z j.1 j.2.1 j.2.2
 have O:PH (∀a,Below w.heap.size w a->a.cell? ⟨g,10+x,none⟩=some (pointer (some ⟨f.D x,0,none⟩))):=ae λa e=>(Blk.cell (Blk.below q.o e (Blk.lt q.o)) (10+x)).trans (by rw[qG _ _ _ _ _ (by omega),yT f i.1]);have aa:x<64:=by omega
 have ab:(x:Int)<64:=by omega
 generalize f.D x=dx at*;clear hs r k C I y z j J i;go_enter func169,ntmps169;go_upto_region 1 with fail;refine bL (by kernel_rfl) (by kernel_rfl) ?_
 iterate 12 (
  with_reducible refine wpQuiet_step (λk e=> ?_)
  go_simp
  first
  | refine e _ ?_
  | refine⟨_,λ_ _=>rfl,e _ ?_⟩
  | (apply Exists.intro
     refine⟨λc a=> ?_,e _ ?_⟩
     ·have C:=((A.o.step a).blk 0 rfl).cell 0
      obtain⟨I,J,ac,ad,ag,ai,ak,al,-⟩:=fS (Blk.below q.o a (Blk.lt q.o));have am:=O.o c a
      first
      | (go_simp
         first | exact rfl | exact⟨rfl,rfl⟩)
      | (go_at_call 45
         refine(M.o c a).mono ?_;rintro an w5 ⟨rfl,r⟩;exact⟨rfl,a.trans (r.mono a.size)⟩))
  clear e k)
 with_reducible refine wpQuiet_nil ?_
 intro r e;have k:=ae e;clear e;go_wp2_with fail;go_ret;exact⟨rfl,k.o⟩
theorem Mh(g:Nat)(f:Fl)(m:cQ)(R:Nat->List PI)(w:World)(h:Stq B w g f m R)(r:il m)(t:jV m)(u:∀s∈bI f,El m (R s))(d:0<(bI f).length):
 Calls prog 112 #[pointer (some ⟨g,0,none⟩)] w λe a=>e=returned (bool true)/\Below w.heap.size w a:=by
 have i:=(az w.heap.size w).alloc (aj _) (cells #[pointer (some ⟨g,0,none⟩)] 60);have b:=ae (Blk.new w 60 #[pointer (some ⟨g,0,none⟩)]);have j:=ae (h.below i);have v:=ae i;have x:=nG h.n0.2;have y:=ae λw (h:Stq B w g f m R)=>vq g f m R w h
 have k:=ae λ(a:World) (z:PK) (q C:Nat) (c:Rd a a.heap.size z q (bH (bI f))) (D:q<=64) (h:Stq B a g f m R) (A:Blk a w.heap.size 60 #[pointer (some ⟨g,0,none⟩)])=>yN (λ_=>true) 169 #[pointer (some ⟨w.heap.size,0,none⟩)] (bI f) a.heap.size z q C a c (aj _) (by omega) (enters_of func169 (by kernel_rfl) rfl) (λa c z q=>
  JA a g w.heap.size f m R z (h.below q) (A.below q A.lt) (gZ c) r t (u a c))
 have q:((bI f).any λ_=>true)=true:=by
  cases he:bI f with
  | nil=>rw[he] at d;simp at d
  | cons a l=>rfl
 rw[q] at k;obtain⟨c,a⟩:∃c,(bI f).length=c:=⟨_,rfl⟩;have C:=ae a;rw[a] at x;clear h r t u i q d a;go_enter func112,ntmps112;go_upto_region 1 with fail;generalize w.alloc (cells #[pointer (some ⟨g,0,none⟩)] 60)=D at*;have E:=b.o.cell 0;go_wp2_with fail;refine(y.o D j.o).mono ?_;rintro e F ⟨L,rfl,i,a⟩;obtain⟨G,I,J,q,-⟩:=dI (gH i) C.o;subst J;have z:=ae (k.o F G c I q x (j.o.below a) (b.o.below a b.o.lt));have A:=ae (v.o.trans (a.mono v.o.size));clear i a q k y j b E;go_wp2_with fail;refine z.o.mono ?_;rintro e i ⟨rfl,a⟩;have b:=ae (A.o.trans (a.mono A.o.size));clear a z;go_wp2_with fail;go_ret;exact⟨rfl,b.o⟩
end
section
variable {B:Nat}
end
section
variable {B:Nat}
end
def kJ(K H Z:Nat)(r:cJ):PI:=cellL 1 (iR r.o r.b r.i K H Z r.t r.d)
def Bn(N:Nat)(a:PI)(s:Nat):PI:=(range N).filter λb=>a.getD (b%a.length) 0 == s
theorem Jg{L:List cJ}(d:L.Pairwise Io):ou L:=λa b=>by
 have c:a<L.length:=by omega
 rw[af,af,ah c,ah b];exact pairwise_iff_getElem.1 d a (a+1) c b (by omega)
theorem OG{a:PI}(f:a.Nodup)(k:2<=a.length)(i s:Nat)(b:a.getD (i%a.length) 0=s):a.getD ((i+1)%a.length) 0≠s:=by
 intro c;have g:i%a.length<a.length:=Nat.mod_lt _ (by omega);have h:(i+1)%a.length<a.length:=Nat.mod_lt _ (by omega);rw[af,ah g] at b;rw[af,ah h] at c;have d:=(getElem_inj f).1 ((show a[i%a.length]=s from b).trans (show a[(i+1)%a.length]=s from c).symm);rcases bq (i%a.length+1) a.length with e | e
 ·rw[Nat.add_mod,Nat.mod_eq_of_lt (show 1<a.length by omega),Nat.mod_eq_of_lt e] at d
  omega
 ·have j:i%a.length+1=a.length:=by omega
  rw[Nat.add_mod,Nat.mod_eq_of_lt (show 1<a.length by omega),j,Nat.mod_self] at d;omega
theorem Mb{a:PI}(c:a.Nodup)(d:2<=a.length)(s:Nat):∀k,(Bn (2*k) a s).length<=k:=by
 intro k
 induction k with
 | zero=>simp[Bn]
 | succ k e=>
   have f:range (2*(k+1))=range (2*k)++[2*k,2*k+1]:=(by rw[show 2*(k+1)=2*k+1+1 by omega,range_succ,range_succ,append_assoc];rfl);unfold Bn at e ⊢;rw[f,filter_append,aH]
   have h:([2*k,2*k+1].filter λb=>a.getD (b%a.length) 0 == s).length<=1:=by
    by_cases b:a.getD (2*k%a.length) 0=s
    ·have g:=OG c d (2*k) s b
     rw[filter_cons_of_pos (by simpa using b),filter_cons_of_neg (by simpa using g)];simp
    ·rw[filter_cons_of_neg (by simpa using b)]
     exact length_filter_le _ [2*k+1]
   omega
theorem on_le{a:PI}(b:a.Nodup)(c:2<=a.length)(s N:Nat):(Bn N a s).length<=(N+1)/2:=by
 have d:=Mb b c s ((N+1)/2)
 have e:(Bn N a s).length<=(Bn (2*((N+1)/2)) a s).length:=by
  unfold Bn;exact(List.Sublist.filter _ (range_sublist.2 (by omega))).length_le
 omega
theorem FR{K H Z:Nat}{e:cN}{m:cQ}(b:jV m){i:Nat}(j:i<uY (eF m).length):okRQ K H Z e (none,kR m i)/\By (kR m i):=by
 have k:=jo b
 have h:By (bU m.seq 4++[i,uY (eF m).length,(((eF m).drop (48*i)).take 48).length]++((eF m).drop (48*i)).take 48):=by
  intro c a;rcases bz.1 a with a | a
  ·rcases bz.1 a with a | a
   ·exact eY _ _ c a
   ·have d:(((eF m).drop (48*i)).take 48).length<=48:=by rw[aG];omega
    simp only[mem_cons,not_mem_nil,or_false] at a;rcases a with rfl | rfl | rfl <;> omega
  ·exact b.2.2 c (mem_of_mem_drop (bD a))
 have f:By (kR m i):=EM (by decide) h;refine⟨⟨jK m i,f,λq g=>(by cases g),λ_ g=> ?_⟩,f⟩;have d:(kR m i).getD 3 0=2:=rfl;rw[d] at g;exact absurd g.2 (by decide)
section
variable {B:Nat}
end
section
variable {B:Nat}
end
section
variable {B:Nat}
end
section
variable {B:Nat}
section
variable {K H Z ex N nb n:Nat} {nm:ByteArray} {T l:PI} {ords:Nat->PI}
end
end
section
variable {B:Nat}
def df(s o K H Z ex n:Nat)(es:List cN):cQ:=⟨s,o,K,H,Z,ex,range n,es⟩
end
section
def DK(o K H Z:Nat)(T l:PI)(b id:Nat):cJ:=⟨o,b,id,lj o T b,gN K H Z (lj o T b:Nat) (nR K H Z o T l b) id⟩
def ky(o K H Z ex:Nat)(T l:PI)(ords:Nat->PI)(nb s:Nat):List cJ:=((range nb).map λa=>(Bn (K+ex) (ords a) s).map (DK o K H Z T l a)).flatten
theorem rK(o K H Z ex:Nat)(T l:PI)(ords:Nat->PI)(nb s:Nat):eu (dU K H Z ex o T l ords nb) s=(ky o K H Z ex T l ords nb s).map (kJ K H Z):=by
 induction nb with
 | zero=>rfl
 | succ nb a=>
   have b:ky o K H Z ex T l ords (nb+1) s=ky o K H Z ex T l ords nb s++(Bn (K+ex) (ords nb) s).map (DK o K H Z T l nb):=by
    unfold ky;rw[range_succ,aU,flatten_append];simp
   rw[oO,kY,a,b,aU];congr 1;unfold eu JG Bn;rw[filter_map,map_map,map_map];rfl
theorem NB(o K H Z ex:Nat)(T l:PI)(ords:Nat->PI)(nb s:Nat):(ky o K H Z ex T l ords nb s).Pairwise Io:=by
 unfold ky;rw[pairwise_flatten];refine⟨λf a=> ?_,?_⟩
 ·obtain⟨b,_,rfl⟩:=aY.1 a
  rw[pairwise_map];unfold Bn;refine List.Pairwise.filter _ (List.Pairwise.imp ?_ pairwise_lt_range);intro d e c;exact .inr ⟨rfl,.inr ⟨rfl,c⟩⟩
 ·rw[pairwise_map]
  refine List.Pairwise.imp ?_ pairwise_lt_range;intro b g c h d i e;obtain⟨_,_,rfl⟩:=aY.1 d;obtain⟨_,_,rfl⟩:=aY.1 e;exact .inr ⟨rfl,.inl c⟩
theorem KX{o K H Z ex nb:Nat}{T l:PI}{ords:Nat->PI}(a:∀b,b<nb->(ords b).Nodup/\2<=(ords b).length)(s:Nat):(ky o K H Z ex T l ords nb s).length<=nb*((K+ex+1)/2):=by
 induction nb with
 | zero=>simp[ky]
 | succ nb c=>
   have d:ky o K H Z ex T l ords (nb+1) s=ky o K H Z ex T l ords nb s++(Bn (K+ex) (ords nb) s).map (DK o K H Z T l nb):=by
    unfold ky;rw[range_succ,aU,flatten_append];simp
   have e:=c λb f=>a b (by omega);have f:=on_le (a nb (by omega)).1 (a nb (by omega)).2 s (K+ex);rw[d,aH,aC,Nat.succ_mul];omega
theorem KY{o K H Z ex nb b s:Nat}{T l:PI}{ords:Nat->PI}(q:b<nb):gq o b (ky o K H Z ex T l ords nb s)=(Bn (K+ex) (ords b) s).map λa=>(a,gN K H Z (lj o T b:Nat) (nR K H Z o T l b) a):=by
 induction nb with
 | zero=>omega
 | succ nb g=>
   have h:ky o K H Z ex T l ords (nb+1) s=ky o K H Z ex T l ords nb s++(Bn (K+ex) (ords nb) s).map (DK o K H Z T l nb):=by
    unfold ky;rw[range_succ,aU,flatten_append];simp
   rw[h,vB];by_cases i:b=nb
   ·subst i
    have d:gq o b (ky o K H Z ex T l ords b s)=[]:=by
     unfold gq ky;rw[map_eq_nil_iff,filter_eq_nil_iff];intro e c;obtain⟨r,j,k⟩:=mem_flatten.1 c;obtain⟨m,f,rfl⟩:=aY.1 j;have f:=bA.1 f;obtain⟨a,_,rfl⟩:=aY.1 k;show ¬(o == o && m == b)=true;simp;omega
    rw[d,nil_append];unfold gq;rw[filter_eq_self.2 (λe c=>by obtain⟨a,_,rfl⟩:=aY.1 c;simp[DK]),map_map];rfl
   ·rw[g (by omega)]
    have d:gq o b ((Bn (K+ex) (ords nb) s).map (DK o K H Z T l nb))=[]:=by
     unfold gq;rw[map_eq_nil_iff,filter_eq_nil_iff];intro e c;obtain⟨a,_,rfl⟩:=aY.1 c;show ¬(o == o && nb == b)=true;simp;omega
    rw[d,append_nil]
theorem Bc{o K H Z ex nb s:Nat}{T l:PI}{ords:Nat->PI}{r:cJ}(a:r∈ky o K H Z ex T l ords nb s):∃b id,b<nb/\id<K+ex/\r=DK o K H Z T l b id:=by
 obtain⟨g,c,d⟩:=mem_flatten.1 a;obtain⟨b,e,rfl⟩:=aY.1 c;obtain⟨id,f,rfl⟩:=aY.1 d;exact⟨b,id,bA.1 e,bA.1 (mem_filter.1 f).1,rfl⟩
section
theorem filter_all{α:Type}{f:α->Bool}{l:List α}(a:∀x∈l,f x=true):l.filter f=l:=filter_eq_self.2 a
theorem sw{α:Type}{f:α->Bool}{l:List α}(a:∀x∈l,f x=false):l.filter f=[]:=filter_eq_nil_iff.2 λx b=>by rw[a x b];decide
end
end
section
variable {B:Nat}
theorem Gb(K H Z b c a:Nat)(r:cJ)(nm:ByteArray)(T:PI)(v:Value)(d:PK)(e f:Nat)(w:World)(k:Blk w c 178 (ek K H Z r v))(m:a≠r.o):
 Calls prog 246 (#[.agg (d9 ⟨nm,a,b,T⟩ (slice d e f))]++#[pointer (some ⟨c,0,none⟩)]) w λg q=>g=returned (bool false)/\Below w.heap.size w q:=by
 show Calls prog 246 #[.agg (d9 ⟨nm,a,b,T⟩ (slice d e f)),pointer (some ⟨c,0,none⟩)] w _
 have i:PH (Sx w (w.alloc (cells (d9 ⟨nm,a,b,T⟩ (slice d e f)) 65)) [bS w.heap.size 65 (d9 ⟨nm,a,b,T⟩ (slice d e f)),bS c 178 (ek K H Z r v)]):=
  ae ((((Sx.nil w).add (bS c _ _) k).alloc _).add (bS _ _ _) (Blk.new w _ _))
 obtain⟨j,x,y,z,A⟩:=r;simp only at*;have C:¬(a:Int)=(j:Int):=by omega
 have D:¬a=j:=m;have E:((a:Int) == (j:Int))=false:=by rw[beq_eq_false_iff_ne];omega
 clear k m;unfold ek d9 at*;go_enter func246,ntmps246;generalize g:w.alloc (cells #[.string nm,int i64 a,int i64 b,slice d e f] 65)=F at*;go_upto_region 1 with fail
 (try rw[g])
 clear g;refine bL (by kernel_rfl) (by kernel_rfl) ?_
 iterate 30 (
  with_reducible refine wpQuiet_step (λu g=> ?_)
  go_simp
  first
  | refine g _ ?_
  | refine⟨_,λ_ _=>rfl,g _ ?_⟩
  | (apply Exists.intro
     refine⟨λq t=> ?_,g _ ?_⟩
     ·obtain⟨G,I,J,L⟩:=eB ((i.o.step t).blk 0 rfl)
      obtain⟨M,O,Q,R,S,U,V,W⟩:=bY ((i.o.step t).blk 1 rfl)
      first
      | (go_simp
         first | exact rfl | exact⟨rfl,rfl⟩)
      | (go_at_call 114
         fail))
  clear g u)
 with_reducible refine wpQuiet_nil ?_
 intro G g;have u:=ae (i.o.step g);clear g;go_wp2_with fail;go_ret;exact⟨rfl,u.o.1⟩
end
section
theorem Hw{K H Z:Nat}{s:Int}{ids:PI}(c:fB K H Z=true)(e:dK K H Z s (range K)=true)(f:∀i,i<K->i∈ids)(b:∀i∈ids,i<=65535):dK K H Z s ids=true:=by
 have m:=ba c;have q:=ba e;have g:Wf (K+H) (eP K H Z s (range K)):=mY c λi b=>by have:=bA.1 b;omega
 have d:Wf (K+H) (eP K H Z s ids):=mY c b
 have r:=xX g d λa h=>Spn.sub (λa j=>by
  obtain⟨k,a,rfl⟩:=aY.1 j;refine aY.2 ⟨k,?_,rfl⟩;unfold eP at a ⊢;rcases bz.1 a with a | a
  ·exact mem_append_left _ a
  ·obtain⟨i,b,rfl⟩:=aY.1 a
   exact mem_append_right _ (aY.2 ⟨i,f i (bA.1 b),rfl⟩)) h
 have h:=(kF d).1;exact bf (by omega)
section
end
end
section
structure ObF where
 nm:ByteArray
 o:Nat
 n:Nat
 nb:Nat
 T:PI
 l:PI
 ords:Nat->PI
def ObF.ent(q:ObF):cN:=⟨q.nm,q.o,q.n,q.T⟩
structure PaF where
 K:Nat
 H:Nat
 Z:Nat
 ex:Nat
 N:Nat
 r:Nat
 nms:List ByteArray
structure PaF.OK (P:PaF):Prop where
 hk:fB P.K P.H P.Z=true
 hex:P.ex<=16
 hN:2<=P.N/\P.N<=5
 h6:P.K<=6/\P.ex<=6
 hr:P.r<=24
 hnm:∀nm∈P.nms,jG nm
 h5:P.nms.length<=5
structure ObF.OK (P:PaF) (q:ObF):Prop where
 hnm:q.nm∈P.nms
 hn:q.n<=1000/\q.n<=P.K*P.Z*8
 hnb:ja (P.K*P.Z) q.n=q.nb
 h8:q.nb<=8
 hl:q.l.length=q.n
 hb:By q.l
 hT:zt P.K P.H P.Z q.o q.nb q.T
 ho:∀i,i<q.nb->(q.ords i).Perm (range P.N)
abbrev wW:=List Nat ⊕ cJ
def yf(P:PaF):wW->PI
 | .inl a=>a
 | .inr a=>kJ P.K P.H P.Z a
def zU(P:PaF):wW->Prop
 | .inl a=>a.length=64/\By a/\a.getD 3 0=2
 | .inr a=>a.o<=100000/\a.b<8/\a.i<=65535/\a.t<4294967296/\a.d.length=P.Z/\By a.d
def NZ:wW->Option cJ
 | .inl _=>none
 | .inr a=>some a
def eO(P:PaF)(s o:Nat)(es:List cN):cQ:=df s o P.K P.H P.Z P.ex P.N es
def Bo(ps:List ObF)(r:cJ):Bool:=ps.any λa=>a.o == r.o
def oM(P:PaF)(i:Nat)(q:ObF):List cJ:=ky q.o P.K P.H P.Z P.ex q.T q.l q.ords q.nb i
def jT(P:PaF)(ps:List ObF)(i:Nat):List cJ:=(ps.map (oM P i)).flatten
structure RowsF (P:PaF) (s o:Nat) (ps:List ObF) (es:List cN) (i:Nat) (X:List wW):Prop where
 ok:∀x∈X,zU P x
 pg:∀c∈bJ (eO P s o es),.inl c∈X
 rc:∀r,.inr r∈X->r.o<o
 cu:(X.filterMap NZ).filter (Bo ps)=jT P ps i
 ln:X.length<=P.r
def nZ(es:List cN):Prop:=∀a,a+1<es.length->Op.bytesLess (es.getD a bO).name.toList (es.getD (a+1) bO).name.toList=true
structure InvF (P:PaF) (s o:Nat) (ps:List ObF) (es:List cN) (X:Nat->List wW):Prop where
 hP:P.OK
 hs:1<=s/\s<=60
 ho:o<=60
 hp:∀q∈ps,ObF.OK P q/\q.o<o
 ri:ps.Pairwise fun a b=>a.o<b.o
 pm:es.Perm (ps.map ObF.ent)
 re:nZ es
 hX:∀i,i<P.N->RowsF P s o ps es i (X i)
section
variable {P:PaF} {s o:Nat} {ps:List ObF} {es:List cN} {X:Nat->List wW}
theorem zV{es:List cN}(d:nZ es):es.Pairwise λa b=>a.name.toList<b.name.toList:=by
 have f:∀n b a,b=a+1+n->b<es.length->(es.getD a bO).name.toList<(es.getD b bO).name.toList:=by
  intro n
  induction n with
  | zero=>
    rintro b a rfl c;have:=d a c;rw[bytesLess_eq,decide_eq_true_eq] at this;exact this
  | succ n g=>
    rintro b a rfl c;have h:=g (a+1+n) a rfl (by omega);have e:=d (a+1+n) (by omega);rw[bytesLess_eq,decide_eq_true_eq] at e;exact List.lt_trans h e
 rw[pairwise_iff_getElem];intro a b e c g;have:=f (b-a-1) b a (by omega) c;simpa[af,e,c] using this
theorem InvF.enm(b:InvF P s o ps es X):(es.map cN.name).Nodup:=by
 rw[List.Nodup,pairwise_map];refine(zV b.re).imp ?_;intro d e a c;rw[c] at a;exact List.lt_irrefl _ a
theorem InvF.pnm(a:InvF P s o ps es X):(ps.map ObF.nm).Nodup:=by
 have b:=(a.pm.map cN.name).nodup_iff.1 a.enm
 rwa [map_map] at b
theorem InvF.len5(a:InvF P s o ps es X):ps.length<=5:=by
 have b:=List.Nodup.length_le_of_subset a.pnm (l₂:=P.nms) λd c=>by
  obtain⟨d,e,rfl⟩:=aY.1 c;exact(a.hp d e).1.hnm
 rw[aC] at b;have:=a.hP.h5;omega
theorem InvF.elen(a:InvF P s o ps es X):es.length=ps.length:=by rw[a.pm.length_eq,aC]
theorem InvF.emem(a:InvF P s o ps es X){e:cN}(b:e∈es):∃q∈ps,e=q.ent:=by
 obtain⟨q,c,d⟩:=aY.1 (a.pm.mem_iff.1 b);exact⟨q,c,d.symm⟩
structure OkEs (P:PaF) (o:Nat) (es:List cN):Prop where
 re:nZ es
 nd:(es.map cN.obj).Nodup
 ok:∀e∈es,jG e.name/\e.obj<o/\e.len<=P.K*P.Z*8/\(∀t∈e.tries,t<=15)/\e.tries.length=ja (P.K*P.Z) e.len/\e.tries.length<=8
 l5:es.length<=5
theorem ObF.OK.ent{q:ObF}(a:ObF.OK P q)(e:P.OK):jG q.ent.name/\q.ent.len<=P.K*P.Z*8/\(∀t∈q.ent.tries,t<=15)/\q.ent.tries.length=ja (P.K*P.Z) q.ent.len/\q.ent.tries.length<=8:=by
 refine⟨e.hnm _ a.hnm,a.hn.2,λt f=> ?_,by show q.T.length=ja (P.K*P.Z) q.n;rw[a.hnb];exact a.hT.1,by show q.T.length<=8;rw[a.hT.1];exact a.h8⟩;obtain⟨b,c,rfl⟩:=bC f;have d:=(a.hT.2 b (by rw[<-a.hT.1];exact c)).1;rw[af,ah (show b<q.T.length from c)] at d;have g:q.T[b]<16:=d;show q.T[b]<=15;omega
theorem li(d:P.OK)(e:∀q∈ps,ObF.OK P q/\q.o<o)(f:ps.Pairwise λb c=>b.o<c.o)(a:es.Perm (ps.map ObF.ent))(g:nZ es)(h:ps.length<=5):OkEs P o es:=by
 refine⟨g,?_,λv i=> ?_,by rw[a.length_eq,aC];exact h⟩
 ·rw[(a.map cN.obj).nodup_iff,map_map,List.Nodup,pairwise_map]
  exact f.imp λ{b c} j=>Nat.ne_of_lt j
 ·obtain⟨q,b,rfl⟩:=aY.1 (a.mem_iff.1 i)
  obtain⟨c,j⟩:=e q b;obtain⟨k,m,r,t,u⟩:=c.ent d;exact⟨k,j,m,r,t,u⟩
theorem InvF.okEs(a:InvF P s o ps es X):OkEs P o es:=li a.hP a.hp a.ri a.pm a.re a.len5
theorem OkEs.man(a:OkEs P o es)(d:P.OK)(hs:1<=s/\s<=1000)(r:o<=1000):il (eO P s o es):=by
 have t:=d.hN;refine⟨⟨hs.1,by show s<=2147483647;omega⟩,by show o<=16777216;omega,d.hk,d.hex,⟨uP (by omega),by show(range P.N).length<=64;rw[aZ];omega⟩,by show es.length<=12;have:=a.l5;omega,λh i=> ?_,a.re,λe f j b=> ?_⟩
 ·obtain⟨c,g,k,m,q,-⟩:=a.ok h i
  exact⟨c,g,k,m,q⟩
 ·have b:f<es.length:=b
  have c:=a.nd;rw[List.Nodup,pairwise_map,pairwise_iff_getElem] at c;have g:=c e f (by omega) b j;show(es.getD e bO).obj≠(es.getD f bO).obj;simpa[af,b,show e<es.length by omega] using g
theorem Jt(e:cN):(kx e).length=6+e.name.size+e.tries.length:=by unfold kx;simp[jy,cH];omega
theorem wX:∀ {es:List cN},(∀e∈es,jG e.name/\e.tries.length<=8)->((es.map kx).flatten).length<=es.length*26
 | [],_=>by simp
 | e :: es,h=>by
   have c:=wX (es:=es) λa b=>h a (mem_cons_of_mem _ b);have a:=h e (mem_cons_self ..);have b:=a.1.2.1;rw[map_cons,flatten_cons,aH,Jt,length_cons,Nat.succ_mul];omega
theorem OkEs.pq(d:OkEs P o es)(e:P.OK):jV (eO P s o es)/\(eF (eO P s o es)).length<=150:=by
 have q:=ba e.hk;have r:=e.hN;have t:=Ac (eO P s o es);have u:(eO P s o es).drives.length=P.N:=aZ
 have v:((eO P s o es).objs.map kx).flatten.length<=130:=by
  have w:=wX (es:=es) λc f=>⟨(d.ok c f).1,(d.ok c f).2.2.2.2.2⟩;have x:=d.l5;show((es.map kx).flatten).length<=130;omega
 have i:(eF (eO P s o es)).length<=150:=by omega
 refine⟨⟨by omega,by omega,?_⟩,i⟩;have y:=e.h6;have z:=e.hex;unfold eF;refine iy (iy (iy (iy (iy (eY _ _) (eY _ _)) ?_) (Ad (by omega))) ?_) ?_
 ·intro b a
  simp only[mem_cons,not_mem_nil,or_false] at a;have:(eO P s o es).K=P.K/\(eO P s o es).H=P.H/\(eO P s o es).Z=P.Z/\(eO P s o es).extra=P.ex:=⟨rfl,rfl,rfl,rfl⟩;omega
 ·intro b a
  have c:b=es.length:=mem_singleton.1 a;have:=d.l5;omega
 ·intro b a
  obtain⟨g,j,k⟩:=mem_flatten.1 a;obtain⟨c,f,rfl⟩:=aY.1 j;have h:=d.ok c f;have A:=h.1.2.1
  have m:By (kx c):=by
   unfold kx;refine iy (iy (iy (iy ?_ ?_) (eY _ _)) (eY _ _)) ?_
   ·intro b a
    have:b=c.name.size:=mem_singleton.1 a;omega
   ·intro b a
    obtain⟨g,_,rfl⟩:=aY.1 a;exact g.toNat_lt
   ·intro b a
    have:=h.2.2.2.1 b a;omega
  exact m b k
theorem OkEs.pages(b:OkEs P o es)(c:P.OK):1<=(bJ (eO P s o es)).length/\(bJ (eO P s o es)).length<=4:=by
 have a:=(b.pq (s:=s) c);rw[eM];have d:=a.1.1;have e:=a.2;unfold uY;omega
theorem sW(b:OkEs P o es)(d:P.OK){c:PI}(f:c∈bJ (eO P s o es)):zU P (.inl c):=by
 obtain⟨g,a,rfl⟩:=aY.1 f;have a:=bA.1 a;exact⟨jK _ g,(FR (K:=0) (H:=0) (Z:=0) (e:=⟨.empty,0,0,[]⟩) (b.pq d).1 a).2,rfl⟩
end
end
