import Derived.Test.YtgccllbnfngpcaaGreatDoorW14
set_option linter.unusedVariables false
set_option maxRecDepth 100000
set_option maxHeartbeats 400000000
namespace Go.Proofs.YtgccllbnfngpcaaGreatDoor
open Go.RowKit _root_.Go.Proofs.Tryz List
open Value (int slice pointer bool)
open IntKind (i64)
open Ending (returned)
open Obj (cells)
section
variable {B:Nat}
def QM(K H Z o i t:Nat)(M:List SC)(a:SC)(id:Nat):Nat×SC:=(a.getD (id%a.length) 0,cellL 1 (jw o i id K H Z t (iM K H Z (t:Nat) M id)))
def mJ(o:Nat)(T:SC)(i:Nat):Nat:=iD o i (T.getD i 0)
def qd(K H Z o:Nat)(T l:SC)(i:Nat):List SC:=x9 K H Z (mJ o T i:Nat) (ig (K*Z) l i)
def Mh(K H Z ex o:Nat)(T l a:SC)(i:Nat):List (Nat×SC):=(range (K+ex)).map (QM K H Z o i (mJ o T i) (qd K H Z o T l i) a)
def fG(K H Z ex o:Nat)(T l:SC)(b:Nat->SC)(k:Nat):List (Nat×SC):=((range k).map λa=>Mh K H Z ex o T l (b a) a).flatten
theorem qM(K H Z ex o:Nat)(T l:SC)(a:Nat->SC)(k:Nat):fG K H Z ex o T l a (k+1)=fG K H Z ex o T l a k++Mh K H Z ex o T l (a k) k:=by
 unfold fG;rw[range_succ,aU,flatten_append];simp
theorem yV(K H Z ex o:Nat)(T l:SC)(a:Nat->SC)(k:Nat):(fG K H Z ex o T l a k).length=k*(K+ex):=by
 induction k with
 | zero=>simp[fG]
 | succ k b=>rw[qM,aI,b,Nat.succ_mul];unfold Mh;rw[aG,bg]
theorem Ew{K H Z ex o:Nat}{T l:SC}{a b:Nat->SC}{k:Nat}(c:∀i,i<k->a i=b i):fG K H Z ex o T l a k=fG K H Z ex o T l b k:=by
 unfold fG;congr 1;exact map_congr_left λi d=>by rw[c i (bG.1 d)]
theorem gT{q:Nat}{l:SC}(i:Nat)(c:By l):(ig q l i).length=q/\By (ig q l i):=by
 refine⟨by unfold ig;rw[aI,aJ,aH];omega,λd b=> ?_⟩;unfold ig at b;rcases bF.1 b with a | a
 ·exact c d (mem_of_mem_drop (bI a))
 ·rw[eq_of_mem_replicate a];omega
theorem IZ(m:cZ)(o g:Nat)(f:Fl)(R:Nat->List SC)(nm:ByteArray)(T l:SC)(a ag:SE)(n u c ct:Nat)(w:World)(h:Stq B w g f m R)(W:fQ m.K m.H m.Z=true)(cM:m.extra<=16)(ho:o<=16777215)(hT:zB m.K m.H m.Z o u T)(b9:jl (m.K*m.Z) n=u)(cN:u<=8)(a3:0<(bP f).length)
 (hx:Rd w w.heap.size a n (bK l))(k:By l)(hn:n<=1000)(aR:n<=c/\c<=maxLen)(a4:(rI T).ok w (Fu w) [slice ag u ct]):
 Calls prog 104 #[pointer (some ⟨g,0,none⟩),.agg (fJ ⟨nm,o,n,T⟩ (slice ag u ct)),slice a n c] w λr X=>∃v E,r=returned (.tuple #[v,bool true])/\(∀i,i<u->(E i).Perm (bP f))/\(rS 2 ((fG m.K m.H m.Z m.extra o T l E u).map dG)).ok X (Fu X) [v]/\Below w.heap.size w X:=by
 obtain⟨sq,nx,d,j,e,ex,dr,ob⟩:=m;simp only at*;have hl:l.length=n:=by have:=hx.len;rwa [bL] at this
 have cO:=bn W;have ca:=h.n0.2
 have A:Sz (Sx w (w.alloc (cells (fJ ⟨nm,o,n,T⟩ (slice ag u ct)) 65)) [bY w.heap.size 65 (fJ ⟨nm,o,n,T⟩ (slice ag u ct)),ll B g f ⟨sq,nx,d,j,e,ex,dr,ob⟩ R,mR a n (bK l),eR (Fu w) (slice ag u ct) (rI T)]):=
  ae ((((((Sx.nil w).add (eR (Fu w) (slice ag u ct) (rI T)) a4).add (mR a n (bK l)) hx).add (ll B g f ⟨sq,nx,d,j,e,ex,dr,ob⟩ R) h).alloc _).add (bY _ _ _) (Blk.new w _ _))
 have G:=ae λw (h:Stq B w g f ⟨sq,nx,d,j,e,ex,dr,ob⟩ R)=>xG g f _ R w h;have s:=ae λw (hx:Rd w w.heap.size a n (bK l))=>Ci d j e l a n c w W hx hn aR.1 aR.2;have CD:=ae λ(i z:Nat) (b:i<=8) (t:z<=16) w=>ma o i z w ho b t;have cP:d*e<=16*24:=bC (by omega) (by omega);have t:mO (d*e) l=(range u).map (ig (d*e) l):=by unfold mO;rw[hl,b9]
 rw[t] at s;have cc:=ae λi=>gT (q:=d*e) i k;have cd:Sz (∀i,i<u->MidOK d j e (mJ o T i:Nat) (qd d j e o T l i)):=ae λi b=>(oJ W (gT i k).2 (gT i k).1 (hT.2 i b).2.1).2.1
 have aS:Sz (∀i,i<u->T.getD i 0<16/\mJ o T i<4294967296):=ae λi b=>by
  have:=(hT.2 i b).1;unfold mJ iD;exact⟨this,by omega⟩
 have CE:=ae λ(i:Nat) (b:i<u) a c w (y:Rd w w.heap.size a (d*e) (bK (ig (d*e) l i))) (h1:d*e<=c) (h2:c<=maxLen)=>DY d j e (mJ o T i:Nat) (ig (d*e) l i) a (d*e) c w W (by omega) (by have:=(aS.o i b).2;omega) y (gT i k).2 rfl h1 h2 (hT.2 i b).2.1;have CO:=ae λ(i:Nat) (b:i<8) a q c w F (h:(rI (bP f)).ok w F [slice a q c]) (y:(bP f).length=q)=>Eu o i (bP f) F a q c w h y ho b (Nh ca) (jQ f) (by omega);have HK:=ae W;have a6:=ae hT.1;have ce:(bP f).length<=64:=aP (length_filter_le _ _) (by rw[bg];exact h.n0.2);unfold fJ at*;clear h W hx k a4 t hl aR hT;go_enter func104,ntmps104;go_wp2_with fail;generalize w.alloc (cells #[.string nm,int i64 o,int i64 n,slice ag u ct] 65)=w0 at*;refine(G.o w0 (A.o.stq 1 rfl)).mono ?_;rintro r w1 ⟨v1,rfl,t,H⟩;obtain⟨a1,c1,rfl⟩:=t.lenA;obtain⟨nl,D⟩:∃nl,(bP f).length=nl:=⟨_,rfl⟩;rw[D] at t a3 ce ⊢;have a7:=ae D;have y:=ae ((A.o.step H).add (eR Any (slice a1 nl c1) (rI (bP f))) (Rp.any _ (gM t)));clear t H A G D;obtain⟨-,⟨vd,vo,ao,-⟩,-⟩:=y.o.stq 2 rfl;obtain⟨k0,k1,k2,k3,k4,k5,k6,k7,-⟩:=iB ao;clear ao k0 k1 k5 k6 k7;unfold dO at s CE;go_wp2_with fail;refine(s.o w1 (y.o.rd 3 rfl)).mono ?_;rintro r H ⟨v2,rfl,t,D⟩;have A:((range u).map (ig (d*e) l)).length=u:=by rw[aG,bg]
 have cf:=ae A;obtain⟨a2,c2,rfl,-⟩:=fE t A;have S2:=ae ((y.o.step D).add (eR (Fr w1.heap.size) (slice a2 u c2) (rM ((range u).map (ig (d*e) l)))) t);clear t D y s k2 k3 k4 A;have a9:=ae (aC H.heap.size H);have ba:Sz (∀i,i<0->((λ_:Nat=>([]:SC)) i).Perm (bP f)):=ae λi b=>by omega
 have bb:Sz (∀b,False->Ty 5 H b):=ae λb k=>k.elim;have bc:Sz (OwnS H H.heap.size 165 2 (λ_=>False) (slice none 0 0) ((fG d j e ex o T l (λ_=>[]) 0).map dG)):=ae (OwnS.nil _ _ _ _ _);go_wp2_with fail;go_loopw [9,28] (λv q wr=>∃(i:Nat) (E:Nat->SC) (F:Nat->Prop),i<=u/\q=int i64 i/\Sz (∀y,y<i->(E y).Perm (bP f))/\Sz (∀b,F b->Ty 5 wr b)/\Sz (OwnS wr H.heap.size 165 2 F v ((fG d j e ex o T l E i).map dG))/\Sz (Below H.heap.size H wr)) (λ_ q _=>u-(intOf q).toNat)
 case atStart=>exact⟨0,_,_,by omega,rfl,ba,bb,bc,a9⟩
 case round=>
  clear ba bb bc a9;obtain⟨i,E,F0,cQ,rfl,av,Y,S,HB⟩:=hrel;obtain⟨N,O,P,rfl⟩:=S.o.sl;by_cases ak:i<u
  ·have cR:(i:Int)<(u:Int):=by omega
   have A:=ae (S2.o.step HB.o);obtain⟨cS,cT,r,K,-⟩:=fE (A.o.rep 0 rfl) cf.o;injection r with Z e2 e3;subst Z e3;obtain⟨bx,ox,ax,cx,rfl,cU,D,G,cV,t,cg⟩:=K.at (i:=i) (by omega);have M:((range u).map (ig (d*e) l)).getD i []=ig (d*e) l i:=(by rw[af,List.getElem?_map,List.getElem?_range ak];rfl);rw[M,(cc.o i).1] at D G t;have s:=ae (A.o.add (mR ax (d*e) (bK (ig (d*e) l i))) G);have I:=ae (CE.o i ak);have aw:=ae (cd.o i ak);have ay:=ae (CO.o i (by omega));have cW:Sz (fG d j e ex o T l E i=fG d j e ex o T l E i):=ae rfl;obtain⟨kz,J⟩:∃kz,kz=d*e:=⟨_,rfl⟩;have Q:Sz (x9 d j e (mJ o T i:Nat) (ig kz l i)=qd d j e o T l i):=ae (by rw[J];rfl);rw[<-J] at I s D t;have ch:=ae t;clear G K M J t A;obtain⟨cX,cY,aT,A,-⟩:=dY (s.o.rep 6 rfl) a6.o;injection aT with aT _ ci;subst aT ci;obtain⟨bt,ot,rfl,U,G⟩:=A.2 (by omega);have V:wr.cell? ⟨bt,ot+i,none⟩=some (int i64 (T.getD i 0:Nat)):=G i _ (dh (by rw[a6.o];exact ak));have bd:=ae λw=>CD.o i (T.getD i 0) (by omega) (Nat.le_of_lt (aS.o i ak).1) w;have az:=ae (aS.o i ak).2;have aV:Sz (∀t:SC,Mh d j e ex o T l t i=(range (d+ex)).map (QM d j e o i (mJ o T i) (qd d j e o T l i) t)):=ae λt=>rfl;rw[Q.o] at I;have J:Sz (128*o+16*i+T.getD i 0=mJ o T i):=ae rfl;rw[J.o] at bd;clear A G Q J;generalize T.getD i 0=ti at*;generalize mJ o T i=z at*;generalize qd d j e o T l i=A at*;go_upto_region 6 with fail;clear D;refine dn (by kernel_rfl) (by kernel_rfl) ?_
   iterate 10 (
    with_reducible refine wpQuiet_step (λKq aa=> ?_)
    go_simp
    first
    | refine aa _ ?_
    | refine⟨_,λ_ _=>rfl,aa _ ?_⟩
    | (apply Exists.intro
       refine⟨λX ap=> ?_,aa _ ?_⟩
       ·obtain⟨D,be,al,G⟩:=fO ((s.o.step ap).blk 3 rfl)
        have J:X.cell? ⟨bt,ot+i,none⟩=some (int i64 ti):=(ap.cell (p:=⟨bt,ot+i,none⟩) U).trans V
        first
        | (go_simp
           first | exact rfl | exact⟨rfl,rfl⟩)
        | (go_at_call 114
           refine(bd.o X).mono ?_;rintro bf w5 ⟨rfl,rfl⟩;exact⟨rfl,ap⟩))
    clear aa Kq)
   with_reducible refine wpQuiet_nil ?_
   intro J D;have G:=ae (s.o.step D);have K:=ae (HB.o.trans (D.mono HB.o.size));have M:=ae (S.o.new D);have Q:Sz (∀b,F0 b->Ty 5 J b):=ae λb k=>(Y.o b k).keep (D.block b (Y.o b k).lt);have ad:Sz (∀b,(Value.slice N O P).ownBlock=some b->H.heap.size<=b/\b<J.heap.size):=ae M.o.lt;clear D s V U S Y;have ac:=ae (I.o ax cx J (G.o.rd 0 rfl) ch.o cg);obtain⟨-,⟨c0,c3,ao,-⟩,-⟩:=G.o.stq 4 rfl;obtain⟨k0,k1,k2,k3,k4,k5,k6,k7,-⟩:=iB ao;obtain⟨e0,Z,al,e3⟩:=fO (G.o.blk 3 rfl);clear ao k0 k1 k5 k6 k7 I;go_wp2_with fail;refine ac.o.mono ?_;rintro r w4 ⟨gb,vb,rfl,ai,am,I,s⟩;obtain⟨ab,cb,rfl,-⟩:=fE I aw.o.len;have cj:=ae ai;have ck:=ae s.size;have D:=ae (((G.o.step s).add (eR (Fr J.heap.size) (slice ab (d+j) cb) (rM A)) I).add (bY gb _ _) am);have U:=ae (K.o.trans (s.mono K.o.size));have an:=ae (M.o.new s);have V:Sz (∀b,F0 b->Ty 5 w4 b):=ae λb k=>(Q.o b k).keep (s.block b (Q.o b k).lt);have aq:=ae (ay.o a1 nl c1 w4 Any (D.o.rep 4 rfl) a7.o);clear ai am I s ac G K M Q k2 k3 k4 e0 Z al e3;obtain⟨e0,Z,al,e3⟩:=fO (D.o.blk 5 rfl);go_wp2_with fail;refine aq.o.mono ?_;rintro r w5 ⟨v5,t,rfl,I,G,s⟩;obtain⟨a5,c5,rfl⟩:=G.lenA;have cl:Sz (0<t.length):=ae (by rw[I.length_eq,a7.o];exact a3);have bh:=ae I;have K:=ae ((D.o.step s).add (eR Any (slice a5 t.length c5) (rI t)) (Rp.any _ (gM G)));have M:=ae (U.o.trans (s.mono U.o.size));have am:=ae (an.o.new s);have Q:Sz (∀b,F0 b->Ty 5 w5 b):=ae λb k=>(V.o b k).keep (s.block b (V.o b k).lt);have ar:=ae (gM G);clear G s ay aq D U an V e0 Z al e3 I;obtain⟨ac,hN⟩:∃ac,ac=d+ex:=⟨_,rfl⟩;have D:IntKind.i64.wrap ((d:Int)+(ex:Int))=(ac:Int):=(by rw[IntKind.wrap_i64];omega);have c4:ac<=32:=(by omega);have cm:=ae hN;have cn:Sz ((fG d j e ex o T l E i).length<=1000):=ae (by rw[yV];have:i*(d+ex)<=8*32:=bC (by omega) (by omega);omega);clear hN;generalize s:fG d j e ex o T l E i=ai at*;have aX:=ae s;clear s;go_upto_region 11 with fail;refine dn (by kernel_rfl) (by kernel_rfl) ?_
   iterate 13 (
    with_reducible refine wpQuiet_step (λKq aa=> ?_)
    go_simp
    first
    | refine aa _ ?_
    | refine⟨_,λ_ _=>rfl,aa _ ?_⟩
    | (apply Exists.intro
       refine⟨λX ap=> ?_,aa _ ?_⟩
       ·obtain⟨-,⟨co,cp,aA,-⟩,-⟩:=(K.o.step ap).stq 7 rfl
        obtain⟨aB,aD,bi,bj,bk,aE,aF,aK,-⟩:=iB aA
        first
        | (go_simp
           first | exact rfl | exact⟨rfl,rfl⟩))
    clear aa Kq)
   with_reducible refine wpQuiet_nil ?_
   intro G s;have S7:=ae (K.o.step s);have aL:=ae (M.o.trans (s.mono M.o.size));have bl:Sz (∀b,F0 b->Ty 5 G b):=ae λb k=>(Q.o b k).keep (s.block b (Q.o b k).lt);have bm:Sz (OwnS G H.heap.size 165 2 F0 (slice N O P) ((ai++(range 0).map (QM d j e o i z A t)).map dG)):=ae (by rw[range_zero,map_nil,append_nil];exact am.o.new s);have cq:=ae ((rI _).new ar.o s);have cr:Sz (Blk G gb _ _):=ae (S7.o.blk 1 rfl);have cs:Sz ((rM A).ok G (Fr J.heap.size) [slice ab (d+j) cb]):=ae (S7.o.rep 2 rfl);clear s K M D am Q ar;obtain⟨Q,s⟩:∃Q,Q=(Value.slice N O P).ownBlock:=⟨_,rfl⟩;have aM:Sz (∀b,some b=Q->H.heap.size<=b/\b<J.heap.size):=ae λb k=>ad.o b (by rw[<-s,k]);have bo:Sz (∀b,(Value.slice N O P).ownBlock=some b->some b=Q\/G.heap.size<=b):=ae λb k=>.inl (by rw[s,k]);have bp:Sz (Chg (λb=>some b=Q) G G):=ae (Chg.refl _ _);clear s ad;go_wp2_with fail;go_loopw [9,72] (λv q wr=>∃s:Nat,s<=ac/\q=int i64 s/\∃F:Nat->Prop,Sz (∀b,F b->Ty 5 wr b)/\Sz (OwnS wr H.heap.size 165 2 F v ((ai++(range s).map (QM d j e o i z A t)).map dG))/\Sz (Chg (λb=>some b=Q) G wr)/\Sz (∀b,v.ownBlock=some b->some b=Q\/G.heap.size<=b)) (λ_ q _=>ac-(intOf q).toNat)
   case atStart=>exact⟨0,by omega,rfl,_,bl,bm,bp,bo⟩
   case round=>
    clear bl bm bp bo;obtain⟨s,c6,rfl,F,Y,S,HJ,br⟩:=hrel;obtain⟨N,O,P,rfl⟩:=S.o.sl;have bs:=ae (aL.o.trans (HJ.o.below aL.o.size λy r=>(aM.o y r).1));have D:(rI t).ok wr Any [slice a5 t.length c5]:=(rI _).keep cq.o λb k hl=>⟨HJ.o.block b hl λr=>by have h1:=(aM.o b r).2;have h2:=ck.o;have h3:w4.heap.size<=b:=k;omega,trivial⟩;have I:(rM A).ok wr (Fr J.heap.size) [slice ab (d+j) cb]:=(rM _).keep cs.o λb k hl=>⟨HJ.o.block b hl λr=>by have h1:=(aM.o b r).2;have h3:J.heap.size<=b:=k;omega,k⟩;have K:=Blk.chg cr.o HJ.o λr=>(by have h1:=(aM.o gb r).2;have h2:J.heap.size<=gb:=cj.o;omega);have U:=ae ((((S2.o.step bs.o).add (eR (Fr J.heap.size) (slice ab (d+j) cb) (rM A)) I).add (bY gb _ _) K).add (eR Any (slice a5 t.length c5) (rI t)) D);clear D I K;by_cases c7:s<ac
    ·have c9:(s:Int)<(ac:Int):=by omega
     have CY:=ae λw (D:Blk w gb 269 #[int i64 d,int i64 j,int i64 e,.int .u32 (z:Nat),slice ab (d+j) cb]) (I:(rM A).ok w (Fr J.heap.size) [slice ab (d+j) cb])=>Ah d j e (z:Nat) A gb s ab (d+j) cb (Fr J.heap.size) w HK.o (by have:=az.o;omega) (by have:=az.o;omega) aw.o (by have:=az.o;omega) D I;have bw:=ae (CY.o _ ((U.o.blk 1 rfl).drew) ((rM _).new (U.o.rep 2 rfl) ((aC _ _).drew)));have aq:=ae (kR HK.o aw.o s);have bz:=ae (F9 HK.o aw.o s);obtain⟨-,⟨co,cp,aA,-⟩,-⟩:=U.o.stq 6 rfl;obtain⟨k0,k1,k2,k3,k4,k5,k6,k7,-⟩:=iB aA;obtain⟨e0,Z,al,e3⟩:=fO (U.o.blk 5 rfl);clear aA k0 k1 k5 k6 k7 e0 al e3;go_upto_region 14 with fail;have cu:G.heap.size<=wr.heap.size:=HJ.o.size;go_cut [17] (λv D=>∃G9 K M,v=pointer (some ⟨G9,0,none⟩)/\Sz (Blk D G9 178 #[int i64 o,int i64 i,int i64 s,int i64 d,int i64 j,int i64 e,.int .u32 (z:Nat),slice K e M])/\Sz ((rB (iM d j e (z:Nat) A s)).ok D (λb=>Ty 5 D b) [slice K e M])/\Sz (Below wr.heap.size wr D))
     case first=>
      have D:=((aC wr.heap.size wr).alloc (aj _) (cells #[int i64 0,int i64 0,int i64 0,int i64 0,int i64 0,int i64 0,.int .u32 0,slice none 0 0] 178)).drew;have SZ:=ae (U.o.step D);have cw:=ae (CY.o _ (SZ.o.blk 1 rfl) (SZ.o.rep 2 rfl));have bB:=ae (Blk.drew (Blk.new wr 178 #[int i64 0,int i64 0,int i64 0,int i64 0,int i64 0,int i64 0,.int .u32 0,slice none 0 0]));have b8:=ae D;obtain⟨-,⟨cB,cC,I,-⟩,-⟩:=SZ.o.stq 6 rfl;obtain⟨V,z1,z2,z3,z4,z5,z6,z7,-⟩:=iB I;have ez:((wr.alloc (cells #[int i64 0,int i64 0,int i64 0,int i64 0,int i64 0,int i64 0,.int .u32 0,slice none 0 0] 178)).drew).cell? ⟨w.heap.size,1,none⟩=some (int i64 o):=(SZ.o.blk 5 rfl).cell 1;clear I V z1 z5 z6 z7 D CY
      go_region_law (first
       | (go_simp
          go_at_call 160;refine bw.o.mono ?_;rintro bf I ⟨v8,rfl,ad,D⟩;replace D:=bQ D;have am:=(aC I.heap.size I).alloc (aj _) (cells #[int i64 0,int i64 0,int i64 0,int i64 0,int i64 0,int i64 0,.int .u32 0,slice none 0 0] 178);have V:=ae ((U.o.step D).step am);obtain⟨-,⟨cD,cE,an,-⟩,-⟩:=V.o.stq 6 rfl;obtain⟨ar,au,cF,cG,cH,aY,a0,cy,-⟩:=iB an;have cI:(I.alloc (cells #[int i64 0,int i64 0,int i64 0,int i64 0,int i64 0,int i64 0,.int .u32 0,slice none 0 0] 178)).cell? ⟨w.heap.size,1,none⟩=some (int i64 o):=(V.o.blk 5 rfl).cell 1;clear am V an ar au aY a0 cy;have ar:=(rB _).more (lV ad) (λb k _=>k.1);obtain⟨K,M,rfl,am,an⟩:=ad.rd2 aq.o;have aY:Sz ((rB (iM d j e (z:Nat) A s)).ok I (λb=>Ty 5 I b) [slice K e M]):=ae ar;have S9:=ae (U.o.step D);obtain⟨-,⟨cy,cz,au,-⟩,-⟩:=S9.o.stq 6 rfl;obtain⟨aB,aD,bi,bj,bk,aE,aF,aK,-⟩:=iB au;have be:I.cell? ⟨w.heap.size,1,none⟩=some (int i64 o):=(S9.o.blk 5 rfl).cell 1;have a0:=ae D;clear ad D au aB aD aE aF aK am an ar;go_simp)
       | (go_simp
          go_at_call 160;refine cw.o.mono ?_;rintro bf I ⟨v8,rfl,ad,D⟩;have V:=ae (bB.o.below D bB.o.lt);have D:=b8.o.trans (D.mono b8.o.size);have f0:=V.o.frozen 0;have f1:=V.o.frozen 1;have f2:=V.o.frozen 2;have f3:=V.o.frozen 3;have f4:=V.o.frozen 4;have f5:=V.o.frozen 5;have f6:=V.o.frozen 6;have f7:=V.o.frozen 7;obtain⟨y0,y1,y2,y3,y4,y5,y6,y7⟩:=bW V.o;have ar:=(rB _).more (lV ad) (λb k _=>k.1);obtain⟨K,M,rfl,am,an⟩:=ad.rd2 aq.o;have aY:Sz ((rB (iM d j e (z:Nat) A s)).ok I (λb=>Ty 5 I b) [slice K e M]):=ae ar;have S9:=ae (U.o.step D);obtain⟨-,⟨cy,cz,au,-⟩,-⟩:=S9.o.stq 6 rfl;obtain⟨aB,aD,bi,bj,bk,aE,aF,aK,-⟩:=iB au;have be:I.cell? ⟨w.heap.size,1,none⟩=some (int i64 o):=(S9.o.blk 5 rfl).cell 1;have a0:=ae D;clear ad D au aB aD aE aF aK am an ar;go_simp))
      all_goals(
       go_simp;refine ‹∀(a':Act) (X:World),Met _ a' X->_› _ _ ?_;go_meet
       first
       | (have cA:=V
          have hz:=Nz aY.o a0.o cA.o (aj _) (int i64 o) (int i64 i) (int i64 s) (int i64 d) (int i64 j) (int i64 e) (.int .u32 (z:Nat)) (slice K e M);exact⟨wr.heap.size,K,M,rfl,ae hz.1,ae hz.2.1,ae hz.2.2⟩)
       | (have hz:=Qd (vs:=#[int i64 o,int i64 i,int i64 s,int i64 d,int i64 j,int i64 e,.int .u32 (z:Nat),slice K e M]) aY.o a0.o
          exact⟨I.heap.size,K,M,rfl,ae hz.1,ae hz.2.1,ae hz.2.2⟩))
     case rest=>
      obtain⟨G9,K,M,rfl,au,aB,V⟩:=hcut;clear CY bw k2 k3 k4 Z;obtain⟨aD,da,e8,am,an,-⟩:=eU aB.o aq.o;injection e8 with b8 _ cw;subst b8 cw;have ad:=ae (U.o.step V.o);have aE:=ae (S.o.new V.o);have aF:Sz (∀b,F b->Ty 5 wc b):=ae λb k=>(Y.o b k).keep (V.o.block b (Y.o b k).lt);have aK:=ae (HJ.o.trans (Chg.of V.o));have CQ:=ae (qL o i s d j e z (iM d j e (z:Nat) A s) K M wc.drew (by omega) (by omega) (by omega) HK.o az.o am bz.o an);unfold tO at CQ;have HT:Sz ((ai++(range (s+1)).map (QM d j e o i z A t)).map dG=(ai++(range s).map (QM d j e o i z A t)).map dG++[dG (t.getD (s%t.length) 0,cellL 1 (jw o i s d j e z (iM d j e (z:Nat) A s)))]):=ae (by rw[range_succ,aU (l:=range s),<-append_assoc,aU];rfl);have cy:((ai++(range s).map (QM d j e o i z A t)).map dG).length<=1000000:=(by have:=cn.o;rw[aG,aI,aG,bg];omega);have aY:Sz ((cellL 1 (jw o i s d j e z (iM d j e (z:Nat) A s))).length=64):=ae (iZ (by rw[kJ,aq.o];omega));obtain⟨b0,b1,b2,b3,b4,b5,b6,b7⟩:=bW au.o;have a0:=ae λw (hx:(rI t).ok w Any [slice a5 t.length c5])=>Ri t Any a5 t.length c5 s w hx rfl cl.o;have cz:=ae (a0.o wc.drew ((rI _).new (ad.o.rep 0 rfl) (aC _ _).drew));have cA:=ae (ad.o.rep 0 rfl);have cB:G.heap.size<=wc.heap.size:=aK.o.size;have cC:=ae aL.o.size;generalize cellL 1 (jw o i s d j e z (iM d j e (z:Nat) A s))=be at*;generalize t.getD (s%t.length) 0=ar at*;clear au aB V aq bz am an S Y HJ U S7 ad cu aL aV aX av bh;generalize V:(ai++(range s).map (QM d j e o i z A t)).map dG=LL at*;clear V;go_wp2_with fail
      go_region_law (first
       | (change (if _=true then Oper.wp _ (Oper.mk (some 97) _ _ _ _ _) _ _ _ _ else _)
          refine oQ (w:=V) (C:=H.heap.size) (F:=λb=>F b\/b=g7) (v:=slice N O P) (L:=LL) (R:=dG (ar,be)) rfl _ _ rfl underlying120 xu rfl (by decide) (by decide) bf.o cD cy cE.o rfl rfl rfl ?_;intro v8 I ad D cF au bi;obtain⟨aD,cG,cH,rfl⟩:=ad.sl;rw[<-HT.o] at ad;have cI:=ae ad;have cJ:Sz (∀b,(F b\/b=g7)->Ty 5 I b):=ae λb k=>(aB.o b k).keep (au b (aB.o b k).lt λr=>(aB.o b k).ne (bf.o.ownTy b r.symm) (by decide));have bj:Chg (λb=>some b=Q\/G.heap.size<=b) G V:=bk.o.mono λy _ r=>.inl r;have bB:Chg (λb=>some b=Q\/G.heap.size<=b) V I:=⟨D.os,D.tape,D.output,D.size,λb k hN=>au b k λr=>hN (br.o b r.symm)⟩;have cK:Sz (Chg (λb=>some b=Q) G I):=ae ((bj.trans bB).mono λy W r=>r.elim id λh=>absurd h (by omega));have cL:Sz (∀b,(Value.slice aD cG cH).ownBlock=some b->some b=Q\/G.heap.size<=b):=ae λb k=>bi.elim (λr=>br.o b (r.symm.trans k)) λ⟨b',r,db⟩=>.inr (by have h1:some b=some b':=k.symm.trans r;injection h1 with h1;omega);clear bj bB;clear ad D cF au bi)
       | (go_simp
          go_at_call 162;refine CQ.o.mono ?_;rintro r V ⟨g7,rfl,bi,au,ad⟩;replace ad:=bQ ad;have cD:H.heap.size<=V.heap.size:=aP cC.o (aP cB ad.size);have ay:=ae (a0.o V ((rI _).new cA.o ad));have bk:=ae (aK.o.trans (Chg.of ad));have bj:G.heap.size<=V.heap.size:=bk.o.size;have bf:Sz (OwnS V H.heap.size 165 2 (λb=>F b\/b=g7) (slice N O P) LL):=ae ((aE.o.new ad).base (aj _) λb k=>.inl k);have aB:Sz (∀b,(F b\/b=g7)->Ty 5 V b):=ae λb k=>k.elim (λh=>(aF.o b h).keep (ad.block b (aF.o b h).lt)) λr=>r▸Blk.ty au
          have cE:Sz ((dG (ar,be)).ok V (λb=>(F b\/b=g7)/\some b≠(Value.slice N O P).ownBlock) [int i64 ar,slice (some ⟨g7,0,none⟩) 64 64]):=ae (qj (x:=[int i64 ar]) (wZ rfl) (by
           have h:=oh (F:=λb=>(F b\/b=g7)/\some b≠(Value.slice N O P).ownBlock) au ⟨.inr rfl,λr=>by have h1:=(aE.o.lt g7 r.symm).2;have h2:wc.heap.size<=g7:=bi;omega⟩ (by rw[aY.o];unfold maxLen;omega);rw[aY.o] at h;exact h))
          clear bi au ad;go_simp)
       | (go_simp
          go_at_call 161;refine cz.o.mono ?_;rintro r w9 ⟨rfl,rfl⟩;go_simp)
       | (go_simp
          go_at_call 161;refine ay.o.mono ?_;rintro r w9 ⟨rfl,rfl⟩;go_simp))
      all_goals(
       go_simp;go_wp2_with fail;go_roundw
       case rel=>(try((repeat apply Exists.intro);refine⟨?_,rfl⟩));exact⟨s+1,by omega,by go_num,_,cJ,cI,cK,cL⟩
       case measure=>simp[intOf];omega)
    ·obtain rfl:s=ac:=by omega
     have D:Sz (OwnS wr H.heap.size 165 2 F (slice N O P) ((fG d j e ex o T l (λy=>if y=i then t else E y) (i+1)).map dG)):=ae (by
      have Z:fG d j e ex o T l (λy=>if y=i then t else E y) i=ai:=by
       rw[<-aX.o];exact Ew λy W=>by rw[bA (by omega)]
      rw[qM,Z,bu rfl,aV.o,<-cm.o];exact S.o)
     have I:Sz (∀y,y<i+1->((λy=>if y=i then t else E y) y).Perm (bP f)):=ae λy W=>by
      by_cases r:y=i
      ·show(if y=i then t else E y).Perm _;rw[bu r];exact bh.o
      ·show(if y=i then t else E y).Perm _;rw[bA r];exact av.o y (by omega)
     have y:=bs;clear S aX aV av HJ;go_wp2_with fail;go_roundw
     case rel=>(try((repeat apply Exists.intro);refine⟨?_,rfl⟩));exact⟨i+1,_,_,by omega,by go_num,I,Y,D,y⟩
     case measure=>simp[intOf];omega
  ·obtain rfl:i=u:=by omega
   have s:Sz ((rS 2 ((fG d j e ex o T l E i).map dG)).ok wr (Fu wr) [slice N O P]):=ae ((S.o.base (aj _) λb k=>Mt.not (Y.o b k) (by decide) (by decide) (by decide)).repU (by decide));go_wp2_with fail;go_ret2;exact⟨_,E,rfl,av.o,s.o,(S2.o.step HB.o).1⟩
end
section
variable {B:Nat}
theorem zR(a:ByteArray)(g:Nat)(f:Fl)(m:cZ)(R:Nat->List SC)(w:World)(h:Stq B w g f m R)(E:m.objs.length<=100):
 Calls prog 111 #[pointer (some ⟨g,0,none⟩),.string a] w λi b=>i=returned (int i64 (qf (Ar a) m.objs))/\Below w.heap.size w b:=by
 have c:=(aC w.heap.size w).alloc (aj _) (cells #[.string a] 9);have d:=Blk.new w 9 #[.string a];obtain⟨-,⟨F,G,j,-,b⟩,-⟩:=h.below c;generalize k:w.alloc (cells #[.string a] 9)=l at*;obtain⟨r,n,s,rfl⟩:=nu b
 have o:m.objs.length=n:=by
  obtain⟨H,I,J,e,_,_,_,t,_⟩:=b;injection e with e _;injection e with _ K _;rw[aG] at t;omega
 have p:=ae (FY (Ar a) 168 #[pointer (some ⟨w.heap.size,0,none⟩)] m.objs (Fu l) r n s l b o (by omega) (enters_of func168 (by kernel_rfl) rfl) (λq z u v x y A=>Jj a q x _ y w.heap.size u (d.below v d.lt)));have q:=ae c;have u:=ae k;obtain⟨v,x,y,z,A,C,D,L,-⟩:=iB j;clear j b d c k v x y z A C D h o;go_enter func111,ntmps111;go_upto_region 1 with fail;rw[u.o];go_wp2_with fail;refine p.o.mono ?_;rintro i d ⟨rfl,b⟩;have c:=ae (q.o.trans (b.mono q.o.size));clear b p;go_wp2_with fail;go_ret;exact⟨rfl,c.o⟩
theorem Io(j:ByteArray)(g:Nat)(f:Fl)(m:cZ)(R:Nat->List SC)(a:SE)(n c:Nat)(w:World)(h:Stq B w g f m R)(u:mH j)(k:∀e∈m.objs,Ar j e=false)(C:m.objs.length<12)(q:0<(bP f).length)
 (v:fQ m.K m.H m.Z=true)(x:n<=m.K*m.Z*8)(D:m.next<=16777215)(E:m.seq<2147483647):
 Calls prog 101 #[pointer (some ⟨g,0,none⟩),.string j,slice a n c] w λe y=>e=returned (int i64 0)/\Below w.heap.size w y:=by
 have l:Sz (Sx w w [ll B g f m R]):=ae ((Sx.nil w).add (ll B g f m R) h);have s:=ae λw (h:Stq B w g f m R)=>Cy g f m R w h;have t:=ae λw=>yR j w u;have o:=ae λw (h:Stq B w g f m R)=>zR j g f m R w h (by omega);rw[sG k] at o;have z:=ae λw (h:Stq B w g f m R)=>xG g f m R w h;have r:=bn v;obtain⟨d,b⟩:∃d:Nat,d=m.K*m.Z:=⟨_,rfl⟩;have A:d<=16*24:=by rw[b];exact bC (by omega) (by omega)
 have p:(m.K:Int)*(m.Z:Int)=(d:Int):=by rw[b,Int.natCast_mul]
 have F:IntKind.i64.wrap ((m.K:Int)*(m.Z:Int))=(d:Int):=by rw[p,IntKind.wrap_i64];omega
 obtain⟨i,G⟩:∃i:Nat,i=d*8:=⟨_,rfl⟩;have H:IntKind.i64.wrap ((d:Int)*8)=(i:Int):=by rw[IntKind.wrap_i64];omega
 rw[<-b] at x;have W:¬(i:Int)<(n:Int):=by omega
 have X:n<=i:=by omega
 have Y:decide (i<n)=false:=decide_eq_false (by omega);have I:¬(12:Int)<=(m.objs.length:Int):=by omega
 have Z:¬(((bP f).length:Int)=0):=by omega
 have aa:¬((bP f).length=0):=by omega
 have ab:(((bP f).length:Int) == 0)=false:=by rw[beq_eq_false_iff_ne];omega
 have ac:bP f≠[]:=λe=>by rw[e] at q;simp at q
 have ad:¬(16777215:Int)<(m.next:Int):=by omega
 have ag:¬(2147483647:Int)<=(m.seq:Int):=by omega
 clear h u k C q x D E G p b A r v;go_enter func101,ntmps101;go_wp2_with fail;refine(s.o w (l.o.stq 0 rfl)).mono ?_;rintro e G ⟨rfl,b⟩;have A:=ae (l.o.step b);clear b;go_wp2_with fail;refine(t.o G).mono ?_;rintro e J ⟨rfl,b⟩;have p:=ae (A.o.step b);clear b;go_wp2_with fail;refine(o.o J (p.o.stq 0 rfl)).mono ?_;rintro e w3 ⟨rfl,b⟩;have r:=ae (p.o.step b);clear b s t o l A p;obtain⟨-,⟨K,L,l,-,p⟩,-⟩:=r.o.stq 0 rfl;obtain⟨ao,o,co,rfl⟩:=nu p
 have k:m.objs.length=o:=by
  obtain⟨a',n',c',s,_,_,_,M,_⟩:=p;injection s with s _;injection s with _ e2 _;rw[aG] at M;omega
 rw[k] at I;have ai:o<12:=by omega
 have ak:decide (12<=o)=false:=decide_eq_false (by omega);have al:decide ((12:Int)<=(o:Int))=false:=decide_eq_false (by omega);have t:=ae l;clear p k l;go_upto_region 7 with fail;refine dn (by kernel_rfl) (by kernel_rfl) ?_
 iterate 27 (
  with_reducible refine wpQuiet_step (λA p=> ?_)
  go_simp
  first
  | refine p _ ?_
  | refine⟨_,λ_ _=>rfl,p _ ?_⟩
  | (apply Exists.intro
     refine⟨λy N=> ?_,p _ ?_⟩
     ·obtain⟨O,P,Q,S,T,U,V,am,-⟩:=iB (t.o.below N t.o.lt)
      first
      | (go_simp
         first | exact rfl | exact⟨rfl,rfl⟩))
  clear p A)
 with_reducible refine wpQuiet_nil ?_
 intro O A;have p:=ae (r.o.step A);clear A r t;go_wp2_with fail;refine(z.o O (p.o.stq 0 rfl)).mono ?_;rintro e w5 ⟨v5,rfl,t,b⟩;have r:=ae (p.o.step b);obtain⟨a5,c5,rfl⟩:=t.lenA;obtain⟨-,⟨K,L,l,-,-⟩,-⟩:=r.o.stq 0 rfl;obtain⟨k0,k1,A,P,Q,S,T,U,-⟩:=iB l;have V:=ae r.o.1;clear b t l p z r A P Q S T U F H;generalize ((m.next:Nat):Int)=p at*;generalize ((m.seq:Nat):Int)=r at*;go_wp2_with fail;go_ret;exact⟨rfl,V.o⟩
end
section
variable {B:Nat}
end
theorem uR(g p a c b n:Nat)(v:Value)(w:World)(h:DrB w g p a v c)(f:b+n<=a)(i:a<=512):Calls prog 132 #[pointer (some ⟨g,0,none⟩),int i64 b,int i64 n] w λd e=>d=returned (bool true)/\e=w:=by
 have e:=ae (GN g p a c v w h);have j:(if (n:Int)<0 then (0:Int) else n)=n:=by rw[bA (by omega)]
 have k:(if (0:Int)<(n:Int) then (n:Int) else 0)=n:=by split <;> omega
 have l:max (n:Int) 0=n:=by omega
 have m:(n:Int)<=(a:Int)-(b:Int):=by omega
 go_enter func132,ntmps132;go_wp2_with fail;refine e.o.mono ?_;rintro d o ⟨rfl,rfl⟩;go_wp2_with fail;go_ret;exact⟨rfl,rfl⟩
theorem zC(g p a n:Nat)(R:List SC)(o:Option Nat)(m:cZ)(d e:Value)(w:World)(h:DrR w g p a R o)(k:R.length+n<=a)(l:a<=512):Calls prog 131 #[pointer (some ⟨g,0,none⟩),.agg (bV m d e),int i64 n] w λc b=>c=returned (bool true)/\Below w.heap.size w b:=by
 have f:=(aC w.heap.size w).alloc (aj _) (cells (bV m d e) 68);obtain⟨y,i,b,j,q⟩:=h.below f;obtain⟨r,s,rfl,-⟩:=j.val;rw[aG] at b;have t:=ae f;have u:=ae (sU g p a i _ _ b);have v:=ae (NY g p a i _ s r _ b);have x:=ae (uR g p a i R.length n _ _ b k l);unfold bV at*;clear h b j q f;go_enter func131,ntmps131;go_wp2_with fail;generalize w.alloc (cells #[int i64 m.seq,int i64 m.next,int i64 m.K,int i64 m.H,int i64 m.Z,int i64 m.extra,d,e] 68)=f at*;refine u.o.mono ?_;rintro c j ⟨rfl,rfl⟩;go_wp2_with fail;refine v.o.mono ?_;rintro c b ⟨rfl,rfl⟩;go_wp2_with fail;refine x.o.mono ?_;rintro c b ⟨rfl,rfl⟩;go_wp2_with fail;go_ret;exact⟨rfl,t.o⟩
theorem Kw(g p a n:Nat)(R:List SC)(o:Option Nat)(m:cZ)(d e:Value)(w:World)(h:DrR w g p a R o)(q:R.length+n<=a)(r:a<=512):Calls prog 71 #[pointer (some ⟨g,0,none⟩),.agg (bV m d e),int i64 n] w λb c=>b=returned (int i64 0)/\Below w.heap.size w c:=by
 have i:=(aC w.heap.size w).alloc (aj _) (cells (bV m d e) 68);have s:=ae (Blk.new w 68 (bV m d e));have f:=ae (h.below i);have t:=ae i;unfold bV at*;clear h i;go_enter func71,ntmps71;go_wp2_with fail;generalize w.alloc (cells #[int i64 m.seq,int i64 m.next,int i64 m.K,int i64 m.H,int i64 m.Z,int i64 m.extra,d,e] 68)=i at*
 have u:Sz (Calls prog 90 #[pointer (some ⟨g,0,none⟩)] i λb c=>b=returned (bool false)/\c=i):=ae (by
  obtain⟨v,j,c,-⟩:=f.o;exact sU g p a j v i c)
 have k:=ae (zC g p a n R o m d e i f.o q r);unfold bV at k;refine u.o.mono ?_;rintro b N ⟨rfl,rfl⟩;obtain⟨y,z,A,C,D,E,F,G⟩:=bW s.o;go_wp2_with fail;refine k.o.mono ?_;rintro b O ⟨rfl,l⟩;obtain⟨v,j,c,x,H⟩:=f.o.below l;obtain⟨I,J,rfl,-⟩:=x.val;rw[aG] at c;have K:=ae (NY g p a j _ J I _ c);have L:=ae (uR g p a j R.length n _ _ c q r);have M:=ae (t.o.trans (l.mono t.o.size));clear c x H l y z A C D E F G u k f s;go_wp2_with fail;refine K.o.mono ?_;rintro b f ⟨rfl,rfl⟩;go_wp2_with fail;refine L.o.mono ?_;rintro b f ⟨rfl,rfl⟩;go_wp2_with fail;go_ret;exact⟨rfl,M.o⟩
section
variable {B:Nat}
def lK(P:List (Nat×SC))(x:Nat):Nat:=(P.filter λa=>a.1 == x).length
theorem KG(y:Nat×SC)(x:Nat):([y].filter λa=>a.1 == x).length=if y.1=x then 1 else 0:=by
 by_cases a:y.1=x
 ·rw[bu a,filter_cons_of_pos (by simpa using a)];rfl
 ·rw[bA a,filter_cons_of_neg (by simpa using a)];rfl
theorem KH(P:List (Nat×SC))(d x f g n c:Nat)(a:SE)(w:World)(l:Blk w f 3 #[int i64 d])(m:Blk w g 120 #[slice a n c])(u:(rS 2 (P.map dG)).ok w (Fu w) [slice a n c])(v:P.length=n)(K:n<=1000)(L:d<=1000):
 Calls prog 106 (#[int i64 x]++#[pointer (some ⟨f,0,none⟩),pointer (some ⟨g,0,none⟩)]) w λb e=>b=returned (int i64 (d+lK P x:Nat))/\Below w.heap.size w e:=by
 show Calls prog 106 #[int i64 x,pointer (some ⟨f,0,none⟩),pointer (some ⟨g,0,none⟩)] w _;have F:Sz (Sx w w [bY f 3 #[int i64 d],bY g 120 #[slice a n c],eR (Fu w) (slice a n c) (rS 2 (P.map dG))]):=ae ((((Sx.nil w).add (eR (Fu w) (slice a n c) (rS 2 (P.map dG))) u).add (bY g _ _) m).add (bY f _ _) l);have o:=ae v;have M:=l.cell 0;have N:=m.cell 0;have y:Sz (d+lK (P.take 0) x=d):=ae rfl;clear l m u v;go_enter func106,ntmps106;go_wp2_with fail;have z:=ae (aC w.heap.size w);go_loopw [5,11] (λj i wr=>∃b e:Nat,b<=n/\i=int i64 b/\j=int i64 e/\Sz (d+lK (P.take b) x=e)/\Sz (Below w.heap.size w wr)) (λ_ i _=>n-(intOf i).toNat)
 case atStart=>exact⟨0,d,by omega,rfl,rfl,y,z⟩
 case round=>
  clear y z;obtain⟨b,e,O,rfl,rfl,p,i⟩:=hrel;have A:=ae (F.o.step i.o);by_cases C:b<n
  ·have Q:(b:Int)<(n:Int):=by omega
   have j:b<P.length:=(by rw[o.o];exact C);obtain⟨R,S,q,r,rfl,D,T,G,H,E⟩:=Bw (A.o.rep 2 rfl) o.o C;have t:P.take (b+1)=P.take b++[P.getD b wK]:=by rw[aO j,af,ah j];rfl
   have k:Sz (d+lK (P.take (b+1)) x=e+(if (P.getD b wK).1=x then 1 else 0)):=ae (by
    rw[t];unfold lK;rw[filter_append,aI,<-Nat.add_assoc];have h:=p.o;unfold lK at h;rw[h];rw[KG])
   have U:e<=2000:=(by have h:=p.o;unfold lK at h;have I:=length_filter_le (λs:Nat×SC=>s.1 == x) (P.take b);rw[aH] at I;omega);clear j t D E;generalize P.getD b wK=s at*;obtain⟨j,t⟩:=s;simp only at*;have D:=(aC wr.heap.size wr).alloc (aj _) (cells #[int i64 j,slice q t.length r] 165);have J:=ae (Blk.new wr 165 #[int i64 j,slice q t.length r]);have E:=ae (i.o.trans (D.mono i.o.size));clear D;go_upto_region 5 with fail;generalize wr.alloc (cells #[int i64 j,slice q t.length r] 165)=V at*;have W:=J.o.cell 0;clear G H i A;by_cases D:j=x
   ·subst D
    rw[bu rfl] at k;go_wp2_with fail;go_roundw
    case rel=>exact⟨b+1,e+1,by omega,by go_num,by go_num,k,E⟩
    case measure=>simp[intOf];omega
   ·rw[bA D,Nat.add_zero] at k
    have G:¬(j:Int)=(x:Int):=(by omega);go_wp2_with fail;go_roundw
    case rel=>exact⟨b+1,e,by omega,by go_num,rfl,k,E⟩
    case measure=>simp[intOf];omega
  ·obtain rfl:b=n:=by omega
   have j:Sz (d+lK P x=e):=ae (by rw[<-p.o,aN (by rw[o.o];exact aj _)]);go_wp2_with fail;go_ret;refine⟨?_,i.o⟩;rw[j.o];rfl
end
section
variable {B:Nat}
def Co(N:Nat)(w0:World)(c:FuncId)(d:Array Value)(e:Nat->Nat):Prop:=∀b,b<N->∀a,Below w0.heap.size w0 a->Calls prog c (#[int i64 b]++d) a λf g=>f=returned (int i64 (e b:Nat))/\Below a.heap.size a g
theorem PI(x g e i:Nat)(f:Fl)(m:cZ)(R:Nat->List SC)(c:FuncId)(r:Array Value)(j:Nat->Nat)(w0 w:World)(t:Below w0.heap.size w0 w)(h:Stq B w g f m R)(hs:Blk w e 60 #[pointer (some ⟨g,0,none⟩)])(u:Blk w i 166 #[.func (.func c) #[] r])(k:x<f.n/\f.Z x=false)
 (K:∀a w,(callFunc c a).run prog w=.ok (.enter c a) w)(v:Co f.n w0 c r j)(l:(R x).length+j x<=f.room x/\f.room x<=512):
 Calls prog 166 (#[int i64 x]++#[pointer (some ⟨e,0,none⟩),pointer (some ⟨i,0,none⟩)]) w λd b=>d=returned (bool false)/\Below w.heap.size w b:=by
 show Calls prog 166 #[int i64 x,pointer (some ⟨e,0,none⟩),pointer (some ⟨i,0,none⟩)] w _;have n:Sz (Sx w w [bY e 60 #[pointer (some ⟨g,0,none⟩)],bY i 166 #[.func (.func c) #[] r],ll B g f m R]):=ae ((((Sx.nil w).add (ll B g f m R) h).add (bY i _ _) u).add (bY e _ _) hs);have C:=ae v;have y:=ae t;have L:=ae l;have q:=ae λ(o:Option Nat) (a p:Value) (w:World) (h:DrR w (f.D x) f.p (f.room x) (R x) o)=>zC (f.D x) f.p (f.room x) (j x) (R x) o m a p w h l.1 l.2;clear h hs u v l t;unfold bV at q;go_enter func166,ntmps166;obtain⟨-,⟨z,A,a,-⟩,-,M⟩:=n.o.stq 2 rfl;have p:=ae a;clear a
 have D:Sz (∀a,Below w.heap.size w a->Calls prog 131 #[pointer (some ⟨f.D x,0,none⟩),.agg #[int i64 m.seq,int i64 m.next,int i64 m.K,int i64 m.H,int i64 m.Z,int i64 m.extra,z,A],int i64 (j x:Nat)] a λd b=>d=returned (bool true)/\Below a.heap.size a b):=ae λa s=>by
  obtain⟨-,⟨o,E,-⟩,-⟩:=((n.o.step s).stq 2 rfl).drs;rcases E x k.1 with⟨d,-⟩ | ⟨-,h⟩
  ·rw[k.2] at d;cases d
  ·exact q.o (o x) z A a h.r
 have F:Sz (∀a,Below w.heap.size w a->a.cell? ⟨g,10+x,none⟩=some (pointer (some ⟨f.D x,0,none⟩))):=ae λa s=>(Blk.cell (Blk.below p.o s (Blk.lt p.o)) (10+x)).trans (by rw[pK _ _ _ _ _ (by omega)];rw[uu f k.1]);have N:x<64:=by omega
 have O:(x:Int)<64:=by omega
 have G:=k.1;generalize f.D x=P at*;clear q
 all_goals(
  go_upto_region 1 with fail;refine dn (by kernel_rfl) (by kernel_rfl) ?_
  iterate 16 (
   with_reducible refine wpQuiet_step (λH q=> ?_)
   go_simp
   first
   | refine q _ ?_
   | refine⟨_,λ_ _=>rfl,q _ ?_⟩
   | (apply Exists.intro
      refine⟨λb a=> ?_,q _ ?_⟩
      ·have Q:=((n.o.step a).blk 0 rfl).cell 0
       have S:=((n.o.step a).blk 1 rfl).cell 0;obtain⟨T,U,V,W,X,Y,Z,aa,-⟩:=iB (Blk.below p.o a (Blk.lt p.o));have ab:=F.o b a
       first
       | (go_simp
          first | exact rfl | exact⟨rfl,rfl⟩)
       | (go_at_fn c
          refine(C.o _ G b (y.o.trans (a.mono y.o.size))).mono ?_;rintro I J ⟨rfl,s⟩;exact⟨rfl,a.trans (s.mono a.size)⟩)
       | (go_at_call 131
          refine(D.o b a).mono ?_;rintro I J ⟨rfl,s⟩;exact⟨rfl,a.trans (s.mono a.size)⟩))
   clear q H)
  with_reducible refine wpQuiet_nil ?_
  intro H q;have s:=ae q;clear q;go_wp2_with fail;go_ret;exact⟨rfl,s.o⟩)
theorem MR(L:SC)(F:Nat->Prop)(a:SE)(n c g:Nat)(f:Fl)(m:cZ)(R:Nat->List SC)(b:FuncId)(d:Array Value)(p:Nat->Nat)(w:World)(h:Stq B w g f m R)(e:(rI L).ok w F [slice a n c])(u:L.length=n)(q:∀x∈L,x<f.n/\f.Z x=false)(J:n<=1000)
 (v:∀i w,(callFunc b i).run prog w=.ok (.enter b i) w)(y:Co f.n w b d p)(z:∀x,x<f.n->(R x).length+p x<=f.room x/\f.room x<=512):
 Calls prog 107 #[pointer (some ⟨g,0,none⟩),slice a n c,.func (.func b) #[] d] w λi j=>i=returned (bool true)/\Below w.heap.size w j:=by
 have r:=(aC w.heap.size w).alloc (aj _) (cells #[pointer (some ⟨g,0,none⟩)] 60);have j:=r.alloc r.size (cells #[.func (.func b) #[] d] 166);obtain⟨K,M,i,A,-⟩:=dY ((rI L).new e j) u;injection i with G N H;subst G H;have s:=(Blk.new w 60 #[pointer (some ⟨g,0,none⟩)]).alloc (cells #[.func (.func b) #[] d] 166);have k:=Blk.new (w.alloc (cells #[pointer (some ⟨g,0,none⟩)] 60)) 166 #[.func (.func b) #[] d];rw[show(w.alloc (cells #[pointer (some ⟨g,0,none⟩)] 60)).heap.size=w.heap.size+1 by simp] at k;have C:=h.below j;have l:=ae j;generalize D:(w.alloc (cells #[pointer (some ⟨g,0,none⟩)] 60)).alloc (cells #[.func (.func b) #[] d] 166)=E at*
 have t:=ae (Av (λ_=>false) 166 #[pointer (some ⟨w.heap.size,0,none⟩),pointer (some ⟨w.heap.size+1,0,none⟩)] L E.heap.size a n c E A (aj _) (by omega) (enters_of func166 (by kernel_rfl) rfl) (λx e I o=>
  PI x g w.heap.size (w.heap.size+1) f m R b d p w I (l.o.trans (o.mono l.o.size)) (C.below o) (s.below o (Blk.lt s)) (k.below o (Blk.lt k)) (q x e) v y (z x (q x e).1)))
 rw[show(L.any λ_=>false)=false by simp] at t;have o:=ae D;clear h e u q y z v r j s k C A D;go_enter func107,ntmps107;go_wp2_with fail;rw[o.o];refine t.o.mono ?_;rintro i r ⟨rfl,j⟩;have k:=ae (l.o.trans (j.mono l.o.size));clear j t;go_wp2_with fail;go_ret;exact⟨rfl,k.o⟩
theorem Gy(L:SC)(F:Nat->Prop)(a:SE)(n c g:Nat)(f:Fl)(m:cZ)(R:Nat->List SC)(l:FuncId)(y:Array Value)(q:Nat->Nat)(w:World)(h:Stq B w g f m R)(b:(rI L).ok w F [slice a n c])(z:L.length=n)(A:∀x∈L,x<f.n/\f.Z x=false)(X:n<=1000)
 (Y:∀d w,(callFunc l d).run prog w=.ok (.enter l d) w)(C:Co f.n w l y q)(r:∀x,x<f.n->(R x).length+q x<=f.room x/\f.room x<=512):
 Calls prog 108 #[pointer (some ⟨g,0,none⟩),slice a n c,.func (.func l) #[] y] w λi j=>i=returned (int i64 0)/\Below w.heap.size w j:=by
 have D:Sz (Sx w w [ll B g f m R,eR F (slice a n c) (rI L)]):=ae (((Sx.nil w).add (eR F (slice a n c) (rI L)) b).add (ll B g f m R) h);have E:=ae z;have M:=ae A;have N:=ae C;have Z:=ae r;have G:=ae (aC w.heap.size w);have u:=ae λ(x:Nat) (o:Option Nat) (d e:Value) (w:World) (h:DrR w (f.D x) f.p (f.room x) (R x) o) (b:x<f.n)=>Kw (f.D x) f.p (f.room x) (q x) (R x) o m d e w h (r x b).1 (r x b).2;unfold bV at u;clear h b z A C r;go_enter func108,ntmps108;go_wp2_with fail;go_loopw [12] (λe wr=>∃d:Nat,d<=n/\e=int i64 d/\Sz (Below w.heap.size w wr)) (λe _=>n-(intOf e).toNat)
 case atStart=>exact⟨0,by omega,rfl,G⟩
 case round=>
  clear G;obtain⟨d,aa,rfl,k⟩:=hrel;have s:=ae (D.o.step k.o);by_cases O:d<n
  ·have ab:(d:Int)<(n:Int):=by omega
   have e:d<L.length:=(by rw[E.o];exact O);obtain⟨a',c',i,t,-⟩:=dY (s.o.rep 1 rfl) E.o;injection i with P e2 Q;subst P Q;obtain⟨ac,o,rfl,K,v⟩:=t.2 (by omega);have cq:=v d _ (dh e);have b:=M.o (L.getD d 0) (by rw[af,ah e];exact aQ e);obtain⟨-,⟨H,I,J,-⟩,-,ad⟩:=s.o.stq 0 rfl;have p:=ae J;clear J t v K e;generalize L.getD d 0=x at*
   have J:Sz (∀e,Below wr.heap.size wr e->Calls prog 71 #[pointer (some ⟨f.D x,0,none⟩),.agg #[int i64 m.seq,int i64 m.next,int i64 m.K,int i64 m.H,int i64 m.Z,int i64 m.extra,H,I],int i64 (q x:Nat)] e λi j=>i=returned (int i64 0)/\Below e.heap.size e j):=ae λe t=>by
    obtain⟨-,⟨o,S,-⟩,-⟩:=((s.o.step t).stq 0 rfl).drs;rcases S x b.1 with⟨i,-⟩ | ⟨-,h⟩
    ·rw[b.2] at i;cases i
    ·exact u.o x (o x) H I e h.r b.1
   have K:Sz (∀e,Below wr.heap.size wr e->e.cell? ⟨g,10+x,none⟩=some (pointer (some ⟨f.D x,0,none⟩))):=ae λe t=>(Blk.cell (Blk.below p.o t (Blk.lt p.o)) (10+x)).trans (by rw[pK _ _ _ _ _ (by omega)];rw[uu f b.1]);have ag:x<64:=(by omega);have ai:(x:Int)<64:=(by omega);have T:=b.1;generalize f.D x=dx at*;clear u D
   all_goals(
    go_upto_region 4 with fail;refine dn (by kernel_rfl) (by kernel_rfl) ?_
    iterate 15 (
     with_reducible refine wpQuiet_step (λU t=> ?_)
     go_simp
     first
     | refine t _ ?_
     | refine⟨_,λ_ _=>rfl,t _ ?_⟩
     | (apply Exists.intro
        refine⟨λj e=> ?_,t _ ?_⟩
        ·obtain⟨ak,al,am,an,ao,ap,aq,ar,-⟩:=iB (Blk.below p.o e (Blk.lt p.o))
         have au:=K.o j e
         first
         | (go_simp
            first | exact rfl | exact⟨rfl,rfl⟩)
         | (go_at_fn l
            refine(N.o _ T j (k.o.trans (e.mono k.o.size))).mono ?_;rintro V W ⟨rfl,v⟩;exact⟨rfl,e.trans (v.mono e.size)⟩)
         | (go_at_call 71
            refine(J.o j e).mono ?_;rintro V W ⟨rfl,v⟩;exact⟨rfl,e.trans (v.mono e.size)⟩))
     clear t U)
    with_reducible refine wpQuiet_nil ?_
    intro U t;have v:=ae (k.o.trans (t.mono k.o.size));clear t k J s p K;go_wp2_with fail;go_roundw
    case rel=>exact⟨d+1,by omega,by go_num,v⟩
    case measure=>simp[intOf];omega)
  ·obtain rfl:d=n:=by omega
   go_wp2_with fail;go_ret;exact⟨rfl,k.o⟩
end
section
variable {B:Nat}
theorem Rp.fmA(R:Rp){w:World}{o:Obj}{a:List Value}(b:R.ok w (Fm w) a):R.ok (w.alloc o) (Fm (w.alloc o)) a:=R.fm b ((aC _ _).alloc (aj _) o)
theorem Rp.put8m(R:Rp){w:World}{g:Nat}{j:List Value}{m n o p q r s t:Value}(u:Blk w g 68 #[m,n,o,p,q,r,s,t])(v:R.ok w (Fm w) j)(a b c d e f h i:Value):
 R.ok ((((((((w.setCell ⟨g,0,none⟩ a).setCell ⟨g,1,none⟩ b).setCell ⟨g,2,none⟩ c).setCell ⟨g,3,none⟩ d).setCell ⟨g,4,none⟩ e).setCell ⟨g,5,none⟩ f).setCell ⟨g,6,none⟩ h).setCell ⟨g,7,none⟩ i) (Fm ((((((((w.setCell ⟨g,0,none⟩ a).setCell ⟨g,1,none⟩ b).setCell ⟨g,2,none⟩ c).setCell ⟨g,3,none⟩ d).setCell ⟨g,4,none⟩ e).setCell ⟨g,5,none⟩ f).setCell ⟨g,6,none⟩ h).setCell ⟨g,7,none⟩ i)) j:=
 R.keep v λx k l=>by
  have l:=zo w a b c d e f h i x λx=>k.2 (x▸Blk.ty u);exact⟨l,k.keep l⟩
end
section
variable {B:Nat}
end
structure dS where
 o:Nat
 b:Nat
 i:Nat
 t:Nat
 d:SC
def ym:dS:=⟨0,0,0,0,[]⟩
def fC(K H Z:Nat)(r:dS)(v:Value):Array Value:=#[int i64 r.o,int i64 r.b,int i64 r.i,int i64 K,int i64 H,int i64 Z,.int .u32 (r.t:Nat),v]
theorem QQ(K H Z:Nat)(r:dS)(v:Value):tO r.o r.b r.i K H Z r.t v=.agg (fC K H Z r v):=rfl
def xZ(K H Z:Nat)(r:dS):Rp:=rP (Gg [int i64 r.o,int i64 r.b,int i64 r.i,int i64 K,int i64 H,int i64 Z,.int .u32 (r.t:Nat)]) (rB r.d)
def RecY8(w:World)(b o:Nat)(K H Z:Nat)(r:dS)(v:Value):Prop:=b<w.heap.size/\∀a,a<8->w.cell? ⟨b,o+a,none⟩=(fC K H Z r v)[a]?
theorem RecY8.below{w w':World}{b o K H Z:Nat}{r:dS}{v:Value}(a:RecY8 w b o K H Z r v)(c:Below w.heap.size w w'):RecY8 w' b o K H Z r v:=
 ⟨aW a.1 c.size,λd e=>(c.cell (p:=⟨b,o+d,none⟩) a.1).trans (a.2 d e)⟩
theorem RecY8.c{w:World}{b o K H Z:Nat}{r:dS}{v:Value}(a:RecY8 w b o K H Z r v):w.cell? ⟨b,o,none⟩=some (int i64 r.o)/\w.cell? ⟨b,o+1,none⟩=some (int i64 r.b)/\w.cell? ⟨b,o+2,none⟩=some (int i64 r.i)/\w.cell? ⟨b,o+3,none⟩=some (int i64 K)/\
 w.cell? ⟨b,o+4,none⟩=some (int i64 H)/\w.cell? ⟨b,o+5,none⟩=some (int i64 Z)/\w.cell? ⟨b,o+6,none⟩=some (.int .u32 (r.t:Nat))/\w.cell? ⟨b,o+7,none⟩=some v:=
 ⟨a.2 0 (by omega),a.2 1 (by omega),a.2 2 (by omega),a.2 3 (by omega),a.2 4 (by omega),a.2 5 (by omega),a.2 6 (by omega),a.2 7 (by omega)⟩
theorem y9{K H Z:Nat}{L:List dS}{w:World}{F:Nat->Prop}{a:SE}{n c i:Nat}(j:(rS 8 (L.map (xZ K H Z))).ok w F [slice a n c])(y:L.length=n)(k:i<n):
 ∃b o f g,a=some ⟨b,o,none⟩/\F b/\RecY8 w b (o+i*8) K H Z (L.getD i ym) (slice f (L.getD i ym).d.length g)/\(rB (L.getD i ym).d).ok w F [slice f (L.getD i ym).d.length g]:=by
 have l:i<L.length:=by omega
 have m:(L.map (xZ K H Z))[i]? =some (xZ K H Z (L.getD i ym)):=by rw[List.getElem?_map,af,ah l];rfl
 obtain⟨b,o,z,rfl,p,q,r,A,d⟩:=su j (by decide) k m;obtain⟨C,D,rfl,s,h⟩:=r;have t:=s.1;subst t;have u:=(rB (L.getD i ym).d).len h;obtain⟨E,rfl⟩:=length_eq_one_iff.1 u;obtain⟨f,g,v,-⟩:=eU h rfl;subst v;refine⟨b,o,f,g,rfl,p,⟨q,λe G=> ?_⟩,h⟩;have x:e=0\/e=1\/e=2\/e=3\/e=4\/e=5\/e=6\/e=7:=by omega
 rcases x with rfl | rfl | rfl | rfl | rfl | rfl | rfl | rfl
 ·exact d 0 _ rfl
 ·exact d 1 _ rfl
 ·exact d 2 _ rfl
 ·exact d 3 _ rfl
 ·exact d 4 _ rfl
 ·exact d 5 _ rfl
 ·exact d 6 _ rfl
 ·exact d 7 _ rfl
theorem rn_ok{K H Z:Nat}{r:dS}{w:World}{F:Nat->Prop}{v:Value}(b:(rB r.d).ok w F [v]):(xZ K H Z r).ok w F (fC K H Z r v).toList:=
 qj (x:=[int i64 r.o,int i64 r.b,int i64 r.i,int i64 K,int i64 H,int i64 Z,.int .u32 (r.t:Nat)]) (uf (by intro c a;simp at a;rcases a with rfl | rfl | rfl | rfl | rfl | rfl | rfl <;> rfl)) b
def QR(x y z:Int):Int:=if x=0 then (if y=0 then z else y) else x
theorem Mv(x y z:Int)(b o c:Nat)(w:World)(l:w.cell? ⟨b,o,none⟩=some (int i64 x))(m:w.cell? ⟨b,o+1,none⟩=some (int i64 y))(n:w.cell? ⟨b,o+2,none⟩=some (int i64 z))(h:QR x y z≠0):Calls prog 223 #[slice (some ⟨b,o,none⟩) 3 c] w λa d=>a=returned (int i64 (QR x y z))/\d=w:=by
 obtain⟨f,a⟩:∃f:Nat,f=if x=0 then (if y=0 then 2 else 1) else 0:=⟨_,rfl⟩
 have i:(f=0/\x≠0)\/(f=1/\x=0/\y≠0)\/(f=2/\x=0/\y=0/\z≠0):=by
  unfold QR at h;by_cases d:x=0
  ·rw[bu d] at a h
   by_cases e:y=0
   ·rw[bu e] at a h;exact .inr (.inr ⟨a,d,e,h⟩)
   ·rw[bA e] at a;exact .inr (.inl ⟨a,d,e⟩)
  ·rw[bA d] at a;exact .inl ⟨a,d⟩
 clear a;go_enter func223,ntmps223;go_wp2_with fail;go_loopw [8] (λg wr=>∃a:Nat,a<=f/\g=int i64 a/\Sz (wr=w)) (λg _=>2-(intOf g).toNat)
 case atStart=>exact⟨0,by omega,rfl,ae rfl⟩
 case round=>
  obtain⟨a,p,rfl,g⟩:=hrel;obtain rfl:=g.o;rcases i with⟨rfl,d⟩ | ⟨rfl,rfl,e⟩ | ⟨rfl,rfl,rfl,j⟩
  ·obtain rfl:a=0:=by omega
   have k:(x == 0)=false:=(by rw[beq_eq_false_iff_ne];exact d);go_wp2_with fail;go_ret;exact⟨by unfold QR;rw[bA d];rfl,rfl⟩
  ·have q:(y == 0)=false:=by rw[beq_eq_false_iff_ne];exact e
   have k:a=0\/a=1:=(by omega);rcases k with rfl | rfl
   ·go_wp2_with fail
    go_roundw
    case rel=>exact⟨1,by omega,by first | rfl | go_num,ae (by first | rfl | trivial)⟩
    case measure=>simp[intOf]
   ·go_wp2_with fail
    go_ret;exact⟨by unfold QR;rw[bu rfl,bA e];rfl,rfl⟩
  ·have q:(z == 0)=false:=by rw[beq_eq_false_iff_ne];exact j
   have k:a=0\/a=1\/a=2:=(by omega);rcases k with rfl | rfl | rfl
   ·go_wp2_with fail
    go_roundw
    case rel=>exact⟨1,by omega,by first | rfl | go_num,ae (by first | rfl | trivial)⟩
    case measure=>simp[intOf]
   ·go_wp2_with fail
    go_roundw
    case rel=>exact⟨2,by omega,by first | rfl | go_num,ae (by first | rfl | trivial)⟩
    case measure=>simp[intOf]
   ·go_wp2_with fail
    go_ret;exact⟨by unfold QR;rw[bu rfl,bu rfl];rfl,rfl⟩
def ltN(x y:dS):Prop:=x.o<y.o\/(x.o=y.o/\(x.b<y.b\/(x.b=y.b/\x.i<y.i)))
theorem ordN{x y:dS}(a:ltN y x):QR (Lib.compareInt x.o y.o) (Lib.compareInt x.b y.b) (Lib.compareInt x.i y.i)=1:=by
 unfold ltN at a;unfold QR Lib.compareInt;rcases a with a | ⟨b,a | ⟨c,a⟩⟩
 ·rw[bA (show ¬((x.o:Int)<(y.o:Int)) by omega),bu (show(y.o:Int)<(x.o:Int) by omega)];rfl
 ·rw[b,bA (show ¬((x.o:Int)<(x.o:Int)) by omega),bA (show ¬((x.o:Int)<(x.o:Int)) by omega),bA (show ¬((x.b:Int)<(y.b:Int)) by omega),bu (show(y.b:Int)<(x.b:Int) by omega)];rfl
 ·rw[b,c,bA (show ¬((x.o:Int)<(x.o:Int)) by omega),bA (show ¬((x.o:Int)<(x.o:Int)) by omega),bA (show ¬((x.b:Int)<(x.b:Int)) by omega),bA (show ¬((x.b:Int)<(x.b:Int)) by omega),bA (show ¬((x.i:Int)<(y.i:Int)) by omega),bu (show(y.i:Int)<(x.i:Int) by omega)];rfl
theorem BV(K H Z:Nat)(x y:dS)(b c:Value)(w:World)(h:ltN y x):Calls prog 181 #[.agg (fC K H Z x b),.agg (fC K H Z y c)] w λe a=>e=returned (int i64 1)/\Below w.heap.size w a:=by
 have q:=ae λ(d f:Int) w=>Tryz.cmp_Compare_int d f w;have o:=ae (ordN h);have d:(w.alloc (cells (fC K H Z x b) 178)).heap.size=w.heap.size+1:=by simp
 have f:=ae ((Blk.new w 178 (fC K H Z x b)).alloc (cells (fC K H Z y c) 178));have g:Sz (Blk ((w.alloc (cells (fC K H Z x b) 178)).alloc (cells (fC K H Z y c) 178)) (w.heap.size+1) 178 (fC K H Z y c)):=ae (by rw[<-d];exact Blk.new _ _ _);have p:Sz (Below w.heap.size w ((w.alloc (cells (fC K H Z x b) 178)).alloc (cells (fC K H Z y c) 178))):=ae (((aC _ _).alloc (aj _) _).alloc (by simp) _);clear d h;obtain⟨i,j,k,xt,t⟩:=x;obtain⟨l,m,n,r,u⟩:=y;unfold fC at*;simp only at*;go_enter func181,ntmps181;go_upto_region 1 with fail;generalize (w.alloc (cells #[int i64 i,int i64 j,int i64 k,int i64 K,int i64 H,int i64 Z,.int .u32 (xt:Nat),b] 178)).alloc (cells #[int i64 l,int i64 m,int i64 n,int i64 K,int i64 H,int i64 Z,.int .u32 (r:Nat),c] 178)=d at*;have v:d.cell? ⟨w.heap.size,0,none⟩=some (int i64 i):=f.o.cell 0;have z:d.cell? ⟨w.heap.size,1,none⟩=some (int i64 j):=f.o.cell 1;have A:d.cell? ⟨w.heap.size,2,none⟩=some (int i64 k):=f.o.cell 2;have C:d.cell? ⟨w.heap.size+1,0,none⟩=some (int i64 l):=g.o.cell 0;have D:d.cell? ⟨w.heap.size+1,1,none⟩=some (int i64 m):=g.o.cell 1;have E:d.cell? ⟨w.heap.size+1,2,none⟩=some (int i64 n):=g.o.cell 2
 go_region_held3 (λa=>(a.cell? ⟨w.heap.size,0,none⟩=some (int i64 i)/\a.cell? ⟨w.heap.size,1,none⟩=some (int i64 j)/\a.cell? ⟨w.heap.size,2,none⟩=some (int i64 k))/\a.cell? ⟨w.heap.size+1,0,none⟩=some (int i64 l)/\a.cell? ⟨w.heap.size+1,1,none⟩=some (int i64 m)/\a.cell? ⟨w.heap.size+1,2,none⟩=some (int i64 n)) (go_keep) (first
  | (go_at_call 225;refine(q.o _ _ _).mono ?_;rintro e a ⟨rfl,rfl⟩;go_simp)
  | (go_at_call 223;refine(Mv _ _ _ _ _ _ _ (by first | exact fe _ _ _ 0 | (go_simp;done)) (by first | exact fe _ _ _ 1 | (go_simp;done)) (by first | exact fe _ _ _ 2 | (go_simp;done)) (by rw[o.o];decide)).mono ?_;rintro e a ⟨rfl,rfl⟩;go_simp))
 all_goals(
  go_simp;go_wp2_with fail;go_ret;exact⟨congrArg (λs=>Ending.returned (Value.int .i64 s)) o.o,(p.o.alloc p.o.size _).drew⟩)
theorem Pm(K H Z:Nat)(x y:dS)(a b:Value)(w:World)(h:ltN y x):Calls prog 183 #[.agg (fC K H Z x a),.agg (fC K H Z y b)] w λc d=>c=returned (bool false)/\Below w.heap.size w d:=by
 have f:=ae λw=>BV K H Z x y a b w h;have d:(w.alloc (cells (fC K H Z x a) 178)).heap.size=w.heap.size+1:=by simp
 have g:=ae ((Blk.new w 178 (fC K H Z x a)).alloc (cells (fC K H Z y b) 178));have i:Sz (Blk ((w.alloc (cells (fC K H Z x a) 178)).alloc (cells (fC K H Z y b) 178)) (w.heap.size+1) 178 (fC K H Z y b)):=ae (by rw[<-d];exact Blk.new _ _ _);have e:Sz (Below w.heap.size w ((w.alloc (cells (fC K H Z x a) 178)).alloc (cells (fC K H Z y b) 178))):=ae (((aC _ _).alloc (aj _) _).alloc (by simp) _);clear d h;obtain⟨j,k,l,xt,s⟩:=x;obtain⟨m,n,o,p,t⟩:=y;unfold fC at*;simp only at*;go_enter func183,ntmps183;go_upto_region 1 with fail;generalize (w.alloc (cells #[int i64 j,int i64 k,int i64 l,int i64 K,int i64 H,int i64 Z,.int .u32 (xt:Nat),a] 178)).alloc (cells #[int i64 m,int i64 n,int i64 o,int i64 K,int i64 H,int i64 Z,.int .u32 (p:Nat),b] 178)=q at*;obtain⟨u,v,z,A,C,D,E,F⟩:=bW g.o;obtain⟨G,I,J,L,M,N,O,P⟩:=bW i.o;go_wp2_with fail;refine(f.o q).mono ?_;rintro c Q ⟨rfl,d⟩;have r:=ae (e.o.trans (d.mono e.o.size));clear d;go_wp2_with fail;go_ret;exact⟨rfl,r.o⟩
def uM(L:List dS):Prop:=∀a,a+1<L.length->ltN (L.getD a ym) (L.getD (a+1) ym)
theorem RD(K H Z:Nat)(L:List dS)(F:Nat->Prop)(a:SE)(n c:Nat)(w:World)(p:(rS 8 (L.map (xZ K H Z))).ok w F [slice a n c])(q:L.length=n)(M:n<=1000)(hs:uM L):
 Calls prog 311 #[slice a n c,int i64 0,int i64 n,.func (.func 181) #[] #[]] w λe k=>e=returned (.tuple #[])/\Below w.heap.size w k:=by
 have u:=ae p;have l:=ae q;have v:=ae hs;have r:=ae (aC w.heap.size w);clear p q hs;go_enter func311,ntmps311;go_wp2_with fail;go_loopw [8] (λi wr=>∃b:Nat,b<=n+1/\1<=b/\i=int i64 b/\Sz (Below w.heap.size w wr)) (λi _=>n-(intOf i).toNat)
 case atStart=>exact⟨1,by omega,by omega,rfl,r⟩
 case round=>
  clear r;obtain⟨b,N,O,rfl,f⟩:=hrel;by_cases x:b<n
  ·have y:(b:Int)<(n:Int):=by omega
   have P:(0:Int)<(b:Int):=(by omega);have z:0<b:=(by omega);have Q:decide (0<b)=true:=bq z;have R:(1:Int)<=(b:Int):=(by omega);obtain⟨d,j⟩:∃d,d=b-1:=⟨_,rfl⟩;have S:IntKind.i64.wrap ((b:Int)-1)=(d:Int):=(by rw[IntKind.wrap_i64];omega);have T:(d:Int)<(n:Int):=(by omega);have s:=ae ((rS 8 _).new u.o f.o);obtain⟨U,V,W,X,rfl,-,m,-⟩:=y9 s.o l.o x;obtain⟨Y,o',a4,c4,e,-,o,-⟩:=y9 (i:=d) s.o l.o (by omega);injection e with e;injection e with A C _;subst A C;have g:=v.o d (by rw[l.o];omega);rw[show d+1=b by omega] at g;have t:=ae λD E w=>BV K H Z (L.getD b ym) (L.getD d ym) D E w g;have m:=ae m;have o:=ae o;clear g j;generalize L.getD b ym=aa at*;generalize L.getD d ym=ab at*;unfold fC at t;go_wp2_with fail;rename World=>D;go_loopw [9] (λg wr=>g=int i64 b/\Sz (wr=D)) (λ_ _=>0)
   case atStart=>exact⟨rfl,ae rfl⟩
   case round=>
    obtain⟨rfl,E⟩:=hrel;obtain rfl:=E.o;go_upto_region 4 with fail;refine dn (by kernel_rfl) (by kernel_rfl) ?_
    iterate 17 (
     with_reducible refine wpQuiet_step (λG g=> ?_)
     go_simp
     first
     | refine g _ ?_
     | refine⟨_,λ_ _=>rfl,g _ ?_⟩
     | (apply Exists.intro
        refine⟨λk j=> ?_,g _ ?_⟩
        ·obtain⟨ac,ad,ag,ai,ak,al,am,an⟩:=(m.o.below j).c
         obtain⟨ao,ap,aq,ar,au,av,aw,ax⟩:=(o.o.below j).c
         first
         | (go_simp
            first | exact rfl | exact⟨rfl,rfl⟩)
         | (go_at_call 181
            refine(t.o _ _ k).mono ?_;rintro ay I ⟨rfl,J⟩;exact⟨rfl,j.trans (J.mono j.size)⟩))
     clear g G)
    with_reducible refine wpQuiet_nil ?_
    intro I g;have G:=ae (f.o.trans (g.mono f.o.size));clear g;go_wp2_with fail;go_roundw
    case rel=>exact⟨b+1,by omega,by omega,by go_num,G⟩
    case measure=>simp[intOf];omega
  ·have y:¬(b:Int)<(n:Int):=by omega
   go_wp2_with fail
   (try simp only[Exit.inBlock,Exit.then])
   refine bodyPost_end (results_none rfl _ _ _) rfl ?_;exact⟨rfl,f.o⟩
theorem Jb(K H Z:Nat)(L:List dS)(F:Nat->Prop)(a:SE)(n c:Nat)(w:World)(e:(rS 8 (L.map (xZ K H Z))).ok w F [slice a n c])(f:L.length=n)(l:n<=19)(hs:uM L):
 Calls prog 247 #[slice a n c,int i64 n,.func (.func 181) #[] #[]] w λg b=>g=returned (.tuple #[])/\Below w.heap.size w b:=by
 have i:=ae (RD K H Z L F a n c w e f (by omega) hs);have m:¬(20:Int)<=(n:Int):=by omega
 have o:¬(20:Int)<(n:Int):=by omega
 clear e f hs;go_enter func247,ntmps247;go_wp2_with fail;go_loopw [7,8] (λb d wr=>b=int i64 0/\d=int i64 20/\Sz (wr=w)) (λ_ _ _=>0)
 case atStart=>exact⟨rfl,rfl,ae rfl⟩
 case round=>
  obtain⟨rfl,rfl,d⟩:=hrel;obtain rfl:=d.o;go_wp2_with fail;refine i.o.mono ?_;rintro g p ⟨rfl,j⟩;have k:=ae j;clear j i;go_wp2_with fail;rename World=>j;go_loopw [6] (λb wr=>b=int i64 20/\Sz (wr=j)) (λ_ _=>0)
  case atStart=>exact⟨rfl,ae rfl⟩
  case round=>
   obtain⟨rfl,d⟩:=hrel;obtain rfl:=d.o;go_wp2_with fail
   (try simp only[Exit.inBlock,Exit.then])
   refine bodyPost_end (results_none rfl _ _ _) rfl ?_;exact⟨rfl,k.o⟩
theorem yu(K H Z:Nat)(L:List dS)(F:Nat->Prop)(a:SE)(n c:Nat)(w:World)(b:(rS 8 (L.map (xZ K H Z))).ok w F [slice a n c])(d:L.length=n)(i:n<=19)(hs:uM L):
 Calls prog 180 #[slice a n c,.func (.func 181) #[] #[]] w λe f=>e=returned (.tuple #[])/\Below w.heap.size w f:=by
 have f:=ae (Jb K H Z L F a n c w b d i hs);clear b d hs;go_enter func180,ntmps180;go_wp2_with fail;refine f.o.mono ?_;rintro e k ⟨rfl,g⟩;have j:=ae g;clear g f;go_wp2_with fail
 (try simp only[Exit.inBlock,Exit.then])
 refine bodyPost_end (results_none rfl _ _ _) rfl ?_;exact⟨rfl,j.o⟩
theorem EC(K H Z:Nat)(L:List dS)(F:Nat->Prop)(a:SE)(n c:Nat)(w:World)(q:(rS 8 (L.map (xZ K H Z))).ok w F [slice a n c])(r:L.length=n)(G:n<=1000)(hs:uM L):
 Calls prog 182 #[slice a n c,.func (.func 183) #[] #[]] w λe k=>e=returned (slice a n c)/\Below w.heap.size w k:=by
 have u:=ae q;have l:=ae r;have v:=ae hs;have m:=ae (aC w.heap.size w);clear q r hs;by_cases I:n<2
 ·have x:(n:Int)<2:=by omega
  go_enter func182,ntmps182;go_wp2_with fail;go_ret;exact⟨rfl,m.o⟩
 have x:¬(n:Int)<2:=by omega
 go_enter func182,ntmps182;go_wp2_with fail;go_loopw [5] (λi wr=>∃b:Nat,b<=n/\1<=b/\i=int i64 b/\Sz (Below w.heap.size w wr)) (λi _=>n-(intOf i).toNat)
 case atStart=>exact⟨1,by omega,by omega,rfl,m⟩
 case round=>
  clear m;obtain⟨b,J,M,rfl,f⟩:=hrel;by_cases y:b<n
  ·have N:(b:Int)<(n:Int):=by omega
   have O:(1:Int)<=(b:Int):=(by omega);obtain⟨d,j⟩:∃d,d=b-1:=⟨_,rfl⟩;have P:IntKind.i64.wrap ((b:Int)-1)=(d:Int):=(by rw[IntKind.wrap_i64];omega);have Q:(d:Int)<(n:Int):=(by omega);have s:=ae ((rS 8 _).new u.o f.o);obtain⟨R,S,T,U,rfl,-,o,-⟩:=y9 s.o l.o y;obtain⟨V,W,X,Y,e,-,p,-⟩:=y9 (i:=d) s.o l.o (by omega);injection e with e;injection e with z A _;subst z A;have g:=v.o d (by rw[l.o];omega);rw[show d+1=b by omega] at g;have t:=ae λC D w=>Pm K H Z (L.getD b ym) (L.getD d ym) C D w g;have o:=ae o;have p:=ae p;clear g j;generalize L.getD b ym=aa at*;generalize L.getD d ym=ab at*;unfold fC at t;go_upto_region 6 with fail;refine dn (by kernel_rfl) (by kernel_rfl) ?_
   iterate 11 (
    with_reducible refine wpQuiet_step (λC g=> ?_)
    go_simp
    first
    | refine g _ ?_
    | refine⟨_,λ_ _=>rfl,g _ ?_⟩
    | (apply Exists.intro
       refine⟨λk j=> ?_,g _ ?_⟩
       ·obtain⟨ac,ad,ag,ai,ak,al,am,an⟩:=(o.o.below j).c
        obtain⟨ao,ap,aq,ar,au,av,aw,ax⟩:=(p.o.below j).c
        first
        | (go_simp
           first | exact rfl | exact⟨rfl,rfl⟩)
        | (go_at_call 183
           refine(t.o _ _ k).mono ?_;rintro ay D ⟨rfl,E⟩;exact⟨rfl,j.trans (E.mono j.size)⟩))
    clear g C)
   with_reducible refine wpQuiet_nil ?_
   intro D g;have C:=ae (f.o.trans (g.mono f.o.size));clear g;go_wp2_with fail;go_roundw
   case rel=>exact⟨b+1,by omega,by omega,by go_num,C⟩
   case measure=>simp[intOf];omega
  ·obtain rfl:b=n:=by omega
   go_wp2_with fail;go_ret;exact⟨rfl,f.o⟩
theorem Lx:(prog.info? 178).map (λa=>(a.zero,a.size,a.bytes))=some (some (.agg #[int i64 0,int i64 0,int i64 0,int i64 0,int i64 0,int i64 0,.int .u32 0,slice none 0 0]),8,80):=by kernel_rfl
section
variable {B:Nat}
end
section
variable {B:Nat}
def Ny(e:eB)(r:dS):Prop:=e.obj=r.o/\r.b<e.tries.length/\r.t=iD r.o r.b (e.tries.getD r.b 0)/\r.o<=16777215/\e.tries.getD r.b 0<=16/\r.b<8
theorem Fe(K H Z ln f:Nat)(r:dS)(e:ByteArray)(T:SC)(v:Value)(c:SE)(b d:Nat)(F:Nat->Prop)(w:World)(q:Blk w f 178 (fC K H Z r v))(s:(rI T).ok w F [slice c b d])(t:T.length=b)(y:Ny ⟨e,r.o,ln,T⟩ r):
 Calls prog 246 (#[.agg (fJ ⟨e,r.o,ln,T⟩ (slice c b d))]++#[pointer (some ⟨f,0,none⟩)]) w λa g=>a=returned (bool true)/\Below w.heap.size w g:=by
 show Calls prog 246 #[.agg (fJ ⟨e,r.o,ln,T⟩ (slice c b d)),pointer (some ⟨f,0,none⟩)] w _
 have i:Sz (Sx w (w.alloc (cells (fJ ⟨e,r.o,ln,T⟩ (slice c b d)) 65)) [bY w.heap.size 65 (fJ ⟨e,r.o,ln,T⟩ (slice c b d)),bY f 178 (fC K H Z r v),eR F (slice c b d) (rI T)]):=
  ae (((((Sx.nil w).add (eR F (slice c b d) (rI T)) s).add (bY f _ _) q).alloc _).add (bY _ _ _) (Blk.new w _ _))
 obtain⟨l,a,L,z,M⟩:=r;obtain⟨-,N,k,m,n,o⟩:=y;simp only at*;have j:=λw=>ma l a (T.getD a 0) w m (Nat.le_of_lt o) n;rw[show 128*l+16*a+T.getD a 0=z from k.symm] at j;have A:=ae j;have u:=ae t;have C:a<b:=by omega
 have O:(a:Int)<(b:Int):=by omega
 clear j q s k m n o t;unfold fC fJ at*;go_enter func246,ntmps246;generalize j:w.alloc (cells #[.string e,int i64 l,int i64 ln,slice c b d] 65)=D at*;obtain⟨P,Q,m,k,-⟩:=dY (i.o.rep 2 rfl) u.o;injection m with m _ E;subst m E;obtain⟨n,o,rfl,G,x⟩:=k.2 (by omega);have I:D.cell? ⟨n,o+a,none⟩=some (int i64 (T.getD a 0:Nat)):=x a _ (dh (by rw[u.o];exact C));clear k x;generalize T.getD a 0=x at*;go_upto_region 1 with fail
 (try rw[j])
 clear j;refine dn (by kernel_rfl) (by kernel_rfl) ?_
 iterate 30 (
  with_reducible refine wpQuiet_step (λJ j=> ?_)
  go_simp
  first
  | refine j _ ?_
  | refine⟨_,λ_ _=>rfl,j _ ?_⟩
  | (apply Exists.intro
     refine⟨λg k=> ?_,j _ ?_⟩
     ·obtain⟨R,S,U,V⟩:=fO ((i.o.step k).blk 0 rfl)
      obtain⟨W,X,Y,aa,ab,ac,ad,ag⟩:=bW ((i.o.step k).blk 1 rfl);have ai:g.cell? ⟨n,o+a,none⟩=some (int i64 x):=(k.cell (p:=⟨n,o+a,none⟩) G).trans I
      first
      | (go_simp
         first | exact rfl | exact⟨rfl,rfl⟩)
      | (go_at_call 114
         refine(A.o g).mono ?_;rintro r w5 ⟨rfl,rfl⟩;exact⟨rfl,k⟩))
  clear j J)
 with_reducible refine wpQuiet_nil ?_
 intro R j;have J:=ae (i.o.step j);clear j;go_wp2_with fail;go_ret;exact⟨rfl,J.o.1⟩
theorem JM(m:cZ)(e:eB)(r:dS)(p:Value)(c n:SE)(d o:Nat)(F:Nat->Prop)(w:World)(O:m.objs=[e])(q:(rS 4 ([e].map df)).ok w F [slice c 1 d])(A:fQ m.K m.H m.Z=true)(C:r.i<=65535)(u:Ny e r):
 Calls prog 179 #[.agg (bV m p (slice c 1 d)),.agg (fC m.K m.H m.Z r (slice n m.Z o))] w λe a=>e=returned (bool true)/\Below w.heap.size w a:=by
 obtain⟨f,P,g,b⟩:=e;have Q:r.o=P:=u.1.symm;subst Q;obtain⟨v,x,i,j,a,ex,y,W⟩:=m;simp only at*;subst O;have D:=u;obtain⟨-,K,L,E,M,G⟩:=u;obtain⟨k,l⟩:∃k,k=(w.alloc (cells (bV ⟨v,x,i,j,a,ex,y,[⟨f,r.o,g,b⟩]⟩ p (slice c 1 d)) 68)).alloc (cells (fC i j a r (slice n a o)) 178):=⟨_,rfl⟩;have H:(w.alloc (cells (bV ⟨v,x,i,j,a,ex,y,[⟨f,r.o,g,b⟩]⟩ p (slice c 1 d)) 68)).heap.size=w.heap.size+1:=by simp
 have I:Sz (Below w.heap.size w k):=ae (by rw[l];exact((aC _ _).alloc (aj _) _).alloc (by simp) _)
 have z:Sz (Sx w k [bY (w.heap.size+1) 178 (fC i j a r (slice n a o)),bY w.heap.size 68 (bV ⟨v,x,i,j,a,ex,y,[⟨f,r.o,g,b⟩]⟩ p (slice c 1 d)),eR F (slice c 1 d) (rS 4 ([(⟨f,r.o,g,b⟩:eB)].map df))]):=
  ae (((((Sx.nil w).add (eR F (slice c 1 d) (rS 4 ([(⟨f,r.o,g,b⟩:eB)].map df))) q).step I.o).add (bY w.heap.size _ _) (by rw[l];exact(Blk.new w _ _).alloc _)).add (bY _ _ _) (by rw[l,<-H];exact Blk.new _ _ _))
 have t:decide (r.b<8)=true:=bq G;have s:=ae λw=>qK r.o r.b r.i i j a r.t n o w E (by omega) C A;rw[t] at s;clear t
 have t:=ae λw (q:(rS 4 ([(⟨f,r.o,g,b⟩:eB)].map df)).ok w F [slice c 1 d]) (J:Blk w (k.heap.size-1) 178 (fC i j a r (slice n a o)))=>zK (λ_=>true) 246 #[pointer (some ⟨k.heap.size-1,0,none⟩)] [(⟨f,r.o,g,b⟩:eB)] F c 1 d w q rfl (by omega) (enters_of func246 (by kernel_rfl) rfl) (λX N R S T U V=>by
  obtain rfl:=mem_singleton.1 N;exact Fe i j a g (k.heap.size-1) r f b (slice n a o) T b.length U F R (J.below S J.lt) V rfl D)
 have J:k.heap.size-1=w.heap.size+1:=by rw[l];simp
 rw[J] at t;clear J;rw[show([(⟨f,r.o,g,b⟩:eB)].any λ_=>true)=true from rfl] at t;have T:=za;have R:=Gt i j a;clear q H D K L E M G C A;obtain⟨U,V,X,Y,Z⟩:=r;simp only[tO] at s;unfold fC bV at*;simp only at*;go_enter func179,ntmps179;go_upto_region 1 with fail
 (try rw[<-l])
 have aa:=ae l;clear l;obtain⟨D,E,G,H,J,K,L,M⟩:=bW (z.o.blk 0 rfl);go_wp2_with fail;refine(s.o k).mono ?_;rintro e S ⟨rfl,N⟩;have l:=ae (z.o.step N);clear N s z I D E G H J K L M;obtain⟨D,E,G,H,J,K,L,M⟩:=bW (l.o.blk 0 rfl);obtain⟨I,N,m2,m3,m4,m5,m6,m7⟩:=bW (l.o.blk 1 rfl)
 go_wp2_with (simp only[])
 refine(t.o S (l.o.rep 2 rfl) (l.o.blk 0 rfl)).mono ?_;rintro e w2 ⟨rfl,s⟩;have z:=ae (l.o.step s);clear s t l;go_wp2_with fail;go_ret;exact⟨rfl,z.o.1⟩
def okRQ(K H Z:Nat)(e:eB)(x:Option dS×SC):Prop:=
 x.2.length=64/\By x.2/\(∀a,x.1=some a->x.2=cellL 1 (jw a.o a.b a.i K H Z a.t a.d)/\a.d.length=Z/\By a.d/\a.i<=65535/\Ny e a)/\(x.1=none->¬(iH x.2/\x.2.getD 3 0=1))
def jk(X:List (Option dS×SC)):List SC:=X.map (·.2)
theorem uA(X:List (Option dS×SC)):(jk X).length=X.length:=aG _
theorem JN(X:List (Option dS×SC)){k:Nat}(a:k<X.length):(jk X).getD k []=(X.getD k (none,[])).2:=by
 unfold jk;rw[af,af,List.getElem?_map,ah a];rfl
def fA(X:List (Option dS×SC)):List dS:=X.filterMap (·.1)
theorem JO{X:List (Option dS×SC)}{k:Nat}(a:k<X.length):fA (X.take (k+1))=fA (X.take k)++(match (X.getD k (none,[])).1 with | some b=>[b] | none=>[]):=by
 unfold fA;rw[aO a,filterMap_append];congr 1;have c:X.getD k (none,[])=X[k]:=by rw[af,ah a];rfl
 rw[c];cases h:X[k].1 with
 | none=>rw[filterMap_cons_none h];rfl
 | some b=>rw[filterMap_cons_some h];rfl
end
section
variable {B:Nat}
def jc(o b:Nat)(L:List dS):List (Nat×SC):=(L.filter λa=>a.o == o && a.b == b).map λa=>(a.i,a.d)
theorem Da(o b:Nat)(L M:List dS):jc o b (L++M)=jc o b L++jc o b M:=by unfold jc;rw[filter_append,aU]
theorem Db(o b:Nat)(L:List dS):(jc o b L).length<=L.length:=by unfold jc;rw[aG];exact length_filter_le _ _
def gN(X:Nat->List (Option dS×SC))(o b:Nat)(L:SC):List (Nat×SC):=(L.map λa=>jc o b (fA (X a))).flatten
theorem JJ(X:Nat->List (Option dS×SC))(o b:Nat)(L:SC)(s:Nat):gN X o b (L++[s])=gN X o b L++jc o b (fA (X s)):=by
 unfold gN;rw[aU,flatten_append];simp
theorem Dc{X:Nat->List (Option dS×SC)}{o b c:Nat}{L:SC}(a:∀s∈L,(fA (X s)).length<=c):(gN X o b L).length<=L.length*c:=by
 induction L with
 | nil=>simp[gN]
 | cons s L d=>
   have g:=d λe f=>a e (mem_cons_of_mem _ f);have f:=a s (mem_cons_self ..);have h:=Db o b (fA (X s));have e:gN X o b (s :: L)=jc o b (fA (X s))++gN X o b L:=rfl;rw[e,aI,length_cons,Nat.succ_mul];omega
end
theorem MV(p:SC->Bool)(g:FuncId)(u:Array Value)(L:List SC)(F:Nat->Prop)(a:SE)(n c:Nat)(w:World)(m:(rM L).ok w F [slice a n c])(v:L.length=n)(K:n<=1000000)
 (M:∀b w,(callFunc g b).run prog w=.ok (.enter g b) w)(y:∀x∈L,∀W,Below w.heap.size w W->∀o s,Rd W W.heap.size o x.length (bK x)->Calls prog g (#[slice o x.length s]++u) W λd b=>d=returned (bool (p x))/\Below W.heap.size W b):
 Calls prog 151 #[slice a n c,.func (.func g) #[] u] w λd b=>d=returned (int i64 (qf p L))/\Below w.heap.size w b:=by
 have D:=ae m;have e:=ae v;have E:=ae y;have z:=ae (aC w.heap.size w);clear m v y;go_enter func151,ntmps151;go_wp2_with fail;go_loopw [8] (λb wr=>∃k:Nat,k<=n/\b=int i64 k/\Sz (Below w.heap.size w wr)/\Sz (∀b,b<k->p (L.getD b [])=false)) (λb _=>n-(intOf b).toNat)
 case atStart=>exact⟨0,by omega,rfl,z,ae λb h=>absurd h (Nat.not_lt_zero b)⟩
 case round=>
  clear z;obtain⟨k,N,rfl,f,t⟩:=hrel;by_cases i:k<n
  ·have O:(k:Int)<(n:Int):=by omega
   obtain⟨P,Q,d,j,-⟩:=fE ((rM _).new D.o f.o) e.o;injection d with G _ H;subst G H;obtain⟨R,S,o,s,rfl,T,U,r,-⟩:=j.at i;have A:L.getD k []∈L:=(by rw[af,ah (by rw[e.o];exact i)];exact aQ _);have q:=ae (E.o (L.getD k []) A wr f.o o s r);have C:Sz (L.getD k []=L[k]'(by rw[e.o];exact i)):=ae (by rw[af,ah (by rw[e.o];exact i)];rfl);clear r A j;cases hq:p (L.getD k []) with
   | true=>
     rw[hq] at q;have A:=ae hq;clear hq;generalize L.getD k []=x at*
     go_wp2_with (go_at_fn g;refine q.o.mono ?_;rintro d I ⟨rfl,r⟩)
     go_ret
     have d:=sH (p:=p) (l:=L) (k:=k) (by rw[e.o];exact i) (by rw[<-C.o];exact A.o) λb j=>by
      have:=t.o b j
      rwa [af,ah (by rw[e.o];omega)] at this
     rw[d];exact⟨rfl,f.o.trans (r.mono f.o.size)⟩
   | false=>
     rw[hq] at q
     have A:Sz (∀b,b<k+1->p (L.getD b [])=false):=ae λb j=>by
      rcases bD b k with h | h
      ·exact t.o b h
      ·obtain rfl:b=k:=by omega
       exact hq
     clear hq C;generalize L.getD k []=x at*
     go_wp2_with (go_at_fn g;refine q.o.mono ?_;rintro d I ⟨rfl,r⟩)
     have J:=ae (f.o.trans (r.mono f.o.size));clear r;go_roundw
     case rel=>exact⟨k+1,by omega,by go_num,J,A⟩
     case measure=>simp[intOf];omega
  ·obtain rfl:k=n:=by omega
   go_wp2_with fail;go_ret;refine⟨?_,f.o⟩
   have d:=sG (p:=p) (l:=L) λx m=>by
    obtain⟨b,j,rfl⟩:=bH m;have:=t.o b (by rw[<-e.o];exact j)
    rwa [af,ah j] at this
   rw[d];rfl
theorem MW(p:SC->Bool)(g:FuncId)(d:Array Value)(L:List SC)(F:Nat->Prop)(a:SE)(n c:Nat)(w:World)(f:(rM L).ok w F [slice a n c])(k:L.length=n)(l:n<=1000000)
 (m:∀b w,(callFunc g b).run prog w=.ok (.enter g b) w)(i:∀x∈L,∀W,Below w.heap.size w W->∀b e,Rd W W.heap.size b x.length (bK x)->Calls prog g (#[slice b x.length e]++d) W λb e=>b=returned (bool (p x))/\Below W.heap.size W e):
 Calls prog 92 #[slice a n c,.func (.func g) #[] d] w λb e=>b=returned (bool (L.any p))/\Below w.heap.size w e:=by
 have e:=ae (MV p g d L F a n c w f k l m i);rw[<-xx];clear f i;generalize qf p L=q at*;go_enter func92,ntmps92;go_wp2_with fail;refine e.o.mono ?_;rintro b r ⟨rfl,j⟩;have o:=ae j;clear j e;go_wp2_with fail;go_ret;exact⟨rfl,o.o⟩
theorem EP(x y:SC)(a b:SE)(n c m e d:Nat)(w:World)(f:Rd w w.heap.size a n (bK x))(g:Rd w w.heap.size b m (bK y))(i:Blk w d 30 #[slice b m e])(k:By x)(l:By y):
 Calls prog 93 (#[slice a n c]++#[pointer (some ⟨d,0,none⟩)]) w λj o=>j=returned (bool (decide (x=y)))/\Below w.heap.size w o:=by
 show Calls prog 93 #[slice a n c,pointer (some ⟨d,0,none⟩)] w _;have o:=ae (ib x y _ _ a b n m c e w f g k l);have q:=i.cell 0;have p:=ae (aC w.heap.size w);generalize decide (x=y)=r at*;clear f g i;go_enter func93,ntmps93;go_wp2_with fail;refine o.o.mono ?_;rintro j s ⟨rfl,rfl⟩;go_wp2_with fail;go_ret;exact⟨rfl,p.o⟩
section
variable {B:Nat}
end
