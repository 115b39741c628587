import Derived.Test.YtgccllbnfngpcaaGreatDoorW5
set_option linter.unusedVariables false
set_option maxRecDepth 100000
set_option maxHeartbeats 400000000
namespace Go.Proofs.YtgccllbnfngpcaaGreatDoor
open Go.RowKit _root_.Go.Proofs.Tryz List
open Value (int slice pointer bool)
open IntKind (i64)
open Ending (returned)
open Obj (cells)
theorem wY(p:PK)(n k m c d:Nat)(f B:List PI)(a b:PK)(w:World)(hF:Fp w p)(A:RdM w w.heap.size a m f)(V:RdM w w.heap.size b m B)(W:Wf n f)(ak:Wf k B)(hn:n<=64)(hk:k<=64)(X:m<=1000000)(h0:0<m):
 Calls prog 215 #[.pointer p,slice a m c,slice b m d] w λj e=>∃v,j=returned (.tuple #[v,int i64 (jH n f B:Nat)])/\MOwn e w.heap.size v (jI n f B)/\Below w.heap.size w e:=by
 have g:=ae (yw n m f _ a c w A W hn X);have l:=ae (yw k m B _ b d w V ak hk X);have e:=ae (xc f _ a m c w A X);rw[lY W (λj=>by rw[j] at A;have:=A.len;simp at this;omega)] at e;have q:=ae (Eo f _ a m c w A (aj _) (λo s=>by have:=(W o s).1;omega) X);have br:((m:Int) != (m:Int))=false:=by simp
 have bs:((m:Int) == 0)=false:=by rw[beq_eq_false_iff_ne];omega
 have HB:=ae V;have al:=ae A.len;have bt:=ae V.len;have am:=ae W;have aE:=ae ak;have HF:=ae hF;have N:PH (f.length=B.length):=ae (by rw[A.len,V.len]);clear A V W ak hF;go_enter func215,ntmps215;go_wp2_with fail;refine g.o.mono ?_;rintro j w1 ⟨rfl,rfl⟩;go_wp2_with fail;refine l.o.mono ?_;rintro j w1 ⟨rfl,rfl⟩;go_wp2_with fail;refine e.o.mono ?_;rintro j w1 ⟨rfl,rfl⟩;go_wp2_with fail;refine q.o.mono ?_;rintro j w1 ⟨o,F,rfl,O,x⟩;have aF:PH (MOwn w1 w.heap.size (slice (some ⟨o,0,none⟩) m F) (og f B 0)):=ae O;have t:=ae x;have a5:w.heap.size<=o:=by obtain⟨g2,j,y,_⟩:=O.form h0;injection j with j;injection j with j;omega
 clear O x g l e q;generalize e:w.heap.size=s at*;have z:=ae e;clear e;go_wp2_with fail;go_loopw [10,43] (λ_ i wr=>∃r:Nat,r<=m/\i=int i64 r/\PH (MOwn wr s (slice (some ⟨o,0,none⟩) m F) (og f B r))/\PH (Below s w wr)) (λ_ i _=>m-(intOf i).toNat)
 case atStart=>exact⟨0,by omega,rfl,aF,t⟩
 case round=>
  clear aF t;obtain⟨r,hr,rfl,C,t⟩:=hrel;have aK:s<=wr.heap.size:=(by have:=t.o.size;have:=z.o;omega);by_cases Y:r<m
  ·have aL:(r:Int)<(m:Int):=by omega
   have q:r<f.length:=(by rw[al.o];exact Y);have D:=FX N.o q;obtain⟨e,g,T,U,u⟩:=C.o.at2 Y (r:=n) (by rw[D];exact(am.o.get q).1);rw[D] at u;obtain⟨l,oB,E,cB,rfl,aw,G,H,L,-,-⟩:=(HB.o.below t.o (aj _)).at Y;have I:=aE.o.get (i:=r) (by rw[<-N.o];exact q);have J:=am.o.get q;rw[I.1] at G H;have Z:=ae (FY N.o q);have ab:=ae u;have ac:PH (Rd wr.drew s E k (bF (B.getD r []))):=ae H;have ad:=ae L
   have ag:PH ((Value.slice e n g).ownBlock=none\/(Value.slice e n g).ownBlock≠some o):=ae (by
    obtain⟨vs,h⟩:=C.o;have:=own_ne u h.hd uD;simpa[Value.ownBlock] using this)
   have K:wr.drew.ownsRow s 5 1 (slice e n g) n (bF (f.getD r [])):=by
    have h:=u;unfold OwnB at h;rw[J.1] at h;exact h
   have ax:PH ((Value.slice e n g).ownBlock≠some l):=ae (λj=>by have:=(K.lt _ j).1;omega);have ai:=ae K;have an:=ae J;have ao:=ae I;have ap:=ae (iI (B.getD r []));have ay:o<wr.heap.size:=(by obtain⟨g2,j,_,h2⟩:=C.o.form h0;injection j with j;injection j with j;omega);clear u D H L K J I;have H:=ae T;have aq:=ae U;have aA:=ae G;go_wp2_with fail
   go_region_law (first
    | (refine pz (P:=prog) (w:=wr.drew) rfl _ _ 30 rfl s 5 (.int .u8 0) 1 underlying30 iW rfl (slice e n g) n (bF (f.getD r [])) rfl ai.o s E k cB (bF (B.getD r [])) rfl ad.o ac.o ap.o (by omega) (by unfold maxLen;omega) (by exact aK) ?_
       intro v' u I D au;obtain⟨J,K,rfl,-⟩:=mV I;have L:u.heap[o]? =wr.heap[o]? :=D.block o ay (ag.o.elim (λh=>by rw[h];simp) (λh j=>h j.symm));have kc:u.cell? ⟨o,r,none⟩=some (slice e n g):=(World.cell?_of_block (w:=wr) (a:=⟨o,r,none⟩) L).trans H.o;have aD:u.heap[l]? =wr.heap[l]? :=D.block l (by have:=aw;have:wr.drew.heap.size=wr.heap.size:=rfl;omega) (λj=>ax.o j.symm);have kb:u.cell? ⟨l,oB+r,none⟩=some (slice E k cB):=(World.cell?_of_block (w:=wr) (a:=⟨l,oB+r,none⟩) aD).trans aA.o;have kf:u.frozen? ⟨o,r,none⟩=false:=(World.frozen?_of_block (w:=wr) (a:=⟨o,r,none⟩) L).trans aq.o))
   all_goals(
    have av:OwnB u s (slice J (n+k) K) (f.getD r []++B.getD r []):=by
     unfold OwnB;rw[aH,an.o.1,ao.o.1];have j:bF (f.getD r []++B.getD r [])=bF (f.getD r [])++bF (B.getD r []):=(by simp[bF]);rw[j];exact I
    have R:wr.grownBy u (Value.slice e n g).ownBlock:=grownBy_trans (iN (grownBy_refl wr _) 1) D;have S:=C.o.reput Y H.o R av (au.elim (λh=>.inl h) (λh=>.inr (by rw[h];rfl)));rw[Z.o] at S;have Q:=ae ((t.o.trans (oF R (λo hg=>(ab.o.lt o hg).1) aK)).setCell (p:=⟨o,r,none⟩) a5 (slice J (n+k) K));have aa:=ae S;clear S R av I D au kc kf L;clear C t T U ab ai ac ad ag Z an ao ap H aq G;generalize u.setCell ⟨o,r,none⟩ (slice J (n+k) K)=w4 at*;go_wp2_with fail;go_roundw
    case rel=>exact⟨r+1,by omega,by go_num,aa,Q⟩
    case measure=>simp[intOf];omega)
  ·obtain rfl:r=m:=by omega
   have e:og f B r=dC f B:=(by rw[<-al.o];exact Cg N.o);rw[e] at C;clear e Y;have g:=ae (tO N.o am.o aE.o);have l:PH ((dC f B).length=r):=ae (by rw[eC N.o];exact al.o);have e:PH (Fp wr p):=ae (HF.o.below t.o (by rw[z.o];exact aj _));go_wp2_with fail;refine(z8 p wr e.o).mono ?_;rintro j u ⟨gf,rfl,E,x⟩;have q:=ae (C.o.new x);have D:=ae (t.o.trans (x.mono (by have:=t.o.size;have:=z.o;omega)));have G:=ae E;clear E x C t e HF;have a6:s<=u.heap.size:=(by have:=D.o.size;have:=z.o;omega);have E:=ae (vM gf (n+k) r n F s (dC f B) (some ⟨o,0,none⟩) u G.o q.o g.o (by omega) a6 X (by omega));obtain⟨ls,e⟩:=iV g.o n;have an:=e.le;rw[jE,l.o] at an;have ao:=ae e.wf;have ap:PH ((dc (dC f B) n).1.length=r):=ae (by rw[jE];exact l.o)
   have bv:(dc (dC f B) n).2<=n:=by
    have:=e.up;rw[<-e.cnt];exact NU e.up e.lt
   have HC:PH (jH n f B=if (dc (dC f B) n).2<n then 9 else if iH (dc (dC f B) n).1 (dc (dC f B) n).2 then 10 else 0):=ae rfl;have HR:PH (jI n f B=if jH n f B=0 then ((dc (dC f B) n).1.take (dc (dC f B) n).2).map (List.drop n) else []):=ae rfl;have a7:r<=F:=q.o.caps.2.1;clear e g l;generalize (dc (dC f B) n).1=l at*;generalize (dc (dC f B) n).2=e at*;go_wp2_with fail;refine E.o.mono ?_;rintro j w3 ⟨rfl,O,x⟩;have aa:=ae O;have Q:=ae (D.o.trans x);clear O x q D E G;have bw:e<=F:=(by omega);by_cases aL:e<n
   ·have aM:(e:Int)<(n:Int):=by omega
    have G:jH n f B=9:=(by rw[HC.o,bg aL]);have g:jI n f B=[]:=(by rw[HR.o,G,bh (by decide)]);have E:=ae G;have K:=ae g;clear HC HR G g;go_wp2_with fail;go_ret2;exact⟨_,by rw[E.o];rfl,by rw[K.o];exact MOwn.nil _ _,by rw[z.o];exact Q.o⟩
   ·have aM:¬(e:Int)<(n:Int):=by omega
    obtain rfl:e=n:=(by omega);have D:=aa.o.rdM.drop a7 an;have ag:PH ((l.drop e).length=r-e):=ae (by rw[length_drop,ap.o]);have aO:PH (Wf (e+k) (l.drop e)):=ae (λab U=>ao.o ab (mem_of_mem_drop U));have aq:PH (jH e f B=if iH l e then 10 else 0):=ae (by rw[HC.o,bh (by omega)]);have bx:¬(e:Int)<(e:Int):=(by omega);clear HC aM aL;by_cases au:F=e
    case' pos=>
     rw[bg au] at D;have ad:=ae D;clear D;go_wp2_with fail
    case' neg=>
     rw[bh au] at D
     have D:RdM w3 w3.heap.size (some ⟨o,e,none⟩) (r-e) (l.drop e):=by
      simpa[Addr.add_lit] using D
     have ad:=ae D;clear D;go_wp2_with fail
    all_goals(
     clear au;generalize g:r-e=R at*;have a8:=ae g;have b0:R<=1000000:=(by omega);clear g;go_loopw [13,71] (λ_ i wr=>∃q:Nat,q<=R/\i=int i64 q/\PH (∃S,wr=w3.drewN S)/\PH (∀g,g<q->iB ((l.drop e).getD g [])<0)) (λ_ i _=>R-(intOf i).toNat)
     case atStart=>exact⟨0,by omega,rfl,ae ⟨0,rfl⟩,ae (λg h=>by omega)⟩
     case round=>
      obtain⟨q,hj,rfl,I,HN⟩:=hrel;obtain⟨S,H⟩:=I.o;clear I;by_cases av:q<R
      ·have aD:(q:Int)<(R:Int):=by omega
       obtain⟨b1,o1,a1,I,G,a9,ac,T,-,-,-⟩:=ad.o.at av;have k1:wr.cell? ⟨b1,o1+q,none⟩=some (slice a1 ((l.drop e).getD q []).length I):=(by rw[H];exact ac);have L:=aO.o.get (i:=q) (by rw[ag.o];exact av);have CL:=ae (JR ((l.drop e).getD q []) w3.heap.size a1 ((l.drop e).getD q []).length I wr (by rw[H];exact T) (by unfold By;exact L.2) (by unfold maxLen;rw[L.1];omega));rw[L.1] at k1 CL;cases G
       try simp only[Nat.zero_add] at k1
       have aw:PH (0<=iB ((l.drop e).getD q [])->jH e f B=10/\jI e f B=[]):=ae (λh=>by
        have y:jH e f B=10:=(by rw[aq.o,FZ (by rw[ag.o];exact av) h];rfl);exact⟨y,by rw[HR.o,y,bh (by decide)]⟩)
       have ax:PH (iB ((l.drop e).getD q [])<0->∀g,g<q+1->iB ((l.drop e).getD g [])<0):=ae (λh g J=>by
        rcases bq g q with y | y
        ·exact HN.o g y
        ·rw[show g=q by omega];exact h)
       have HZ:=ae H;clear ac T L HN H;generalize iB ((l.drop e).getD q [])=ld at*;by_cases aA:0<=ld
       ·obtain⟨E,K⟩:=aw.o aA
        have ai:=ae E;have ay:=ae K;clear E K aw ax;go_wp2_with fail;refine CL.o.mono ?_;rintro j w4 ⟨rfl,L,rfl⟩;go_wp2_with fail;go_ret2;exact⟨_,by rw[ai.o];rfl,by rw[ay.o];exact MOwn.nil _ _,by rw[z.o,HZ.o];exact below_drewN (below_drewN Q.o S) L⟩
       ·have E:=ae (ax.o (by omega))
        clear aw ax;go_wp2_with fail;refine CL.o.mono ?_;rintro j w4 ⟨rfl,L,rfl⟩;go_wp2_with fail;go_roundw
        case rel=>exact⟨q+1,by omega,by go_num,ae ⟨S+L,by rw[HZ.o,World.drewN_drewN]⟩,E⟩
        case measure=>simp[intOf];omega
      ·obtain rfl:q=R:=by omega
       have ai:PH (jH e f B=0):=ae (by rw[aq.o,zX (λg J=>by have:=HN.o g (by rw[ag.o] at J;exact J);omega)];rfl);have L:PH (MOwn wr s (slice (some ⟨o,0,none⟩) r F) l):=ae (by rw[H];exact aa.o.drewN S);have aR:PH (Below s w wr):=ae (by rw[H];exact below_drewN Q.o S);have ay:PH (jI e f B=(l.take e).map (List.drop e)):=ae (by rw[HR.o,bg ai.o]);clear HN H aa Q ad aq HR a8;have bb:=ae (L.o.take an).rdM;have aw:PH ((l.take e).length=e):=ae (by rw[aG,ap.o];omega);have bc:PH (Wf (e+k) (l.take e)):=ae (λab U=>ao.o ab (bD U));have b2:0<=e:=bu _;have aS:PH (((l.take e).map (List.drop e)).length=e):=ae (by rw[aC];exact aw.o)
       have bd:PH (∀g,g<e->((l.take e).map (List.drop e)).take (g+1)=((l.take e).map (List.drop e)).take g++[((l.take e).getD g []).drop e]):=ae (λg J=>by
        have aT:g<((l.take e).map (List.drop e)).length:=by rw[aS.o];exact J
        have y:((l.take e).map (List.drop e))[g]? =some (((l.take e).getD g []).drop e):=by
         rw[List.getElem?_map,mW (M:=l.take e) (by rw[aw.o];exact J)];rfl
        rw[ah aT] at y;rw[aN aT,Option.some.inj y])
       have K:PH (MOwn wr wr.heap.size (slice none 0 0) (((l.take e).map (List.drop e)).take 0)):=ae (MOwn.nil _ _);have E:PH (Below wr.heap.size wr wr):=ae (az _ _);have aV:s<=wr.heap.size:=(by have:=aR.o.size;have:=z.o;omega);clear L ap ag aO ao;generalize (l.take e).map (List.drop e)=RR at*;generalize l.take e=XT at*;rename World=>U;go_wp2_with fail;go_loopw [14,16,83] (λL _ i wr=>∃g:Nat,g<=e/\i=int i64 g/\PH (MOwn wr U.heap.size L (RR.take g))/\PH (Below U.heap.size U wr)) (λ_ _ i _=>e-(intOf i).toNat)
       case atStart=>exact⟨0,by omega,rfl,K,E⟩
       case round=>
        clear K E;obtain⟨g,J,rfl,K,E⟩:=hrel;by_cases ax:g<e
        ·have b3:(g:Int)<(e:Int):=by omega
         obtain⟨b1,o1,a1,I,G,a9,ac,T,aD,aX,be⟩:=(bb.o.below E.o (aj _)).at ax;have a0:=bc.o.get (i:=g) (by rw[aw.o];exact ax);rw[a0.1] at ac T aX;cases G;rw[Nat.zero_add] at ac;have bi:1<=e:=(by omega);have bj:e<=I:=(by omega);have L:=Nu T aX (n:=e) (by omega);rw[Nat.add_sub_cancel_left] at L;have ad:=KS aD bi bj;have aA:U.heap.size<=wr.heap.size:=E.o.size;have Z:=ae (bd.o g ax);have b5:e+k-e=k:=(by omega);have bk:(RR.take g).length<=1000000:=(by rw[aG];omega);have b6:(I:Int)<=9223372036854775807:=(by unfold maxLen at be;omega);clear T aD a0;generalize (XT.getD g []).drop e=a0 at*;by_cases aD:I=e
         case' pos=>
          rw[bg aD] at L ad;have CC:=ae (dJ a0 U.heap.size a1 k 0 wr L aA (λj=>rfl) (by omega));clear L ad;go_wp2_with fail
         case' neg=>
          rw[bh aD] at L ad;have CC:=ae (dJ a0 U.heap.size (Option.map (λab=>ab.add e) a1) k (I-e) wr L aA ad (by omega));clear L ad;go_wp2_with fail
         all_goals(
          refine CC.o.mono ?_;rintro j w5 ⟨b7,rfl,hu,ab⟩;obtain⟨ua,uc,rfl,-⟩:=hu.rd;have HU:=ae hu;have a3:=ae ab;clear hu ab CC aD
          go_wp2_with (at_builtin;refine rq (w0:=wr) (w1:=w5) rfl _ _ rfl K.o a3.o HU.o aA bk rfl rfl ?_)
          intro v' w6 ab a4 bl bm;rw[<-Z.o] at ab;have bo:=ae ab;have bp:=ae (E.o.trans a4);clear ab a4 bl bm K E a3 HU Z;go_wp2_with fail;go_roundw
          case rel=>exact⟨g+1,by omega,by go_num,bo,bp⟩
          case measure=>simp[intOf];omega)
        ·obtain rfl:g=e:=by omega
         rw[aJ (by rw[aS.o];exact aj _)] at K;have G:PH (MOwn wr s u14 RR):=ae (K.o.base aV);have I:=ae (aR.o.trans (E.o.mono aV));go_wp2_with fail;go_ret2;exact⟨_,by rw[ai.o];rfl,by rw[ay.o,z.o];exact G.o,by rw[z.o];exact I.o⟩)
def jk(Z:Nat)(x:PI)(K:Nat):List PI:=(range K).map λa=>(x.drop (a*Z)).take Z
theorem pQ{K Z:Nat}{x:PI}(b:By x)(g:x.length=K*Z):Wf Z (jk Z x K)/\(jk Z x K).length=K:=by
 refine⟨λh c=> ?_,by unfold jk;simp⟩;obtain⟨d,a,rfl⟩:=aY.1 c;have a:=bA.1 a;have:=Nat.mul_le_mul_right Z (show d+1<=K by omega);rw[Nat.succ_mul] at this;exact⟨by rw[aG,length_drop];omega,λe f=>b e (mem_of_mem_drop (bD f))⟩
def wh(K H Z:Nat)(s:Int)(x:PI):List PI:=jI (K+H) (eP K H Z s (range K)) (jU H Z (jk Z x K))
theorem mL{K H Z:Nat}{s:Int}{x:PI}(c:fB K H Z=true)(a:By x)(b:x.length=K*Z)(d:dK K H Z s (range K)=true):
 jH (K+H) (eP K H Z s (range K)) (jU H Z (jk Z x K))=0/\MidOK K H Z s (wh K H Z s x)/\∀i,i<K->gN K H Z s (wh K H Z s x) i=(jk Z x K).getD i []:=
 OV c (pQ a b).1 (pQ a b).2 (ba d)
theorem BA(K H Z:Nat)(s:Int)(x:PI)(a:PK)(n c:Nat)(w:World)(z:fB K H Z=true)(W:0<=s)(ac:s<4294967296)(T:Rd w w.heap.size a n (bF x))(d:By x)(t:n=K*Z)(hc:n<=c)(hm:c<=maxLen)(X:dK K H Z s (range K)=true):
 Calls prog 158 #[dD K H Z,.int .u32 s,slice a n c] w λf l=>∃g v,f=returned (.tuple #[pointer (some ⟨g,0,none⟩),int i64 0])/\w.heap.size<=g/\Blk l g 269 #[int i64 K,int i64 H,int i64 Z,.int .u32 s,v]/\(rM (wh K H Z s x)).ok l (Fr w.heap.size) [v]/\Below w.heap.size w l:=by
 have p:=ba z;have b:x.length=n:=by have:=T.len;rwa [bG] at this
 obtain⟨m,q,-⟩:=mL z d (by rw[b,t]) X;have e:=ae λw=>fK K H Z w;rw[z] at e;have j:=ae λw=>lH K H Z s w z W ac;rw[X] at j;have CF:=ae λw=>qC K H Z w z;have CX:=ae λa c w (h:Rd w w.heap.size a K (bH (range K)))=>oz K H Z s (range K) a K c w z W ac h (λu i=>by have:=bA.1 i;omega) (by omega);have am:=ae (mY (s:=s) (ids:=range K) z λu i=>by have:=bA.1 i;omega);have an:PH ((eP K H Z s (range K)).length=K+H):=ae (by rw[qh,aZ];omega);have ao:=ae (Em (H:=H) (pQ (K:=K) d (by rw[b,t])).1);have ap:=ae (pQ (K:=K) (Z:=Z) d (by rw[b,t])).2;have aE:=ae (pQ (K:=K) (Z:=Z) d (by rw[b,t])).1;have aK:K*Z<=16*24:=bn (by omega) (by omega);have aL:(K:Int)*(Z:Int)=(n:Int):=by rw[t,Int.natCast_mul]
 have aq:PH (wh K H Z s x=jI (K+H) (eP K H Z s (range K)) (jU H Z (jk Z x K))):=ae rfl
 have I:PH (Sx w (w.alloc (cells #[int i64 K,int i64 H,int i64 Z] 25)) [bS w.heap.size 25 #[int i64 K,int i64 H,int i64 Z],mF a n (bF x)]):=
  ae (((((Sx.nil w).add (mF a n (bF x)) T).alloc _).add (bS _ _ _) (Blk.new w 25 #[int i64 K,int i64 H,int i64 Z])))
 have y:w.heap.size<(w.alloc (cells #[int i64 K,int i64 H,int i64 Z] 25)).heap.size:=by simp
 have hX:PH (Rd w w.heap.size a n (bF x)):=ae T;have aO:=ae d;have aS:K<=16:=by omega
 have aT:H<=4:=by omega
 have aX:Z<=24:=by omega
 have a0:1<=K:=by omega
 have a1:1<=Z:=by omega
 have ar:=ae t;unfold maxLen at hm;have au:∀w:World,(Instr.makeSlice 30 (int i64 (Z:Int)) (int i64 (Z:Int))).run prog w=.ok (slice (some ⟨w.heap.size,0,none⟩) Z Z) (w.alloc (cells (bK (replicate Z 0)) 5)):=λw=>dR (n:=Z) (by omega) w;have a2:=ae m
 have av:=ae λ(g c r:Nat) (a i:PK) (w:World) (U:Fld w g) (A:RdM w w.heap.size a (K+H) (eP K H Z s (range K))) (C:RdM w w.heap.size i (K+H) (jU H Z (jk Z x K)))=>
  (wY (some ⟨g,0,none⟩) (K+H) Z (K+H) c r (eP K H Z s (range K)) (jU H Z (jk Z x K)) a i w (Fp.of U) A C am.o ao.o (by omega) (by omega) (by omega) (by omega)).mono λf l (h:∃v,f=returned (.tuple #[v,int i64 (jH (K+H) (eP K H Z s (range K)) (jU H Z (jk Z x K)):Nat)])/\MOwn l w.heap.size v (jI (K+H) (eP K H Z s (range K)) (jU H Z (jk Z x K)))/\Below w.heap.size w l)=>
    (by obtain⟨v,V,Y,h3⟩:=h;rw[m] at V;exact⟨v,V,by rw[aq.o];exact Cq Y,h3⟩:∃v,f=returned (.tuple #[v,int i64 ((0:Nat):Int)])/\(rM (wh K H Z s x)).ok l (Fr w.heap.size) [v]/\Below w.heap.size w l)
 clear T b p z X d m q t;unfold dD at e j CF CX ⊢;go_enter func158,ntmps158;go_wp2_with fail;generalize b:w.alloc (cells #[int i64 K,int i64 H,int i64 Z] 25)=a3 at*;clear b;refine(e.o _).mono ?_;rintro f aw ⟨rfl,d⟩;have b:=ae (I.o.step d);have ax:w.heap.size<aw.heap.size:=aW y d.size;obtain⟨p,q,r⟩:=pF (b.o.blk 0 rfl);clear d e I y;go_wp2_with fail;refine(j.o _).mono ?_;rintro f e ⟨rfl,d⟩;have I:=ae (b.o.step d);have W:w.heap.size<e.heap.size:=aW ax d.size;clear d j b p q r;obtain⟨p,q,r⟩:=pF (I.o.blk 0 rfl);have ad:PH (OwnS e e.heap.size 30 1 (Fr e.heap.size) (slice none 0 0) ((replicate 0 (replicate Z 0)).map rB)):=ae (OwnS.nil _ _ _ _ _);have ag:=ae (az e.heap.size e);go_wp2_with fail;go_loopw [8,31] (λv u wr=>∃k:Nat,k<=H/\u=int i64 k/\PH (OwnS wr e.heap.size 30 1 (Fr e.heap.size) v ((replicate k (replicate Z 0)).map rB))/\PH (Below e.heap.size e wr)) (λ_ u _=>H-(intOf u).toNat)
 case atStart=>exact⟨0,by omega,rfl,ad,ag⟩
 case round=>
  clear ad ag p q r;obtain⟨k,a4,rfl,j,m⟩:=hrel;have y:=ae (I.o.step m.o);obtain⟨A,N,O,rfl⟩:=j.o.sl;obtain⟨p,q,r⟩:=pF (y.o.blk 0 rfl);have C:=m.o.size;by_cases a5:k<H
  ·have ai:(k:Int)<(H:Int):=by omega
   have aa:((replicate k (replicate Z 0)).map rB).length<=1000000:=(by simp;omega);have ab:PH ((replicate (k+1) (replicate Z 0)).map rB=(replicate k (replicate Z 0)).map rB++[rB (replicate Z 0)]):=ae (by rw[replicate_succ',aU];rfl);have b:=Blk.new wr 5 (bK (replicate Z 0));have D:=(az wr.heap.size wr).alloc (aj _) (cells (bK (replicate Z 0)) 5);have E:=ae D
   have P:PH ((rB (replicate Z 0)).ok (wr.alloc (cells (bK (replicate Z 0)) 5)) (λi=>Fr e.heap.size i/\some i≠(Value.slice A N O).ownBlock) [slice (some ⟨wr.heap.size,0,none⟩) Z Z]):=ae (by
    have:=mq (F:=λi=>Fr e.heap.size i/\some i≠(Value.slice A N O).ownBlock) b ⟨C,λf=>by have:=(j.o.lt _ f.symm).2;omega⟩ (by rw[aI];unfold maxLen;omega)
    rwa [aI] at this)
   have L:(wr.alloc (cells (bK (replicate Z 0)) 5)).heap.size=wr.heap.size+1:=(by simp);clear b D
   go_wp2_with (first
    | simp only[]
    | (at_builtin;refine gT (w:=wr) (w1:=wr.alloc (cells (bK (replicate Z 0)) 5)) rfl _ _ rfl underlying45 dA rfl (by decide) (by decide) j.o E.o C aa (R:=rB (replicate Z 0)) P.o rfl rfl (by rw[L];rfl) ?_))
   intro v6 w6 D Q;rw[<-ab.o] at D;have S:=ae D;have J:=ae (m.o.trans Q);clear D Q j P E y p q r m;obtain⟨b6,n6,c6,rfl⟩:=S.o.sl;go_wp2_with fail;go_roundw
   case rel=>exact⟨k+1,by omega,by go_num,S,J⟩
   case measure=>simp[intOf];omega
  ·obtain rfl:k=H:=by omega
   have ai:PH (OwnS wr e.heap.size 30 1 Any (slice A N O) (((replicate k (replicate Z 0))++jk Z x 0).map rB)):=ae (by
    have:=j.o.base (aj _) (G:=Any) λ_ _=>trivial;unfold jk;rw[range_zero,map_nil,append_nil];exact this)
   rename World=>wo;clear j;go_wp2_with fail;go_loopw [8,42] (λv u wr=>∃b:Nat,b<=K/\u=int i64 b/\PH (OwnS wr e.heap.size 30 1 Any v (((replicate k (replicate Z 0))++jk Z x b).map rB))/\PH (Below e.heap.size e wr)) (λ_ u _=>K-(intOf u).toNat)
   case atStart=>exact⟨0,by omega,rfl,ai,m⟩
   case round=>
    clear ai m y p q r C;obtain⟨b,a6,rfl,j,m⟩:=hrel;have y:=ae (I.o.step m.o);obtain⟨A,N,O,rfl⟩:=j.o.sl;obtain⟨p,q,r⟩:=pF (y.o.blk 0 rfl);have C:=m.o.size;by_cases a7:b<K
    ·have a8:(b:Int)<(K:Int):=by omega
     have aa:(((replicate k (replicate Z 0))++jk Z x b).map rB).length<=1000000:=(by unfold jk;simp;omega);have ay:=Nat.mul_le_mul_right Z (show b+1<=K by omega);rw[<-ar.o,Nat.succ_mul] at ay;obtain⟨i,ak,rfl,d,al⟩:=qD (y.o.rd 1 rfl) (o:=b*Z) (k:=Z) (by omega) (by omega);obtain⟨b',p',u,a9,-⟩:=hX.o.2 (by omega);injection u with u;injection u with u e2 _;subst u e2;have ab:PH (((replicate k (replicate Z 0))++jk Z x (b+1)).map rB=((replicate k (replicate Z 0))++jk Z x b).map rB++[rB ((x.drop (b*Z)).take Z)]):=ae (by unfold jk;simp[range_succ]);have bb:(b:Int)*(Z:Int)=((b*Z:Nat):Int):=(by rw[Int.natCast_mul]);have bc:((b:Int)+1)*(Z:Int)=((b*Z+Z:Nat):Int):=by rw[Int.add_mul,Int.one_mul,Int.natCast_add,Int.natCast_mul]
     have P:PH ((rB ((x.drop (b*Z)).take Z)).ok wr (λi=>Any i/\some i≠(Value.slice A N O).ownBlock) [slice (some ⟨i,ak+b*Z,none⟩) Z (c-b*Z)]):=ae (by
      obtain⟨V,Y⟩:=al;refine⟨_,Z,c-b*Z,rfl,by omega,by unfold maxLen;omega,λf=>(by cases f),V,λt=> ?_⟩;obtain⟨b3,o3,E,_,aA⟩:=Y t;injection E with E;injection E with E e4 _;subst E e4;exact⟨i,ak+b*Z,rfl,⟨trivial,λf=>by have:=(j.o.lt _ f.symm).1;omega⟩,aA⟩)
     have HW:=ae (az wr.heap.size wr);generalize ((replicate k (replicate Z 0))++jk Z x b).map rB=LL at*;generalize (x.drop (b*Z)).take Z=aB at*;generalize aD:b*Z=L at*;clear aD al;have al:(L:Int)<=(L:Int)+(Z:Int):=(by omega);have aD:(L:Int)+(Z:Int)<=(c:Int):=(by omega);have bd:¬c=L:=(by omega);have be:L+Z-L=Z:=by omega
     go_wp2_with (at_builtin;refine gT (w:=wr) (w1:=wr) rfl _ _ rfl underlying45 dA rfl (by decide) (by decide) j.o HW.o C aa (R:=rB aB) P.o rfl rfl rfl ?_)
     intro v6 w6 D Q;rw[<-ab.o] at D;have S:=ae D;have J:=ae (m.o.trans Q);clear D Q j P y p q r m;obtain⟨b6,n6,c6,rfl⟩:=S.o.sl;go_wp2_with fail;go_roundw
     case rel=>exact⟨b+1,by omega,by go_num,S,J⟩
     case measure=>simp[intOf];omega
    ·obtain rfl:b=K:=by omega
     have D:=j.o.rep;have L:(jU k Z (jk Z x b)).length=b+k:=(by unfold jU;rw[aH,aI,ap.o];omega);obtain⟨aR,cR,eR,P,-⟩:=eZ (M:=jU k Z (jk Z x b)) D L;injection eR with u e2 E;subst u e2 E;have S:=ae (y.o.add (ww A (b+k) (jU k Z (jk Z x b))) P);have aA:e.heap.size<=wr.heap.size:=C;clear D L P j m y C p q r;go_wp2_with fail;obtain⟨p,q,r⟩:=pF (S.o.blk 1 rfl);generalize P:w.heap.size=D at*;have L:=ae P;clear P
     go_region_held3 (λl=>l.cell? ⟨D,0,none⟩=some (int i64 b)/\l.cell? ⟨D,1,none⟩=some (int i64 k)/\l.cell? ⟨D,2,none⟩=some (int i64 Z)) (go_keep) (first
      | (go_at_call 216
         refine(oV _).mono ?_;rintro f wA ⟨g,rfl,l,U,d⟩;have S3:=ae ((S.o.drew.step d).add (bS g 337 oZ) U);obtain⟨n0,n1,n2⟩:=pF (S3.o.blk 2 rfl);clear l U d)
      | (go_at_call 218
         refine(CF.o _).mono ?_;rintro f wB ⟨vf,rfl,l,d⟩;obtain⟨aF,cF,rfl,Q,-⟩:=dI (gH l) aZ;have P:=ae ((S3.o.step d).add (mF aF b (bH (range b))) Q);obtain⟨m0,m1,m2⟩:=pF (P.o.blk 3 rfl);clear d l Q)
      | (go_at_call 217
         refine(CX.o _ _ _ (P.o.rd 0 rfl)).mono ?_;rintro f wC ⟨vm,rfl,Q,d⟩;obtain⟨aM,cM,rfl,U,-⟩:=eZ Q an.o;have l:=ae ((P.o.step d).add (ww aM (b+k) (eP b k Z s (range b))) U);obtain⟨q0,q1,q2⟩:=pF (l.o.blk 4 rfl);clear Q U d)
      | (go_at_call 215
         refine(av.o g _ _ aM A _ (l.o.blk 2 rfl) (l.o.get 0 rfl) (l.o.get 3 rfl)).mono ?_;rintro f Q ⟨vs,rfl,U,d⟩;obtain⟨aV,nV,cV,rfl⟩:=kO U;have S6:=ae (l.o.step d);have HV:=ae U;have aB:=d.size;obtain⟨p0,p1,p2⟩:=pF (S6.o.blk 4 rfl);clear U d))
     all_goals(
      have J:=ae S6.o.1;have U:=l.o.1.size;have aa:=ae ((J.o.mono (by rw[L.o];exact aj _)).alloc (B:=D) (by have:=J.o.size;have:=L.o;omega) (cells #[int i64 b,int i64 k,int i64 Z,.int .u32 s,slice aV nV cV] 269));have ab:=ae (Blk.new Q 269 #[int i64 b,int i64 k,int i64 Z,.int .u32 s,slice aV nV cV]);have ak:=ae ((rM (wh b k Z s x)).new HV.o ((az Q.heap.size Q).alloc (aj _) (cells #[int i64 b,int i64 k,int i64 Z,.int .u32 s,slice aV nV cV] 269)));have al:D<=wC.heap.size:=(by have:=L.o;omega);have ay:D<=Q.heap.size:=(by omega);clear S6 l P S3 S U;go_wp2_with fail;go_ret2;exact⟨_,_,rfl,by rw[L.o];exact ay,ab.o,by rw[L.o];exact(rM _).more ak.o λi d _=>aP al d,by rw[L.o];exact aa.o⟩)
def yA(a b:PI)(t:Nat):PI:=(xr a b).take t++a.drop t
theorem uO(a b:PI):yA a b 0=a:=by unfold yA;simp
theorem yB{a b:PI}{n:Nat}(c:a.length=n)(d:b.length=n):yA a b n=xr a b:=by
 unfold yA;rw[aJ (by rw[jB (by omega)];omega),drop_eq_nil_of_le (by omega),append_nil]
theorem yC{a b:PI}{n t:Nat}(c:a.length=n)(d:b.length=n)(e:t<=n):(yA a b t).length=n:=by
 unfold yA;rw[aH,aG,length_drop,jB (by omega)];omega
theorem yD{a b:PI}{n t:Nat}(d:a.length=n)(e:b.length=n)(f:t<n):(yA a b t).getD t 0=a.getD t 0:=by
 unfold yA;have c:((xr a b).take t).length=t:=by rw[aG,jB (by omega)];omega
 rw[af,List.getElem?_append_right (by omega),c,Nat.sub_self,List.getElem?_drop,Nat.add_zero,<-af]
theorem yE{a b:PI}{n t:Nat}(e:a.length=n)(f:b.length=n)(g:t<n):(yA a b t).set t (a.getD t 0 ^^^ b.getD t 0)=yA a b (t+1):=by
 have d:((xr a b).take t).length=t:=by rw[aG,jB (by omega)];omega
 unfold yA;rw[set_append_right _ _ (by omega),d,Nat.sub_self,drop_eq_getElem_cons (show t<a.length by omega),set_cons_zero];have c:t<(xr a b).length:=by rw[jB (by omega)];omega
 rw[aN c,append_assoc];congr 1;have:=lS (a:=a) (b:=b) (by omega) t;rw[af,ah c] at this;show _ :: _=[_]++_;rw[<-this];rfl
theorem mZ{m:Nat->PI}{cols z:PI}{k:Nat}(a:k<cols.length):bR m (cols.take (k+1)) z=xr (bR m (cols.take k) z) (m (cols.getD k 0)):=by
 unfold bR;rw[aN a,foldl_append,af,ah a];rfl
theorem j6{w:World}{C g:Nat}{l:PI}(a:Blk w g 5 (bK l))(b:C<=g)(c:l.length<=maxLen):OwnB w C (slice (some ⟨g,0,none⟩) l.length l.length) l:=
 ⟨by rw[bG,Nat.mul_one],.inr ⟨g,l.length,bK l,rfl,b,a,aj _,c,by rw[jw,Nat.mul_one],by rw[Nat.mul_one];unfold bK;rw[aJ (by rw[bG];exact aj _)]⟩⟩
theorem oU{w w':World}{g:Nat}(a:w.grownBy w' (some g))(i:Nat)(v:Value):w.grownBy (w'.setCell ⟨g,i,none⟩ v) (some g):=
 ⟨a.os,a.tape,a.output,by show _<=(w'.setCell ⟨g,i,none⟩ v).heap.size;simp only[World.setCell,Array.size_modify];exact a.size,λc d b=>(bE _ _ _ _ (by intro e;exact b (by rw[e]))).trans (a.block c d b)⟩
theorem gW{w w':World}{g b o:Nat}(c:w.grownBy w' (some g))(d:b<w.heap.size)(e:b≠g):w'.cell? ⟨b,o,none⟩=w.cell? ⟨b,o,none⟩:=World.cell?_of_block (w:=w) (a:=⟨b,o,none⟩) (c.block b d λf=>e (Option.some.inj f))
theorem yF(K H Z:Nat)(s:Int)(m:List PI)(g id:Nat)(t:PK)(T x:Nat)(F:Nat->Prop)(w:World)(J:fB K H Z=true)(an:0<=s)(ao:s<4294967296)(L:MidOK K H Z s m)(aO:id<=65535)
 (B:Blk w g 269 #[int i64 K,int i64 H,int i64 Z,.int .u32 s,slice t T x])(U:(rM m).ok w F [slice t T x]):
 Calls prog 160 #[pointer (some ⟨g,0,none⟩),int i64 id] w λV a=>∃v,V=returned v/\OwnB a w.heap.size v (gN K H Z s m id)/\Below w.heap.size w a:=by
 have o:=ba J;obtain⟨a1,c1,M,b,-⟩:=eZ U L.len;injection M with M e2 e3;subst M e2 e3;have W:=ae λw=>xY K H Z s id w an ao;obtain⟨f,aR⟩:=kw (s:=s) (id:=(id:Nat)) J;have X:PH (gN K H Z s m id=bR (λc=>m.getD c []) (gQ K H Z s (id:Nat)) (replicate Z 0)):=ae rfl;have aS:=Ao K H Z s (id:Nat);have N:=ae f;have E:=ae L;have aT:Z<=24:=by omega
 have aV:¬(65535:Int)<(id:Int):=by omega
 have j:∀w:World,(Instr.makeSlice 30 (int i64 (Z:Int)) (int i64 (Z:Int))).run prog w=.ok (slice (some ⟨w.heap.size,0,none⟩) Z Z) (w.alloc (cells (bK (replicate Z 0)) 5)):=λw=>dR (n:=Z) (by omega) w
 have e:PH (Sx w (w.alloc (cells (bK (replicate Z 0)) 5)) [bS w.heap.size 5 (bK (replicate Z 0)),bS g 269 #[int i64 K,int i64 H,int i64 Z,.int .u32 s,slice t (K+H) x],ww t (K+H) m]):=
  ae (((((Sx.nil w).add (ww t (K+H) m) b).add (bS g _ _) B).alloc _).add (bS _ _ _) (Blk.new w 5 (bK (replicate Z 0))))
 have aX:=B.lt;have k:=ae b;have O:=B.cell 2;unfold dD at W;generalize gQ K H Z s (id:Nat)=d at*;have a0:(w.alloc (cells (bK (replicate Z 0)) 5)).heap.size=w.heap.size+1:=by simp
 clear b U L o J B f;go_enter func160,ntmps160
 go_wp2_with (simp only[j])
 generalize w.alloc (cells (bK (replicate Z 0)) 5)=o at*;clear O j
 obtain⟨j,y,O,A,b4⟩:o.cell? ⟨g,0,none⟩=some (int i64 K)/\o.cell? ⟨g,1,none⟩=some (int i64 H)/\o.cell? ⟨g,2,none⟩=some (int i64 Z)/\o.cell? ⟨g,3,none⟩=some (.int .u32 s)/\o.cell? ⟨g,4,none⟩=some (slice t (K+H) x):=by
  have h:=e.o.blk 1 rfl;exact⟨h.cell 0,h.cell 1,h.cell 2,h.cell 3,h.cell 4⟩
 go_region_held3 (λa=>a.cell? ⟨g,0,none⟩=some (int i64 K)/\a.cell? ⟨g,1,none⟩=some (int i64 H)/\a.cell? ⟨g,2,none⟩=some (int i64 Z)/\a.cell? ⟨g,3,none⟩=some (.int .u32 s)) (go_keep) (first
  | (go_at_call 176
     refine(W.o _).mono ?_;rintro V p ⟨v,rfl,a,q⟩;obtain⟨aL,cL,rfl⟩:=a.lenA;have r:=ae (e.o.drew.step q);have Y:PH (OwnI p o.heap.size (slice aL d.length cL) d):=ae a;have a2:o.heap.size<=p.heap.size:=q.size;have m0:=(r.o.blk 1 rfl).cell 0;have m1:=(r.o.blk 1 rfl).cell 1;have m2:=(r.o.blk 1 rfl).cell 2;have m3:=(r.o.blk 1 rfl).cell 3;clear q a))
 have aa:=ae (grownBy_refl p (some w.heap.size));have ab:PH (Blk p w.heap.size 5 (bK (bR (λc=>m.getD c []) (d.take 0) (replicate Z 0)))):=ae (r.o.blk 0 rfl);have f:RdM p w.heap.size t (K+H) m:=k.o.below r.o.1 (aj _);have ap:=ae f;have aq:=ae r.o.1;have u:∀b,(bR (λc=>m.getD c []) (d.take b) (replicate Z 0)).length=Z:=λb=>eQ aI λc a=>(E.o.row (N.o c (bD a))).1;have G:∀b,By (bR (λc=>m.getD c []) (d.take b) (replicate Z 0)):=λb=>(dF (D:=Z) (Byt.zero Z) λc a=>E.o.row (N.o c (bD a))).2;have ac:=ae u;have ar:=ae G;have a3:w.heap.size<p.heap.size:=by omega
 have m4:=(r.o.blk 1 rfl).cell 4;clear e k f u G j y O A b4 m0 m1 m2 m3;generalize a:w.heap.size=k at*;have ad:=ae a;clear a;generalize a:d.length=y at*;have I:=ae a;clear a;generalize a:o.heap.size=C at*;clear a;go_wp2_with fail;go_loopw [37] (λi wr=>∃b:Nat,b<=y/\i=int i64 b/\PH (Blk wr k 5 (bK (bR (λc=>m.getD c []) (d.take b) (replicate Z 0))))/\PH (p.grownBy wr (some k))) (λi _=>y-(intOf i).toNat)
 case atStart=>exact⟨0,by omega,rfl,ab,aa⟩
 case round=>
  clear ab aa;obtain⟨b,a4,rfl,f,e⟩:=hrel;by_cases ag:b<y
  ·have a5:(b:Int)<(y:Int):=by omega
   have a:b<d.length:=(by rw[I.o];exact ag);obtain⟨gL,rfl,a6,au⟩:=Y.o.formA I.o (by omega);obtain⟨Q,-⟩:=Y.o.cellA I.o ag;have aw:wr.cell? ⟨gL,b,none⟩=some (int i64 (d.getD b 0:Nat)):=(gW e.o au (by omega)).trans Q;have P:d.getD b 0<K+H:=N.o _ (by rw[getD_at a];exact aQ a);obtain⟨bm,om,a',c',rfl,a7,R,j,-⟩:=ap.o.at P;have ai:wr.cell? ⟨bm,om+d.getD b 0,none⟩=some (slice a' (m.getD (d.getD b 0) []).length c'):=(gW e.o (by omega) (by omega)).trans R;have A:=(E.o.row P).1;have ax:=(E.o.row P).2;rw[A] at ai j;have n4:wr.cell? ⟨g,4,none⟩=some (slice (some ⟨bm,om,none⟩) (K+H) x):=(gW e.o (by omega) (by omega)).trans m4;have ay:=ae (mZ (m:=λc=>m.getD c []) (z:=replicate Z 0) a);have u:=ac.o b;have G:=ar.o b;have a8:((d.getD b 0:Nat):Int)<((K+H:Nat):Int):=(by omega);have aA:=ae j;clear Q R a j;generalize a:m.getD (d.getD b 0) []=j at*;clear a;generalize bR (λc=>m.getD c []) (d.take b) (replicate Z 0)=D at*;generalize a:bR (λc=>m.getD c []) (d.take (b+1)) (replicate Z 0)=D2 at*;have aB:=ae a;clear a;generalize d.getD b 0=a9 at*;generalize a:K+H=bb at*;clear a;rename World=>wo;have ak:PH (Blk wo k 5 (bK (yA D j 0))):=ae (by rw[uO];exact f.o);go_wp2_with fail;go_loopw [49] (λi wr=>∃a:Nat,a<=Z/\i=int i64 a/\PH (Blk wr k 5 (bK (yA D j a)))/\PH (p.grownBy wr (some k))) (λi _=>Z-(intOf i).toNat)
   case atStart=>exact⟨0,by omega,rfl,ak,e⟩
   case round=>
    clear ak e f aw ai n4;obtain⟨a,aD,rfl,f,e⟩:=hrel;by_cases Q:a<Z
    ·have bc:(a:Int)<(Z:Int):=by omega
     obtain⟨br,aE,rfl,bd,al⟩:=aA.o.2 (by omega);have am:=al a (.int .u8 (j.getD a 0:Nat)) (dQ (by omega));have be:wr.cell? ⟨br,aE+a,none⟩=some (.int .u8 (j.getD a 0:Nat)):=(gW e.o (by omega) (by omega)).trans am
     have hd:wr.cell? ⟨k,a,none⟩=some (.int .u8 (D.getD a 0:Nat)):=by
      rw[f.o.cell a];have:=dQ (l:=yA D j a) (i:=a) (by rw[yC u A aD];exact Q);rw[yD u A Q] at this;simpa[bK] using this
     have bi:=f.o.frozen a;have aF:=getD_lt ax a;have aK:=getD_lt G a;have bj:=u8_xor_nat (D.getD a 0) (j.getD a 0) aK aF;have R:=f.o.set a (.int .u8 ((D.getD a 0 ^^^ j.getD a 0:Nat):Int));rw[kV,yE u A Q] at R;have S:=ae R;have aM:=ae (oU e.o a (.int .u8 ((D.getD a 0 ^^^ j.getD a 0:Nat):Int)));clear R al am f e;generalize D.getD a 0 ^^^ j.getD a 0=R at*;generalize D.getD a 0=y1 at*;generalize j.getD a 0=y2 at*;go_wp2_with fail;go_roundw
     case rel=>exact⟨a+1,by omega,by go_num,S,aM⟩
     case measure=>simp[intOf];omega
    ·obtain rfl:a=Z:=by omega
     have S:PH (Blk wr k 5 (bK (bR (λc=>m.getD c []) (d.take (b+1)) (replicate a 0)))):=ae (by rw[aB.o,ay.o,<-yB u A];exact f.o);go_wp2_with fail;go_roundw
     case rel=>exact⟨b+1,by omega,by go_num,S,e⟩
     case measure=>simp[intOf];omega
  ·obtain rfl:b=y:=by omega
   rw[aJ (by rw[I.o];exact aj _),<-X.o] at f;have a:(gN K H Z s m id).length=Z:=(by rw[X.o];have:=ac.o d.length;rw[take_length] at this;exact this);have q:=e.o;have c:PH (Below k w wr):=ae (aq.o.grown q (by omega) (λj q=>by injection q with q;omega));go_wp2_with fail;go_ret;refine⟨_,rfl,?_,by rw[ad.o];exact c.o⟩;rw[ad.o];have:=j6 (C:=k) f.o (aj _) (by rw[a];unfold maxLen;omega)
   rwa [a] at this
def sG(id:Nat)(d:PI):Rp:=rP (rV (int i64 id)) (rB d)
theorem IB:(prog.info? 154).map (λa=>(a.zero,a.size,a.bytes))=some (some (.agg #[int i64 0,slice none 0 0]),2,32):=by kernel_rfl
def lenV:Value->Nat | slice _ a _=>a | _=>0
theorem Gi{n i:Nat}(a:i<n):(bF (replicate n 0))[i]? =some (.int .u8 0):=by
 unfold bF;rw[List.getElem?_map,List.getElem?_replicate,bg a];rfl
theorem Cw(n c B:Nat)(a:PK)(w:World)(e:Rd w B a n (bF (replicate n 0)))(j:n<=c)(g:c<=maxLen):
 Calls prog 301 #[slice a n c,.int .u8 0] w λb d=>b=returned (slice a 0 c)/\w=d:=by
 have i:=ae e;clear e;unfold maxLen at g;go_enter func301,ntmps301;go_wp2_with fail;go_loopw [0] (λb wr=>∃d:Nat,d<=n/\b=slice a d c/\wr=w) (λb _=>lenV b)
 case atStart=>exact⟨n,aj _,rfl,rfl⟩
 case round=>
  obtain⟨d,k,rfl,rfl⟩:=hrel;cases d with
  | zero=>
    go_wp2_with fail;go_ret;exact⟨rfl,rfl⟩
  | succ b=>
    obtain⟨l,m,rfl,o,f⟩:=i.o.2 (by omega);have p:=f b _ (Gi (by omega));have q:(0:Int)<(b:Int)+1:=(by omega);have r:IntKind.i64.wrap ((b:Int)+1-1)=(b:Int):=(by rw[IntKind.wrap_i64];omega);clear f;go_wp2_with fail;go_roundw
    case rel=>exact⟨b,by omega,rfl,by first | trivial | rfl⟩
    case measure=>show b<b+1;omega
theorem Gj(c:Nat)(a:PK)(w:World):
 Calls prog 300 #[slice a 0 c,.int .u8 0] w λb d=>b=returned (slice none 0 0)/\w=d:=by
 go_enter func300,ntmps300;go_wp2_with fail;go_loopw [0] (λb wr=>b=slice a 0 c/\wr=w) (λb _=>lenV b)
 case atStart=>exact⟨rfl,rfl⟩
 case round=>
  obtain⟨rfl,rfl⟩:=hrel;go_wp2_with fail;go_ret;exact⟨rfl,rfl⟩
theorem uT(n c B:Nat)(a:PK)(w:World)(b:Rd w B a n (bF (replicate n 0)))(e:n<=c)(f:c<=maxLen):
 Calls prog 238 #[slice a n c,.string ⟨#[0]⟩] w λd g=>d=returned (slice none 0 0)/\∃j,g=w.drewN j:=by
 have g:=ae λw (b:Rd w B a n (bF (replicate n 0)))=>Cw n c B a w b e f;have i:=ae λw=>Gj c a w;have k:=ae b;clear b e f;go_enter func238,ntmps238;by_cases l:n=0
 ·subst l
  go_wp2_with fail;go_ret;exact⟨rfl,0,rfl⟩
 ·have o:((n:Int) == 0)=false:=by simp;omega
  go_wp2_with fail
  go_region_with (first
   | (go_at_call 301
      refine(g.o w.drew k.o).mono ?_;rintro d m ⟨rfl,rfl⟩)
   | (go_at_call 300
      refine(i.o _).mono ?_;rintro d m ⟨rfl,rfl⟩))
  all_goals(go_wp2_with fail;go_ret;exact⟨rfl,1,rfl⟩)
theorem Aj(n c B:Nat)(a:PK)(w:World)(b:Rd w B a n (bF (replicate n 0)))(d:n<=c)(e:c<=maxLen):
 Calls prog 294 #[slice a n c] w λf g=>f=returned (bool true)/\∃j,g=w.drewN j:=by
 have g:=ae (uT n c B a w b d e);clear b d e;go_enter func294,ntmps294;go_wp2_with fail;refine g.o.mono ?_;rintro f i ⟨rfl,j,rfl⟩;go_wp2_with fail;go_ret;exact⟨rfl,j,rfl⟩
theorem EP{α:Type}(p:α->Bool):∀(l:List α) (k:Nat) (s:α),(l.filter p)[k]? =some s->∃b,l[b]? =some s/\(l.filter p).take k=(l.take b).filter p:=by
 intro l
 induction l with
 | nil=>intro k s a;simp at a
 | cons f l e=>
   intro k s a;rw[filter_cons] at a ⊢;cases hp:p f with
   | true=>
     rw[hp] at a;rw[bg rfl] at a ⊢;cases k with
     | zero=>exact⟨0,by simpa using a,by simp⟩
     | succ k=>
       obtain⟨b,c,d⟩:=e k s (by simpa using a);exact⟨b+1,by simpa using c,by rw[take_succ_cons,take_succ_cons,filter_cons,bg hp,d]⟩
   | false=>
     rw[hp] at a;rw[bh (by simp)] at a ⊢;obtain⟨b,c,d⟩:=e k s a;exact⟨b+1,by simpa using c,by rw[take_succ_cons,filter_cons,bh (by simp[hp]),d]⟩
def cW(n:Nat)(known:Nat->Bool):List PI:=((range n).filter known).map λa=>[a]
theorem Bq{n:Nat}{known:Nat->Bool}{r:Nat}(a:r<(cW n known).length):∃c,c<n/\known c=true/\(cW n known).getD r []=[c]:=by
 have b:(cW n known).getD r []∈cW n known:=by rw[af,ah a];exact aQ a
 obtain⟨c,d,e⟩:=aY.1 b;obtain⟨f,g⟩:=mem_filter.1 d;exact⟨c,bA.1 f,g,e.symm⟩
theorem EQ{n:Nat}{known:Nat->Bool}{rest:List PI}{St:List (Nat×Nat)}{De Le:PI}(P:oI n (rest++cW n known) St De Le)(u:∀r,∀c∈rest.getD r [],c<n/\known c=false):
 zx n known rest (St.filter λe=>decide (e.1<rest.length)) De (Le.filter λi=>decide (i<rest.length)):=by
 have v:∀r,r<rest.length->(rest++cW n known).getD r []=rest.getD r []:=λr a=>by
  rw[af,af,List.getElem?_append_left a]
 have C:∀r,¬r<rest.length->r<(rest++cW n known).length->∃c,c<n/\known c=true/\(rest++cW n known).getD r []=[c]:=λr a b=>by
  rw[aH] at b;obtain⟨c,j,k,p⟩:=Bq (n:=n) (known:=known) (r:=r-rest.length) (by omega);refine⟨c,j,k,?_⟩;rw[<-p,af,af,List.getElem?_append_right (by omega)]
 have D:∀(r c:Nat),(r,c)∈St->r<(rest++cW n known).length/\c∈(rest++cW n known).getD r []:=λr c a=>by
  obtain⟨q,f⟩:=List.getElem?_of_mem a;obtain⟨d,b,_⟩:=P.step q r c f;exact⟨d,b⟩
 have w:∀(r c:Nat),(r,c)∈St->(r<rest.length↔known c=false):=λr c a=>by
  obtain⟨d,b⟩:=D r c a;by_cases g:r<rest.length
  ·rw[v r g] at b
   exact⟨λ_=>(u r c b).2,λ_=>g⟩
  ·obtain⟨l,j,k,p⟩:=C r g d
   rw[p] at b;obtain rfl:c=l:=(by simpa using b);exact⟨λa=>absurd a g,λa=>by rw[k] at a;cases a⟩
 have E:∀c∈De,known c=false:=λc h=>by
  cases f:known c with
  | false=>rfl
  | true=>
    exfalso;have o:c<n:=(P.all c).2 (.inr h);have m:[c]∈rest++cW n known:=mem_append_right _ (aY.2 ⟨c,mem_filter.2 ⟨bA.2 o,f⟩,rfl⟩);obtain⟨r,g,s⟩:=bC m;refine P.nodead c h r g ?_;rw[af,ah g,s];rfl
 have s:(St.filter λe=>decide (e.1<rest.length)).map Prod.snd=(St.map Prod.snd).filter λc=> !known c:=by
  rw[filter_map];congr 1;refine filter_congr λe F=> ?_;obtain⟨r,c⟩:=e;have:=w r c F;show decide (r<rest.length)= !known c;cases f:known c with
  | false=>exact bf (this.2 f)
  | true=>exact decide_eq_false λa=>by rw[this.1 a] at f;cases f
 refine⟨λq r c f=> ?_,?_,λc h=> ?_,λc h=> ?_,λi=> ?_⟩
 ·obtain⟨x,d,b⟩:=EP _ St q (r,c) f
  have y:r<rest.length:=ba (mem_filter.1 (mem_of_getElem? f)).2;obtain⟨K,z,A⟩:=P.step x r c d;rw[v r y] at z A;refine⟨y,z,λl B G=> ?_⟩;rcases A l B G with a | ⟨H,t,j,k⟩
  ·exact .inl a
  ·right
   have m:(t,l)∈(St.take x).filter λe=>decide (e.1<rest.length):=by
    refine mem_filter.2 ⟨mem_of_getElem? (i:=H) (by rw[List.getElem?_take,bg j];exact k),?_⟩;exact bf ((w t l (mem_of_getElem? k)).2 (u r l B).2)
   rw[<-b] at m;obtain⟨I,o⟩:=List.getElem?_of_mem m;rw[List.getElem?_take] at o;split at o
   ·rename_i J
    exact⟨I,t,J,o⟩
   ·cases o
 ·rw[s]
  obtain⟨l,m,o⟩:=nodup_append.1 P.cols;exact nodup_append.2 ⟨l.filter _,m,λt x y z=>o t (mem_filter.1 x).1 y z⟩
 ·rw[s,mem_filter]
  constructor
  ·intro a
   rcases(P.all c).1 h with d | d
   ·exact .inl ⟨d,by rw[a];rfl⟩
   ·exact .inr d
  ·rintro(⟨_,a⟩ | a)
   ·simpa using a
   ·exact E c a
 ·rw[s,mem_filter] at h
  exact(P.all c).2 (h.elim (λa=>.inl a.1) .inr)
 ·rw[mem_filter,P.left,mem_filter,bA]
  have m:i<rest.length->(i∈(St.filter λe=>decide (e.1<rest.length)).map Prod.fst↔i∈St.map Prod.fst):=λl=>by
   constructor
   ·intro a
    obtain⟨e,d,b⟩:=aY.1 a;exact aY.2 ⟨e,(mem_filter.1 d).1,b⟩
   ·intro a
    obtain⟨e,d,b⟩:=aY.1 a;exact aY.2 ⟨e,mem_filter.2 ⟨d,bf (by rw[b];exact l)⟩,b⟩
  constructor
  ·rintro⟨⟨d,b⟩,j⟩
   have l:=ba j;refine⟨l,λa=> ?_⟩;have:=(m l).1 a;rw[contains_iff_mem.2 this] at b;cases b
  ·rintro⟨d,b⟩
   refine⟨⟨by rw[aH];omega,?_⟩,bf d⟩
   have:(St.map Prod.fst).contains i=false:=by
    cases f:(St.map Prod.fst).contains i with
    | false=>rfl
    | true=>exact absurd ((m d).2 (contains_iff_mem.1 f)) b
   rw[this];rfl
def zh(kn:Nat->Bool)(W K:Nat->PI):Nat->PI:=λa=>if kn a then K a else W a
theorem DR{D i:Nat}(c:i<D){v:Nat->Nat->Nat}(d:∀i j,v i j<256)(j:Nat):comes D v (dO D i) j=v i j:=by
 unfold comes
 have e:vO (dO D i)=λa=>if a=i then 1 else 0:=funext λa=>by
  show(dO D i).getD a 0=_;rw[mr];by_cases b:a=i
  ·rw[bg ⟨b,c⟩,bg b]
  ·rw[bh (λf=>b f.1),bh b]
 rw[e,jR _ (λa=>d a j),bg c]
theorem qK(Z j:Nat):(replicate Z 0).getD j 0=0:=by rw[af,List.getElem?_replicate];split <;> rfl
theorem H5{n D Z:Nat}{kn:Nat->Bool}{l:List PI}{St:List (Nat×Nat)}{De Le:PI}(P:zx n kn l St De Le)(x:De.length=D)(t:∀r,(l.getD r []).Nodup){m:Nat->PI}(h:∀c,c<n->Byt Z (m c))
 {z vl W0 M0:Nat->PI}(k:∀r,r<l.length->Byt Z (z r)/\∀j,sX (λc j=>(m c).getD j 0) j (l.getD r [])=(z r).getD j 0)(o:∀c,c<n->kn c=true->vl c=m c)
 (u:∀i,i<D->W0 (De.getD i 0)=dO D i/\M0 (De.getD i 0)=replicate Z 0){X:List PI}(f:X=De.map m):
 ∀c,c<n->Byt D (zh kn (dh l (λ_=>replicate D 0) W0 St) (λ_=>replicate D 0) c)/\Byt Z (zh kn (dh l z M0 St) vl c)/\
  ∀j,(m c).getD j 0=comes D (λi j=>(X.getD i []).getD j 0) (zh kn (dh l (λ_=>replicate D 0) W0 St) (λ_=>replicate D 0) c) j ^^^ (zh kn (dh l z M0 St) vl c).getD j 0:=by
 intro c d
 have p:∀i j:Nat,(X.getD i []).getD j 0<256:=λi j=>by
  rcases bq i X.length with e | e
  ·refine getD_lt ?_ j
   have a:i<De.length:=(by rw[f,aC] at e;exact e);have b:X.getD i []=m De[i]:=(by rw[f,af,List.getElem?_map,ah a];rfl);rw[b];exact(h _ (P.bd _ (.inr (aQ a)))).2
  ·have b:X.getD i []=[]:=by rw[af,List.getElem?_eq_none e];rfl
   rw[b];show(0:Nat)<256;decide
 unfold zh;cases hk:kn c with
 | true=>
   rw[bg rfl,bg rfl];refine⟨Byt.zero D,by rw[o c d hk];exact h c d,λj=> ?_⟩;rw[jF,Nat.zero_xor,o c d hk]
 | false=>
   rw[bh (by decide),bh (by decide)];have q:=LZ (D:=D) (Z:=Z) (W0:=W0) (M0:=M0) (z:=z) P.step t (λc j=>(m c).getD j 0) (λi j=>(X.getD i []).getD j 0) p (λr g=>(k r g).1) (λr j g=>(k r g).2 j) (λy v=> ?_) St.length (aj _) c ?_
   ·rw[take_length] at q
    exact q
   ·obtain⟨i,a,rfl⟩:=bC v
    have w:De.getD i 0=De[i]:=(by rw[af,ah a];rfl);obtain⟨g,s⟩:=u i (by omega);rw[w] at g s;rw[g,s];refine⟨⟨gP _ _,ng _ _⟩,Byt.zero Z,λj=> ?_⟩;rw[DR (by omega) p,qK,Nat.xor_zero];have b:X.getD i []=m De[i]:=(by rw[f,af,List.getElem?_map,ah a];rfl);rw[b]
   ·rw[take_length]
    exact((P.all c d).1 hk).symm
theorem DT{n Z:Nat}{l:List PI}{Le:PI}{M z:Nat->PI}{g:List PI}{m:Nat->Nat->Nat}(h:∀c,c<n->Byt Z (M c))(i:∀c,c<n->∀j,m c j=(M c).getD j 0)
 (k:∀r∈Le,∀c∈l.getD r [],c<n)(o:∀r∈Le,Byt Z (z r))(p:∀r∈Le,∀j,sX m j (l.getD r [])=(z r).getD j 0)
 (q:Wf n g)(s:∀row∈g,∀j,dN (vO row) (λc=>m c j) n=0):
 ∀b∈Le.map (λr=>bR M (l.getD r []) (z r))++g.map λrow=>dH M row (replicate Z 0) n,b=replicate Z 0:=by
 intro b e;rcases bz.1 e with e | e
 ·obtain⟨r,d,rfl⟩:=aY.1 e
  have f:∀c∈l.getD r [],(M c).length=Z:=λc a=>(h c (k r d c a)).1;refine iM (by rw[eQ (o r d).1 f,aI]) λj=> ?_;rw[iQ j (o r d).1 f,<-p r d j,qK];have t:sX m j (l.getD r [])=sX (λc j=>(M c).getD j 0) j (l.getD r []):=lT λc a=>i c (k r d c a) j;rw[t,Nat.xor_self]
 ·obtain⟨row,d,rfl⟩:=aY.1 e
  have f:∀c,c<n->(M c).length=Z:=λc a=>(h c a).1;refine iM (by rw[(fA (Byt.zero Z) n f).1,aI]) λj=> ?_;rw[Ap (q row d).2 j n f,qK];refine Eq.trans ?_ (s row d j)
  have:∀a,a<=n->dN (vO row) (λc=>(M c).getD j 0) a=dN (vO row) (λc=>m c j) a:=by
   intro a
   induction a with
   | zero=>intro _;rfl
   | succ a t=>intro u;show dN _ _ a ^^^ fm (vO row a) ((M a).getD j 0)=dN _ _ a ^^^ fm (vO row a) (m a j);rw[t (by omega),i a (by omega) j]
  exact this n (aj _)
theorem H6{Z:Nat}{M:Nat->PI}{row z:PI}(e:z.length=Z)(j:Nat):∀k,(∀c,c<k->(M c).length=Z)->(dH M row z k).length=Z/\(dH M row z k).getD j 0=z.getD j 0 ^^^ dN (vO row) (λc=>(M c).getD j 0) k:=by
 intro k
 induction k with
 | zero=>intro _;exact⟨e,(Nat.xor_zero _).symm⟩
 | succ k f=>
   intro b;obtain⟨a,g⟩:=f λc d=>b c (by omega);have d:(kE (row.getD k 0) (M k)).length=Z:=(by rw[qE];exact b k (by omega));refine⟨?_,?_⟩
   ·show(xr (dH M row z k) (kE (row.getD k 0) (M k))).length=Z
    rw[jB (by rw[a,d])];exact a
   ·show(xr (dH M row z k) (kE (row.getD k 0) (M k))).getD j 0=_
    rw[lS (by rw[a,d]),g,jl,Nat.xor_assoc];rfl
theorem K5{D Z:Nat}{X:List PI}{w z b:PI}(d:Wf Z X)(i:X.length=D)(e:z.length=Z)(f:b.length=Z)(g:∀j,b.getD j 0=comes D (λa j=>(X.getD a []).getD j 0) w j ^^^ z.getD j 0):dH (λa=>X.getD a []) w z D=b:=by
 have h:∀c,c<D->(X.getD c []).length=Z:=λc k=>(d.get (by omega)).1;have c:=λj=>H6 (M:=λa=>X.getD a []) (row:=w) e j D h;refine iM (by rw[(c 0).1,f]) λj=> ?_;rw[(c j).2,g j,Nat.xor_comm];rfl
def bX(l:List Bool):List Value:=l.map Value.bool
theorem lF(l:List Bool):(bX l).length=l.length:=aC _
theorem tG{w:World}{B:Nat}{a:PK}{n:Nat}{l:List Bool}(c:Rd w B a n (bX l)){i:Nat}(g:i<n):∃b o,a=some ⟨b,o,none⟩/\b<B/\w.cell? ⟨b,o+i,none⟩=some (bool (l.getD i false)):=by
 have h:l.length=n:=by have:=c.len;rwa [lF] at this
 obtain⟨b,o,d,e,f⟩:=c.2 (by omega);exact⟨b,o,d,e,f i _ (by unfold bX;rw[List.getElem?_map,af,ah (by omega)];rfl)⟩
def dL(kn:List Bool)(cols:PI):PI:=cols.filter λa=> !kn.getD a false
def lG(kn:List Bool)(cols:PI):PI:=cols.filter λa=>kn.getD a false
theorem Bb{kn:List Bool}{cols:PI}{k:Nat}(a:k<cols.length):dL kn (cols.take (k+1))=if kn.getD (cols.getD k 0) false then dL kn (cols.take k) else dL kn (cols.take k)++[cols.getD k 0]:=by
 unfold dL;rw[aN a,filter_append,af (l:=cols),ah a];show _++List.filter _ [cols[k]]=if kn.getD cols[k] false then _ else _++[cols[k]];cases hk:kn.getD cols[k] false with
 | true=>rw[filter_cons,hk];simp
 | false=>rw[filter_cons,hk];simp
theorem KQ{kn:List Bool}{cols:PI}{k:Nat}(a:k<cols.length):lG kn (cols.take (k+1))=if kn.getD (cols.getD k 0) false then lG kn (cols.take k)++[cols.getD k 0] else lG kn (cols.take k):=by
 unfold lG;rw[aN a,filter_append,af (l:=cols),ah a];show _++List.filter _ [cols[k]]=if kn.getD cols[k] false then _++[cols[k]] else _;cases hk:kn.getD cols[k] false with
 | true=>rw[filter_cons,hk];simp
 | false=>rw[filter_cons,hk];simp
theorem OwnB.atA{w:World}{C n c i:Nat}{a:PK}{l:PI}(b:OwnB w C (slice a n c) l)(e:l.length=n)(k:i<n):
 ∃g,a=some ⟨g,0,none⟩/\C<=g/\g<w.heap.size/\w.cell? ⟨g,i,none⟩=some (.int .u8 (l.getD i 0:Nat))/\w.frozen? ⟨g,i,none⟩=false/\∀x:Nat,OwnB (w.setCell ⟨g,i,none⟩ (.int .u8 (x:Int))) C (slice a n c) (l.set i x):=by
 unfold OwnB at b ⊢;rw[e] at b;obtain⟨g,m,d,f,h⟩:=World.ownsRow.form b (by omega);injection d with d o j;subst d j;refine⟨g,rfl,f,h,(b.cellAt i (by omega)).trans (dQ (by omega)),b.frozenAt i,λx=> ?_⟩;rw[length_set,e,<-ub];exact(b.stored i _).1
theorem nJ{w:World}{ops:Array Oper}{rest:List Oper}{o:Oper}{a:Act}{Q:Exit->Act->World->Prop}(l:o.guard=none)(s x:Operand){C y:Nat}{i:Int}{v:Value}{xs:PI}(m:i=(y:Int))
 (n:o.op=.call { callee:=.builtin .append,args:=#[s,x],argTypes:=#[22,22] })
 (p:OwnI w C v xs)(h:C<=w.heap.size)(D:xs.length<=1000000)(hs:a.eval s=v)(q:a.eval x=slice (some ⟨w.heap.size,0,none⟩) 1 1)
 (K:∀e c,OwnI c C e (xs++[y])->Below C w c->w.heap.size<=c.heap.size->(∀b,b<w.heap.size->some b≠v.ownBlock->c.heap[b]? =w.heap[b]?)->(e.ownBlock=v.ownBlock\/∃b,e.ownBlock=some b/\w.heap.size<=b)->wpList prog ops Q rest (a.put o.dst e) c):
 wpList prog ops Q (o :: rest) a (w.alloc (cells #[int i64 i] 3)):=by
 subst m;have d:=(az w.heap.size w).alloc (aj _) (cells #[int i64 (y:Int)] 3);have j:OwnI (w.alloc (cells #[int i64 (y:Int)] 3)) C v xs:=fI p d;have k:=aP h d.size;have r:=dZ w #[int i64 (y:Int)] 3 0;have t:=d.mono h;generalize w.alloc (cells #[int i64 (y:Int)] 3)=u at*;refine jv (P:=prog) u l s x 22 n C 3 (int i64 0) 8 underlying22 iU rfl v xs.length (bH xs) hs j w.heap.size (int i64 (y:Int)) q r rfl (by omega) (by unfold maxLen;omega) k λe c z f A=> ?_;refine K e c ?_ (t.trans ((az _ _).grown f k λg f=>(World.ownsRow.lt j g f).1)) (aP d.size f.size) (λb g B=>(f.block b (aW g d.size) B).trans (d.block b g)) (A.elim .inl λg=>.inr ⟨_,g,d.size⟩);unfold OwnI;rw[aH];have g:bH (xs++[y])=bH xs++[int i64 (y:Int)]:=by unfold bH;rw[aU];rfl
 rw[g];exact z
theorem tH{w:World}{C e n g:Nat}{v:Value}{xs:List Value}(d:w.ownsRow C e 1 v n xs){t:TypeId}{c:Array Value}(f:Blk w g t c)(h:t≠e):some g≠v.ownBlock:=by
 intro b;rcases d.2 with⟨rfl,_⟩ | ⟨k,l,m,rfl,_,i,_⟩
 ·simp[Value.ownBlock] at b
 ·simp[Value.ownBlock] at b
  subst b;have a:w.heap[g]? =some (.cells c t (0,0)):=f;rw[i] at a;injection a with a;injection a with _ j;exact h j.symm
theorem bZ{w w':World}{C e n:Nat}{v:Value}{xs:List Value}(a:w.ownsRow C e 1 v n xs)(d:∀b,v.ownBlock=some b->w'.heap[b]? =w.heap[b]?):w'.ownsRow C e 1 v n xs:=by
 refine⟨a.1,?_⟩;rcases a.2 with f | ⟨c,g,h,rfl,i,j,k⟩
 ·exact .inl f
 ·exact .inr ⟨c,g,h,rfl,i,(d c rfl).trans j,k⟩
theorem xK(g n q Z:Nat)(sl:Value)(S J H F:PK)(ck cv O K:Nat)(kn:List Bool)(vl:List PI)(cols d:PI)(w:World)
 (hg:Blk w g 353 #[sl,slice S n ck,slice J n cv])(hk:Rd w w.heap.size S n (bX kn))(hv:RdM w w.heap.size J n vl)
 (L:Rd w w.heap.size H q (bH cols))(T:Rd w w.heap.size F Z (bF d))(aV:F=none->K=0)(hZ:Z<=1000)(hq:q<=1000)(hn:n<=1000)
 (aw:∀c∈cols,c<n)(ax:∀c∈cols,kn.getD c false=true->(vl.getD c []).length=Z/\By (vl.getD c []))(ay:By d):
 Calls prog 293 #[pointer (some ⟨g,0,none⟩),.agg #[slice H q O,slice F Z K]] w λo b=>
  ∃r e,o=returned (.agg #[r,e])/\OwnI b w.heap.size r (dL kn cols)/\OwnB b w.heap.size e (bR (λc=>vl.getD c []) (lG kn cols) d)/\Below w.heap.size w b:=by
 have e:d.length=Z:=by have:=T.len;rwa [bG] at this
 have f:cols.length=q:=by have:=L.len;simpa[bH] using this
 have bo:=hg.lt;obtain⟨j,b⟩:∃j,j=(w.alloc (cells #[slice H q O,slice F Z K] 286)).alloc (cells #[slice none 0 0,slice none 0 0] 286):=⟨_,rfl⟩
 have S0:PH (Sx w j [bS (w.heap.size+1) 286 #[slice none 0 0,slice none 0 0],bS w.heap.size 286 #[slice H q O,slice F Z K],bS g 353 #[sl,slice S n ck,slice J n cv],mF S n (bX kn),ww J n vl,mF H q (bH cols),mF F Z (bF d)]):=by
  rw[b];have U:=((((((Sx.nil w).add (mF F Z (bF d)) T).add (mF H q (bH cols)) L).add (ww J n vl) hv).add (mF S n (bX kn)) hk).add (bS g _ _) hg);have V:=(U.alloc (cells #[slice H q O,slice F Z K] 286)).add (bS w.heap.size _ _) (Blk.new w _ _);have h3:=(V.alloc (cells #[slice none 0 0,slice none 0 0] 286)).add (bS _ _ _) (Blk.new _ _ _);have o:(w.alloc (cells #[slice H q O,slice F Z K] 286)).heap.size=w.heap.size+1:=(by simp);rw[o] at h3;exact ae h3
 have i:j.heap.size=w.heap.size+2:=by rw[b];simp
 have aX:=ae aw;have ai:=ae ax;have a0:=ae ay;have al:=ae e;have aA:=ae f;clear hg hk hv L T aw ax ay e f;go_enter func293,ntmps293;go_wp2_with fail;rw[<-b];clear b;refine(dJ d _ F Z K j (S0.o.rd 6 rfl) (aj _) aV (by omega)).mono ?_;rintro o I ⟨bp,rfl,f,l⟩;obtain⟨b,e,rfl,-⟩:=f.rd2 al.o;have k:=ae f;have z:=ae l;clear f l;have C:=ae (S0.o.step z.o);have a4:=z.o.size;have m:I.cell? ⟨w.heap.size,0,none⟩=some (slice H q O):=(C.o.blk 1 rfl).cell 0;have bs:w.heap.size<I.heap.size:=by omega
 have a5:=ae i;clear i;have i:=ae (Blk.new I 286 #[slice none 0 0,slice b Z e]);have f:=(az I.heap.size I).alloc (aj _) (cells #[slice none 0 0,slice b Z e] 286);have aB:=ae (z.o.trans (f.mono a4));have s:=ae (k.o.below f);have t:(I.alloc (cells #[slice none 0 0,slice b Z e] 286)).heap.size=I.heap.size+1:=by simp
 clear f k z;go_upto_region 3 with fail;clear m C;generalize I.alloc (cells #[slice none 0 0,slice b Z e] 286)=w2 at*;generalize f:I.heap.size=m at*;clear f t;have aD:PH (∃r:Value,Blk w2 m 286 #[r,slice b Z e]/\OwnI w2 j.heap.size r (dL kn (cols.take 0))/\OwnB w2 j.heap.size (slice b Z e) (bR (λc=>vl.getD c []) (lG kn (cols.take 0)) d)):=ae ⟨_,i.o,OwnI.nil _ _,s.o⟩;clear i s;go_wp2_with fail;go_loopw [17] (λM wr=>∃f:Nat,f<=q/\M=int i64 f/\PH (∃r:Value,Blk wr m 286 #[r,slice b Z e]/\OwnI wr j.heap.size r (dL kn (cols.take f))/\OwnB wr j.heap.size (slice b Z e) (bR (λc=>vl.getD c []) (lG kn (cols.take f)) d))/\PH (Below j.heap.size j wr)) (λM _=>q-(intOf M).toNat)
 case atStart=>exact⟨0,by omega,rfl,aD,aB⟩
 case round=>
  clear aD aB;obtain⟨f,bt,rfl,k,z⟩:=hrel;have C:=ae (S0.o.step z.o);obtain⟨r,A,i,B⟩:=k.o;obtain⟨t,u,v,rfl⟩:=i.sl;have x:=ae A;have E:=ae i;have s:=ae B;clear A i B k;have p1:=(C.o.blk 2 rfl).cell 1;have p2:=(C.o.blk 2 rfl).cell 2;by_cases aE:f<q
  ·have bw:(f:Int)<(q:Int):=by omega
   have i:f<cols.length:=(by rw[aA.o];exact aE);obtain⟨bc,oc,rfl,bx,am⟩:=iA (C.o.rd 5 rfl) aE;have k:cols.getD f 0∈cols:=(by rw[getD_at i];exact aQ i);have aF:cols.getD f 0<n:=aX.o _ k;have an:=ai.o _ k;obtain⟨bk,ok,rfl,bB,aa⟩:=tG (C.o.rd 3 rfl) aF;have P:=ae (Bb (kn:=kn) i);have Q:=ae (KQ (kn:=kn) i);have b0:((cols.getD f 0:Nat):Int)<(n:Int):=(by omega);have a6:(dL kn (cols.take f)).length<=1000000:=aP (length_filter_le _ _) (by rw[aG];omega);have aK:=z.o.size;clear i k;generalize cols.getD f 0=ab at*;cases hkx:kn.getD ab false with
   | false=>
     rw[hkx] at aa P Q;rw[bh (by decide)] at P Q;have ar:=x.o.cell 0;have ao:=x.o.frozen 0;have aR:=x.o.lt;clear an hkx
     go_wp2_with (at_builtin;refine nJ (w:=wr) (y:=ab) rfl _ _ ?hi rfl E.o aK a6 rfl rfl ?_)
     case hi=>first | rfl | trivial
     intro v3 G N X aT W aM;have Y:some m≠(Value.slice t u v).ownBlock:=tH E.o x.o (by decide);have R:PH (Blk G m 286 #[slice t u v,slice b Z e]):=ae ((W m aR Y).trans x.o)
     have aq:OwnB G j.heap.size (slice b Z e) (bR (λc=>vl.getD c []) (lG kn (cols.take f)) d):=bZ s.o λk l=>W k (World.ownsRow.lt s.o k l).2 (λo=>by
      rcases own_ne s.o E.o (by decide) with h | h
      ·rw[l] at h;cases h
      ·exact h (l.trans o))
     have ap:=ae aq;rw[<-P.o] at N;have ag:=ae N;have au:=ae (z.o.trans X);obtain⟨i,A,B,rfl⟩:=ag.o.sl;have aL:(Value.slice i A B).ownBlock≠some m:=(tH ag.o R.o (by decide)).symm;clear W X aM aq N E s x z ar ao Y C p1 p2 aa am;have ar:=R.o.cell 0;have ao:=R.o.frozen 0;have W:=R.o.set 0 (slice i A B);have aM:PH (Blk (G.setCell ⟨m,0,none⟩ (slice i A B)) m 286 #[slice i A B,slice b Z e]):=ae (by simpa using W);have N:∀k,k≠m->(G.setCell ⟨m,0,none⟩ (slice i A B)).heap[k]? =G.heap[k]? :=λk l=>bE _ _ _ _ l;have aO:OwnI (G.setCell ⟨m,0,none⟩ (slice i A B)) j.heap.size (slice i A B) (dL kn (cols.take (f+1))):=bZ ag.o λk l=>N k (λo=>aL (by rw[l,o]))
     have X:OwnB (G.setCell ⟨m,0,none⟩ (slice i A B)) j.heap.size (slice b Z e) (bR (λc=>vl.getD c []) (lG kn (cols.take (f+1))) d):=by
      rw[Q.o];exact bZ ap.o λk l=>N k (λo=>tH ap.o R.o (by decide) (by rw[l,o]))
     have aS:j.heap.size<=m:=(by omega);have aq:=ae (⟨_,aM.o,aO,X⟩:∃r:Value,Blk (G.setCell ⟨m,0,none⟩ (slice i A B)) m 286 #[r,slice b Z e]/\OwnI (G.setCell ⟨m,0,none⟩ (slice i A B)) j.heap.size r (dL kn (cols.take (f+1)))/\OwnB (G.setCell ⟨m,0,none⟩ (slice i A B)) j.heap.size (slice b Z e) (bR (λc=>vl.getD c []) (lG kn (cols.take (f+1))) d));have Y:=ae (au.o.setCell (p:=⟨m,0,none⟩) aS (slice i A B));clear W N aO X aM ag ap au R aL;go_wp2_with fail;go_roundw
     case rel=>exact⟨f+1,by omega,by go_num,aq,Y⟩
     case measure=>simp[intOf];omega
   | true=>
     rw[hkx] at aa P Q;rw[bg rfl] at P Q;obtain⟨G,a7⟩:=an hkx;have i:RdM wr j.heap.size J n vl:=(show RdM j j.heap.size J n vl from S0.o.get 4 rfl).below z.o (aj _);obtain⟨bv,ov,a',c',rfl,b1,B,aL,-⟩:=i.at aF;rw[G] at B aL;have a8:=ae aL;have ag:=x.o.cell 1
     have R:(bR (λc=>vl.getD c []) (lG kn (cols.take f)) d).length=Z:=by
      refine eQ al.o λc L=> ?_;obtain⟨U,V⟩:=mem_filter.1 L;exact(ai.o c (bD U) V).1
     have a9:By (bR (λc=>vl.getD c []) (lG kn (cols.take f)) d):=by
      refine(dF (D:=Z) ⟨al.o,a0.o⟩ λc L=> ?_).2;obtain⟨U,V⟩:=mem_filter.1 L;exact ai.o c (bD U) V
     have HE:PH (bR (λc=>vl.getD c []) (lG kn (cols.take (f+1))) d=xr (bR (λc=>vl.getD c []) (lG kn (cols.take f)) d) (vl.getD ab [])):=ae (by rw[Q.o];unfold bR;rw[foldl_append];rfl);clear i hkx an;generalize i:vl.getD ab []=A at*;clear i;generalize bR (λc=>vl.getD c []) (lG kn (cols.take f)) d=D at*;have aM:PH (OwnB wr j.heap.size (slice b Z e) (yA D A 0)):=ae (by rw[uO];exact s.o);rename World=>wo;have bb:=z;have bd:=x.o.lt;go_wp2_with fail;clear aa am p1 p2 B ag;go_loopw [43] (λM wr=>∃i:Nat,i<=Z/\M=int i64 i/\PH (OwnB wr j.heap.size (slice b Z e) (yA D A i))/\PH (wo.grownBy wr (Value.slice b Z e).ownBlock)) (λM _=>Z-(intOf M).toNat)
     case atStart=>exact⟨0,by omega,rfl,aM,ae (grownBy_refl _ _)⟩
     case round=>
      clear aM;obtain⟨i,be,rfl,ag,B⟩:=hrel;have M:Blk wr m 286 #[slice t u v,slice b Z e]:=(B.o.block m bd (tH s.o x.o (by decide))).trans x.o;have ap:=ae M;clear M;by_cases ar:i<Z
      ·have b2:(i:Int)<(Z:Int):=by omega
       obtain⟨M,aO,rfl,b3,aR⟩:=a8.o.2 (by omega);have aS:=aR i (.int .u8 (A.getD i 0:Nat)) (dQ (by omega));obtain⟨g2,rfl,b5,b6,T,b7,aT⟩:=ag.o.atA (yC R G be) ar;rw[yD R G ar] at T
       have am:wr.cell? ⟨M,aO+i,none⟩=some (.int .u8 (A.getD i 0:Nat)):=(World.cell?_of_block (w:=wo) (a:=⟨M,aO+i,none⟩) (B.o.block M (by omega) (λo=>by
        simp only[Value.ownBlock] at o;injection o with o;have o:M=g2:=o;omega))).trans aS
       have ao:=ap.o.cell 1;have bi:=getD_lt a7 i;have bj:=getD_lt a9 i;have b8:=u8_xor_nat (D.getD i 0) (A.getD i 0) bj bi;have au:=aT (D.getD i 0 ^^^ A.getD i 0);rw[yE R G ar] at au;have bl:=ae au;have bm:PH (wo.grownBy (wr.setCell ⟨g2,i,none⟩ (.int .u8 ((D.getD i 0 ^^^ A.getD i 0:Nat):Int))) (some g2)):=ae (oU B.o i _);clear aT au aS aR ag B ap;generalize D.getD i 0 ^^^ A.getD i 0=y at*;generalize D.getD i 0=y1 at*;generalize A.getD i 0=y2 at*;go_wp2_with fail;go_roundw
       case rel=>exact⟨i+1,by omega,by go_num,bl,bm⟩
       case measure=>simp[intOf];omega
      ·obtain rfl:i=Z:=by omega
       have M:OwnI wr j.heap.size (slice t u v) (dL kn (cols.take (f+1))):=by
        rw[P.o]
        exact bZ E.o λk l=>B.o.block k (World.ownsRow.lt E.o k l).2 (λo=>by
         rcases own_ne E.o s.o (by decide) with h | h
         ·rw[l] at h;cases h
         ·exact h (l.trans o))
       have X:OwnB wr j.heap.size (slice b i e) (bR (λc=>vl.getD c []) (lG kn (cols.take (f+1))) d):=by
        rw[HE.o,<-yB R G];exact ag.o
       have aq:=ae (⟨_,ap.o,M,X⟩:∃r:Value,Blk wr m 286 #[r,slice b i e]/\OwnI wr j.heap.size r (dL kn (cols.take (f+1)))/\OwnB wr j.heap.size (slice b i e) (bR (λc=>vl.getD c []) (lG kn (cols.take (f+1))) d));have Y:=ae (bb.o.grown B.o aK λk l=>(World.ownsRow.lt s.o k l).1);clear M X;go_wp2_with fail;go_roundw
       case rel=>exact⟨f+1,by omega,by go_num,aq,Y⟩
       case measure=>simp[intOf];omega
  ·obtain rfl:f=q:=by omega
   rw[aJ (by rw[aA.o];exact aj _)] at E s;have Q:=x.o.cell 0;have R:=x.o.cell 1;have i:=ae (C.o.blk 0 rfl);have A:=ae C.o.1;have X:=i.o.frozen 0;have f1:=i.o.frozen 1;have z0:=i.o.cell 0;have z1:=i.o.cell 1;have B:=a5.o;have N:∀k,k≠w.heap.size+1->((wr.setCell ⟨w.heap.size+1,0,none⟩ (slice t u v)).setCell ⟨w.heap.size+1,1,none⟩ (slice b Z e)).heap[k]? =wr.heap[k]? :=λk l=>(bE _ _ _ _ l).trans (bE _ _ _ _ l);have G:PH (OwnI ((wr.setCell ⟨w.heap.size+1,0,none⟩ (slice t u v)).setCell ⟨w.heap.size+1,1,none⟩ (slice b Z e)) j.heap.size (slice t u v) (dL kn cols)):=ae (bZ E.o λk l=>N k (by have:=(World.ownsRow.lt E.o k l).1;omega));have M:PH (OwnB ((wr.setCell ⟨w.heap.size+1,0,none⟩ (slice t u v)).setCell ⟨w.heap.size+1,1,none⟩ (slice b Z e)) j.heap.size (slice b Z e) (bR (λc=>vl.getD c []) (lG kn cols) d)):=ae (bZ s.o λk l=>N k (by have:=(World.ownsRow.lt s.o k l).1;omega));have Y:=ae ((A.o.setCell (p:=⟨w.heap.size+1,0,none⟩) (by show w.heap.size<=w.heap.size+1;omega) (slice t u v)).setCell (p:=⟨w.heap.size+1,1,none⟩) (by show w.heap.size<=w.heap.size+1;omega) (slice b Z e));have W:=(i.o.set 0 (slice t u v)).set 1 (slice b Z e);have P:PH (Blk ((wr.setCell ⟨w.heap.size+1,0,none⟩ (slice t u v)).setCell ⟨w.heap.size+1,1,none⟩ (slice b Z e)) (w.heap.size+1) 286 #[slice t u v,slice b Z e]):=ae (by simpa using W);have k:w.heap.size<=j.heap.size:=(by omega);clear N W i A C x E s z B;go_wp2_with fail
   (try simp only[Exit.inBlock,Exit.then])
   refine bodyPost_ret (results_cell_row rfl _ _ (w.heap.size+1) 286 #[slice t u v,slice b Z e] (0,0) _ rfl P.o underlying286 rfl (by kernel_rfl)) rfl ?_;exact⟨_,_,rfl,kI G.o k,kI M.o k,Y.o⟩
def tJ(x:PI×PI):Rp:=rP (rI x.1) (rB x.2)
def fe(L:List (PI×PI)):Rp:=rS 2 (L.map tJ)
theorem Nt{x:PI×PI}{w:World}{F:Nat->Prop}{a:List Value}(d:(tJ x).ok w F a):∃u1 u2,a=[u1,u2]/\(rI x.1).ok w F [u1]/\(rB x.2).ok w F [u2]:=by
 obtain⟨g,h,rfl,b,c⟩:=d;have e:=(rI x.1).len b;have f:=(rB x.2).len c;obtain⟨u1,rfl⟩:=length_eq_one_iff.1 e;obtain⟨u2,rfl⟩:=length_eq_one_iff.1 f;exact⟨u1,u2,rfl,b,c⟩
theorem mH{L:List (PI×PI)}{w:World}{F:Nat->Prop}{a:PK}{n c i:Nat}(l:(fe L).ok w F [slice a n c])(u:L.length=n)(m:i<n):
 ∃b o d h e f j g,a=some ⟨b,o,none⟩/\F b/\b<w.heap.size/\w.cell? ⟨b,o+i*2,none⟩=some (slice d h e)/\w.cell? ⟨b,o+i*2+1,none⟩=some (slice f j g)/\(rI (L.getD i ([],[])).1).ok w F [slice d h e]/\(rB (L.getD i ([],[])).2).ok w F [slice f j g]/\h=(L.getD i ([],[])).1.length/\j=(L.getD i ([],[])).2.length:=by
 have p:i<L.length:=by omega
 have q:(L.map tJ)[i]? =some (tJ (L.getD i ([],[]))):=by rw[List.getElem?_map,af,ah p];rfl
 obtain⟨b,o,v,rfl,r,s,t,x,h⟩:=uQ l (by decide) m q;obtain⟨y,z,rfl,j,k⟩:=Nt t;obtain⟨d,e,rfl,-⟩:=dI j rfl;obtain⟨f,g,rfl,-⟩:=fC k rfl;exact⟨b,o,d,_,e,f,_,g,rfl,r,s,h 0 _ rfl,h 1 _ rfl,j,k,rfl,rfl⟩
theorem Hq(g n d:Nat)(s t:PK)(u T:Nat)(U:Value)(F:Nat->Prop)(kn:List Bool)(L:List (PI×PI))(w:World)
 (v:Blk w g 353 #[slice s d u,slice t n T,U])(B:(fe L).ok w F [slice s d u])(C:Rd w w.heap.size t n (bX kn))(D:L.length=d)(am:d<=1000)
 (E:∀x∈L,x.1.length<=1000/\∀c∈x.1,c<n)(hn:n<=1000):
 Calls prog 352 #[pointer (some ⟨g,0,none⟩)] w λa b=>∃r:Int,a=returned (int i64 r)/\(r<0\/∃i:Nat,r=(i:Int)/\i<d/\(dL kn (L.getD i ([],[])).1).length=1)/\Below w.heap.size w b:=by
 have V:=ae ((((Sx.nil w).add (mF t n (bX kn)) C).add (eR F (slice s d u) (fe L)) B).add (bS g _ _) v);have G:=ae (az w.heap.size w);have H:=ae D;have W:=ae E;have a:=v.cell 0;clear v B C D E;go_enter func352,ntmps352;go_wp2_with fail;clear a;go_loopw [13] (λi wr=>∃b:Nat,b<=d/\i=int i64 b/\PH (Below w.heap.size w wr)) (λi _=>d-(intOf i).toNat)
 case atStart=>exact⟨0,by omega,rfl,G⟩
 case round=>
  clear G;obtain⟨b,an,rfl,j⟩:=hrel;have k:=ae (V.o.step j.o);by_cases y:b<d
  ·have ao:(b:Int)<(d:Int):=by omega
   have f:L.getD b ([],[])∈L:=(by rw[af,ah (by rw[H.o];exact y)];exact aQ _);obtain⟨Q,m⟩:=W.o _ f;obtain⟨ap,aq,I,e,J,K,M,N,rfl,_,hb,R,S,l,X,a,Y⟩:=mH (k.o.rep 1 rfl) H.o y;obtain⟨ar,au,z,o,-⟩:=dI l a.symm;injection z with z _ Z;subst z Z;have q:=ae o;have O:=ae (k.o.rd 2 rfl);have aa:=ae m;have A:=ae a;have ab:=j.o.size;have av:PH (L.getD b ([],[])=L.getD b ([],[])):=ae rfl;have P:=(k.o.blk 0 rfl).cell 1;have ac:=(k.o.blk 0 rfl).lt;have aw:e<=1000:=(by omega);clear f l X o Y m Q;generalize f:L.getD b ([],[])=x at*;have X:=ae f;clear f a;have a:=(az wr.heap.size wr).alloc (aj _) (cells #[slice I e J,slice K M N] 286);have ax:=ae a;have Y:=ae (j.o.trans (a.mono ab));have Q:=(a.cell (p:=⟨g,1,none⟩) ac).trans P;have ad:=ae (O.o.below a (aj _));have ag:=ae (q.o.below a (aj _));clear a k j O q;go_wp2_with fail;clear P R S;generalize wr.alloc (cells #[slice I e J,slice K M N] 286)=w1 at*;go_loopw [5,21] (λf i l=>∃a:Nat,a<=e/\i=int i64 a/\f=int i64 ((dL kn (x.1.take a)).length:Nat)/\l=w1) (λ_ i _=>e-(intOf i).toNat)
   case atStart=>exact⟨0,by omega,rfl,rfl,rfl⟩
   case round=>
    obtain⟨a,ay,rfl,rfl,f⟩:=hrel;have l:=ae f;clear f;by_cases O:a<e
    ·have aA:(a:Int)<(e:Int):=by omega
     have o:a<x.1.length:=(by rw[<-A.o];exact O);obtain⟨bc,oc,rfl,aB,P⟩:=iA ag.o O;have m:x.1.getD a 0<n:=aa.o _ (by rw[getD_at o];exact aQ o);obtain⟨bk,ok,rfl,aD,q⟩:=tG ad.o m;have f:=ae (Bb (kn:=kn) o);have aE:((x.1.getD a 0:Nat):Int)<(n:Int):=(by omega);have R:(dL kn (x.1.take a)).length<=1000:=aP (length_filter_le _ _) (by rw[aG];omega);clear o;generalize x.1.getD a 0=ai at*;cases hky:kn.getD ai false with
     | false=>
       rw[hky] at q f;rw[bh (by decide)] at f;have S:PH ((dL kn (x.1.take (a+1))).length=(dL kn (x.1.take a)).length+1):=ae (by rw[f.o,aH];rfl);clear f;generalize (dL kn (x.1.take a)).length=o at*;rw[<-l.o] at P q Q;go_wp2_with fail;go_roundw
       case rel=>exact⟨a+1,by omega,by go_num,by rw[S.o];go_num,l.o⟩
       case measure=>simp[intOf];omega
     | true=>
       rw[hky] at q f;rw[bg rfl] at f;generalize S:dL kn (x.1.take a)=o at*;have HZ:=ae S;clear S;rw[<-l.o] at P q Q;go_wp2_with fail;go_roundw
       case rel=>exact⟨a+1,by omega,by go_num,by rw[f.o],l.o⟩
       case measure=>simp[intOf];omega
    ·obtain rfl:a=e:=by omega
     rw[aJ (by rw[<-A.o];exact aj _)];have q:PH (Below w.heap.size w wr):=ae (by rw[l.o];exact Y.o);have R:(dL kn x.1).length<=1000:=aP (length_filter_le _ _) (by rw[<-A.o];omega);by_cases f:(dL kn x.1).length=1
     ·rw[f]
      have P:=ae f;clear f R;go_wp2_with fail;go_ret;exact⟨_,rfl,.inr ⟨b,rfl,y,by rw[X.o];exact P.o⟩,q.o⟩
     ·have P:¬(((dL kn x.1).length:Nat):Int)=1:=by omega
      clear f;generalize (dL kn x.1).length=o at*;go_wp2_with fail;go_roundw
      case rel=>exact⟨b+1,by omega,by go_num,q⟩
      case measure=>simp[intOf];omega
  ·obtain rfl:b=d:=by omega
   go_wp2_with fail;go_ret;exact⟨-1,rfl,.inl (by omega),j.o⟩
