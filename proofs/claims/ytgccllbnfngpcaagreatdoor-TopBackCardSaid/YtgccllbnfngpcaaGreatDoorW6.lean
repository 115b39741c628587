import Derived.Test.YtgccllbnfngpcaaGreatDoorW5
set_option linter.unusedVariables false
set_option maxRecDepth 100000
set_option maxHeartbeats 400000000
namespace Go.Proofs.YtgccllbnfngpcaaGreatDoor
open Go.RowKit _root_.Go.Proofs.Tryz List
open Value (int slice pointer bool)
open IntKind (i64)
open Ending (returned)
open Obj (cells)
theorem yT(p:SE)(n k m c aA:Nat)(e B:List SC)(a b:SE)(w:World)(hF:Fp w p)(z:RdM w w.heap.size a m e)(U:RdM w w.heap.size b m B)(V:Wf n e)(ai:Wf k B)(hn:n<=64)(hk:k<=64)(W:m<=1000000)(h0:0<m):
 Calls prog 215 #[.pointer p,slice a m c,slice b m aA] w λg d=>∃v,g=returned (.tuple #[v,int i64 (kP n e B:Nat)])/\MOwn d w.heap.size v (kQ n e B)/\Below w.heap.size w d:=by
 have f:=ae (Aa n m e _ a c w z V hn W);have j:=ae (Aa k m B _ b aA w U ai hk W);have d:=ae (yX e _ a m c w z W);rw[nO V (λg=>by rw[g] at z;have:=z.len;simp at this;omega)] at d;have o:=ae (Gc e _ a m c w z (aj _) (λl q=>by have:=(V l q).1;omega) W);have bl:((m:Int) != (m:Int))=false:=by simp
 have bm:((m:Int) == 0)=false:=by rw[beq_eq_false_iff_ne];omega
 have HB:=ae U;have ak:=ae z.len;have bo:=ae U.len;have al:=ae V;have aD:=ae ai;have HF:=ae hF;have L:Sz (e.length=B.length):=ae (by rw[z.len,U.len]);clear z U V ai hF;go_enter func215,ntmps215;go_wp2_with fail;refine f.o.mono ?_;rintro g w1 ⟨rfl,rfl⟩;go_wp2_with fail;refine j.o.mono ?_;rintro g w1 ⟨rfl,rfl⟩;go_wp2_with fail;refine d.o.mono ?_;rintro g w1 ⟨rfl,rfl⟩;go_wp2_with fail;refine o.o.mono ?_;rintro g w1 ⟨l,E,rfl,N,u⟩;have aE:Sz (MOwn w1 w.heap.size (slice (some ⟨l,0,none⟩) m E) (qi e B 0)):=ae N;have s:=ae u;have a4:w.heap.size<=l:=by obtain⟨g2,g,x,_⟩:=N.form h0;injection g with g;injection g with g;omega
 clear N u f j d o;generalize d:w.heap.size=q at*;have y:=ae d;clear d;go_wp2_with fail;go_loopw [10,43] (λ_ i wr=>∃r:Nat,r<=m/\i=int i64 r/\Sz (MOwn wr q (slice (some ⟨l,0,none⟩) m E) (qi e B r))/\Sz (Below q w wr)) (λ_ i _=>m-(intOf i).toNat)
 case atStart=>exact⟨0,by omega,rfl,aE,s⟩
 case round=>
  clear aE s;obtain⟨r,hr,rfl,A,s⟩:=hrel;have aF:q<=wr.heap.size:=(by have:=s.o.size;have:=y.o;omega);by_cases X:r<m
  ·have aK:(r:Int)<(m:Int):=by omega
   have o:r<e.length:=(by rw[ak.o];exact X);have C:=IM L.o o;obtain⟨d,f,S,T,t⟩:=A.o.at2 X (r:=n) (by rw[C];exact(al.o.get o).1);rw[C] at t;obtain⟨j,oB,D,cB,rfl,av,F,G,K,-,-⟩:=(HB.o.below s.o (aj _)).at X;have H:=aD.o.get (i:=r) (by rw[<-L.o];exact o);have I:=al.o.get o;rw[H.1] at F G;have Y:=ae (IP L.o o);have aa:=ae t;have ab:Sz (Rd wr.drew q D k (bK (B.getD r []))):=ae G;have ac:=ae K
   have ad:Sz ((Value.slice d n f).ownBlock=none\/(Value.slice d n f).ownBlock≠some l):=ae (by
    obtain⟨vs,h⟩:=A.o;have:=own_ne t h.hd wO;simpa[Value.ownBlock] using this)
   have J:wr.drew.ownsRow q 5 1 (slice d n f) n (bK (e.getD r [])):=by
    have h:=t;unfold OwnB at h;rw[I.1] at h;exact h
   have aw:Sz ((Value.slice d n f).ownBlock≠some j):=ae (λg=>by have:=(J.lt _ g).1;omega);have ag:=ae J;have am:=ae I;have an:=ae H;have ao:=ae (jG (B.getD r []));have ax:l<wr.heap.size:=(by obtain⟨g2,g,_,h2⟩:=A.o.form h0;injection g with g;injection g with g;omega);clear t C G K J I H;have G:=ae S;have ap:=ae T;have ay:=ae F;go_wp2_with fail
   go_region_law (first
    | (refine mZ (P:=prog) (w:=wr.drew) rfl _ _ 30 rfl q 5 (.int .u8 0) 1 underlying30 jP rfl (slice d n f) n (bK (e.getD r [])) rfl ag.o q D k cB (bK (B.getD r [])) rfl ac.o ab.o ao.o (by omega) (by unfold maxLen;omega) (by exact aF) ?_
       intro v' t H C aq;obtain⟨I,J,rfl,-⟩:=oW H;have K:t.heap[l]? =wr.heap[l]? :=C.block l ax (ad.o.elim (λh=>by rw[h];simp) (λh g=>h g.symm));have kc:t.cell? ⟨l,r,none⟩=some (slice d n f):=(World.cell?_of_block (w:=wr) (a:=⟨l,r,none⟩) K).trans G.o;have az:t.heap[j]? =wr.heap[j]? :=C.block j (by have:=av;have:wr.drew.heap.size=wr.heap.size:=rfl;omega) (λg=>aw.o g.symm);have kb:t.cell? ⟨j,oB+r,none⟩=some (slice D k cB):=(World.cell?_of_block (w:=wr) (a:=⟨j,oB+r,none⟩) az).trans ay.o;have kf:t.frozen? ⟨l,r,none⟩=false:=(World.frozen?_of_block (w:=wr) (a:=⟨l,r,none⟩) K).trans ap.o))
   all_goals(
    have au:OwnB t q (slice I (n+k) J) (e.getD r []++B.getD r []):=by
     unfold OwnB;rw[aI,am.o.1,an.o.1];have g:bK (e.getD r []++B.getD r [])=bK (e.getD r [])++bK (B.getD r []):=(by simp[bK]);rw[g];exact H
    have Q:wr.grownBy t (Value.slice d n f).ownBlock:=grownBy_trans (jJ (grownBy_refl wr _) 1) C;have R:=A.o.reput X G.o Q au (aq.elim (λh=>.inl h) (λh=>.inr (by rw[h];rfl)));rw[Y.o] at R;have O:=ae ((s.o.trans (qB Q (λl Z=>(aa.o.lt l Z).1) aF)).setCell (p:=⟨l,r,none⟩) a4 (slice I (n+k) J));have Z:=ae R;clear R Q au H C aq kc kf K;clear A s S T aa ag ab ac ad Y am an ao G ap F;generalize t.setCell ⟨l,r,none⟩ (slice I (n+k) J)=w4 at*;go_wp2_with fail;go_roundw
    case rel=>exact⟨r+1,by omega,by go_num,Z,O⟩
    case measure=>simp[intOf];omega)
  ·obtain rfl:r=m:=by omega
   have d:qi e B r=dQ e B:=(by rw[<-ak.o];exact Er L.o);rw[d] at A;clear d X;have f:=ae (vW L.o al.o aD.o);have j:Sz ((dQ e B).length=r):=ae (by rw[fF L.o];exact ak.o);have d:Sz (Fp wr p):=ae (HF.o.below s.o (by rw[y.o];exact aj _));go_wp2_with fail;refine(BJ p wr d.o).mono ?_;rintro g t ⟨gf,rfl,D,u⟩;have o:=ae (A.o.new u);have C:=ae (s.o.trans (u.mono (by have:=s.o.size;have:=y.o;omega)));have F:=ae D;clear D u A s d HF;have a5:q<=t.heap.size:=(by have:=C.o.size;have:=y.o;omega);have D:=ae (xR gf (n+k) r n E q (dQ e B) (some ⟨l,0,none⟩) t F.o o.o f.o (by omega) a5 W (by omega));obtain⟨ls,d⟩:=jN f.o n;have am:=d.le;rw[kM,j.o] at am;have an:=ae d.wf;have ao:Sz ((dI (dQ e B) n).1.length=r):=ae (by rw[kM];exact j.o)
   have bp:(dI (dQ e B) n).2<=n:=by
    have:=d.up;rw[<-d.cnt];exact QI d.up d.lt
   have HC:Sz (kP n e B=if (dI (dQ e B) n).2<n then 9 else if jC (dI (dQ e B) n).1 (dI (dQ e B) n).2 then 10 else 0):=ae rfl;have HR:Sz (kQ n e B=if kP n e B=0 then ((dI (dQ e B) n).1.take (dI (dQ e B) n).2).map (List.drop n) else []):=ae rfl;have a6:r<=E:=o.o.caps.2.1;clear d f j;generalize (dI (dQ e B) n).1=j at*;generalize (dI (dQ e B) n).2=d at*;go_wp2_with fail;refine D.o.mono ?_;rintro g w3 ⟨rfl,N,u⟩;have Z:=ae N;have O:=ae (C.o.trans u);clear N u o C D F;have br:d<=E:=(by omega);by_cases aK:d<n
   ·have aL:(d:Int)<(n:Int):=by omega
    have F:kP n e B=9:=(by rw[HC.o,bu aK]);have f:kQ n e B=[]:=(by rw[HR.o,F,bA (by decide)]);have D:=ae F;have J:=ae f;clear HC HR F f;go_wp2_with fail;go_ret2;exact⟨_,by rw[D.o];rfl,by rw[J.o];exact MOwn.nil _ _,by rw[y.o];exact O.o⟩
   ·have aL:¬(d:Int)<(n:Int):=by omega
    obtain rfl:d=n:=(by omega);have C:=Z.o.rdM.drop a6 am;have ad:Sz ((j.drop d).length=r-d):=ae (by rw[length_drop,ao.o]);have aM:Sz (Wf (d+k) (j.drop d)):=ae (λaa T=>an.o aa (mem_of_mem_drop T));have ap:Sz (kP d e B=if jC j d then 10 else 0):=ae (by rw[HC.o,bA (by omega)]);have bs:¬(d:Int)<(d:Int):=(by omega);clear HC aL aK;by_cases aq:E=d
    case' pos=>
     rw[bu aq] at C;have ac:=ae C;clear C;go_wp2_with fail
    case' neg=>
     rw[bA aq] at C
     have C:RdM w3 w3.heap.size (some ⟨l,d,none⟩) (r-d) (j.drop d):=by
      simpa[Addr.add_lit] using C
     have ac:=ae C;clear C;go_wp2_with fail
    all_goals(
     clear aq;generalize f:r-d=Q at*;have a7:=ae f;have bt:Q<=1000000:=(by omega);clear f;go_loopw [13,71] (λ_ i wr=>∃o:Nat,o<=Q/\i=int i64 o/\Sz (∃R,wr=w3.drewN R)/\Sz (∀f,f<o->jo ((j.drop d).getD f [])<0)) (λ_ i _=>Q-(intOf i).toNat)
     case atStart=>exact⟨0,by omega,rfl,ae ⟨0,rfl⟩,ae (λf h=>by omega)⟩
     case round=>
      obtain⟨o,hj,rfl,H,HN⟩:=hrel;obtain⟨R,G⟩:=H.o;clear H;by_cases au:o<Q
      ·have az:(o:Int)<(Q:Int):=by omega
       obtain⟨b1,o1,a1,H,F,a8,ab,S,-,-,-⟩:=ac.o.at au;have k1:wr.cell? ⟨b1,o1+o,none⟩=some (slice a1 ((j.drop d).getD o []).length H):=(by rw[G];exact ab);have K:=aM.o.get (i:=o) (by rw[ad.o];exact au);have CL:=ae (Mr ((j.drop d).getD o []) w3.heap.size a1 ((j.drop d).getD o []).length H wr (by rw[G];exact S) (by unfold By;exact K.2) (by unfold maxLen;rw[K.1];omega));rw[K.1] at k1 CL;cases F
       try simp only[Nat.zero_add] at k1
       have av:Sz (0<=jo ((j.drop d).getD o [])->kP d e B=10/\kQ d e B=[]):=ae (λh=>by
        have x:kP d e B=10:=(by rw[ap.o,IQ (by rw[ad.o];exact au) h];rfl);exact⟨x,by rw[HR.o,x,bA (by decide)]⟩)
       have aw:Sz (jo ((j.drop d).getD o [])<0->∀f,f<o+1->jo ((j.drop d).getD f [])<0):=ae (λh f I=>by
        rcases bD f o with x | x
        ·exact HN.o f x
        ·rw[show f=o by omega];exact h)
       have HZ:=ae G;clear ab S K HN G;generalize jo ((j.drop d).getD o [])=ld at*;by_cases ay:0<=ld
       ·obtain⟨D,J⟩:=av.o ay
        have ag:=ae D;have ax:=ae J;clear D J av aw;go_wp2_with fail;refine CL.o.mono ?_;rintro g w4 ⟨rfl,K,rfl⟩;go_wp2_with fail;go_ret2;exact⟨_,by rw[ag.o];rfl,by rw[ax.o];exact MOwn.nil _ _,by rw[y.o,HZ.o];exact below_drewN (below_drewN O.o R) K⟩
       ·have D:=ae (aw.o (by omega))
        clear av aw;go_wp2_with fail;refine CL.o.mono ?_;rintro g w4 ⟨rfl,K,rfl⟩;go_wp2_with fail;go_roundw
        case rel=>exact⟨o+1,by omega,by go_num,ae ⟨R+K,by rw[HZ.o,World.drewN_drewN]⟩,D⟩
        case measure=>simp[intOf];omega
      ·obtain rfl:o=Q:=by omega
       have ag:Sz (kP d e B=0):=ae (by rw[ap.o,BF (λf I=>by have:=HN.o f (by rw[ad.o] at I;exact I);omega)];rfl);have K:Sz (MOwn wr q (slice (some ⟨l,0,none⟩) r E) j):=ae (by rw[G];exact Z.o.drewN R);have aR:Sz (Below q w wr):=ae (by rw[G];exact below_drewN O.o R);have ax:Sz (kQ d e B=(j.take d).map (List.drop d)):=ae (by rw[HR.o,bu ag.o]);clear HN G Z O ac ap HR a7;have a9:=ae (K.o.take am).rdM;have av:Sz ((j.take d).length=d):=ae (by rw[aH,ao.o];omega);have ba:Sz (Wf (d+k) (j.take d)):=ae (λaa T=>an.o aa (bI T));have bv:0<=d:=bE _;have aS:Sz (((j.take d).map (List.drop d)).length=d):=ae (by rw[aG];exact av.o)
       have bb:Sz (∀f,f<d->((j.take d).map (List.drop d)).take (f+1)=((j.take d).map (List.drop d)).take f++[((j.take d).getD f []).drop d]):=ae (λf I=>by
        have aT:f<((j.take d).map (List.drop d)).length:=by rw[aS.o];exact I
        have x:((j.take d).map (List.drop d))[f]? =some (((j.take d).getD f []).drop d):=by
         rw[List.getElem?_map,getD_some (M:=j.take d) (by rw[av.o];exact I)];rfl
        rw[ah aT] at x;rw[aO aT,Option.some.inj x])
       have J:Sz (MOwn wr wr.heap.size (slice none 0 0) (((j.take d).map (List.drop d)).take 0)):=ae (MOwn.nil _ _);have D:Sz (Below wr.heap.size wr wr):=ae (aC _ _);have aV:q<=wr.heap.size:=(by have:=aR.o.size;have:=y.o;omega);clear K ao ad aM an;generalize (j.take d).map (List.drop d)=RR at*;generalize j.take d=XT at*;rename World=>T;go_wp2_with fail;go_loopw [14,16,83] (λK _ i wr=>∃f:Nat,f<=d/\i=int i64 f/\Sz (MOwn wr T.heap.size K (RR.take f))/\Sz (Below T.heap.size T wr)) (λ_ _ i _=>d-(intOf i).toNat)
       case atStart=>exact⟨0,by omega,rfl,J,D⟩
       case round=>
        clear J D;obtain⟨f,I,rfl,J,D⟩:=hrel;by_cases aw:f<d
        ·have bw:(f:Int)<(d:Int):=by omega
         obtain⟨b1,o1,a1,H,F,a8,ab,S,az,aX,bc⟩:=(a9.o.below D.o (aj _)).at aw;have aY:=ba.o.get (i:=f) (by rw[av.o];exact aw);rw[aY.1] at ab S aX;cases F;rw[Nat.zero_add] at ab;have bd:1<=d:=(by omega);have be:d<=H:=(by omega);have K:=Qm S aX (n:=d) (by omega);rw[Nat.add_sub_cancel_left] at K;have ac:=NH az bd be;have ay:T.heap.size<=wr.heap.size:=D.o.size;have Y:=ae (bb.o f aw);have bx:d+k-d=k:=(by omega);have bf:(RR.take f).length<=1000000:=(by rw[aH];omega);have bz:(H:Int)<=9223372036854775807:=(by unfold maxLen at bc;omega);clear S az aY;generalize (XT.getD f []).drop d=aY at*;by_cases az:H=d
         case' pos=>
          rw[bu az] at K ac;have CC:=ae (ed aY T.heap.size a1 k 0 wr K ay (λg=>rfl) (by omega));clear K ac;go_wp2_with fail
         case' neg=>
          rw[bA az] at K ac;have CC:=ae (ed aY T.heap.size (Option.map (λaa=>aa.add d) a1) k (H-d) wr K ay ac (by omega));clear K ac;go_wp2_with fail
         all_goals(
          refine CC.o.mono ?_;rintro g w5 ⟨b0,rfl,hu,aa⟩;obtain⟨ua,uc,rfl,-⟩:=hu.rd;have HU:=ae hu;have a0:=ae aa;clear hu aa CC az
          go_wp2_with (at_builtin;refine tV (w0:=wr) (w1:=w5) rfl _ _ rfl J.o a0.o HU.o ay bf rfl rfl ?_)
          intro v' w6 aa a3 bh bi;rw[<-Y.o] at aa;have bj:=ae aa;have bk:=ae (D.o.trans a3);clear aa a3 bh bi J D a0 HU Y;go_wp2_with fail;go_roundw
          case rel=>exact⟨f+1,by omega,by go_num,bj,bk⟩
          case measure=>simp[intOf];omega)
        ·obtain rfl:f=d:=by omega
         rw[aN (by rw[aS.o];exact aj _)] at J;have F:Sz (MOwn wr q u14 RR):=ae (J.o.base aV);have H:=ae (aR.o.trans (D.o.mono aV));go_wp2_with fail;go_ret2;exact⟨_,by rw[ag.o];rfl,by rw[ax.o,y.o];exact F.o,by rw[y.o];exact H.o⟩)
def jY(Z:Nat)(x:SC)(K:Nat):List SC:=(range K).map λa=>(x.drop (a*Z)).take Z
theorem rH{K Z:Nat}{x:SC}(b:By x)(g:x.length=K*Z):Wf Z (jY Z x K)/\(jY Z x K).length=K:=by
 refine⟨λh c=> ?_,by unfold jY;simp⟩;obtain⟨d,a,rfl⟩:=aZ.1 c;have a:=bG.1 a;have:=Nat.mul_le_mul_right Z (show d+1<=K by omega);rw[Nat.succ_mul] at this;exact⟨by rw[aH,length_drop];omega,λe f=>b e (mem_of_mem_drop (bI f))⟩
def x9(K H Z:Nat)(s:Int)(x:SC):List SC:=kQ (K+H) (fK K H Z s (range K)) (lh H Z (jY Z x K))
theorem oJ{K H Z:Nat}{s:Int}{x:SC}(c:fQ K H Z=true)(a:By x)(b:x.length=K*Z)(d:ek K H Z s (range K)=true):
 kP (K+H) (fK K H Z s (range K)) (lh H Z (jY Z x K))=0/\MidOK K H Z s (x9 K H Z s x)/\∀i,i<K->iM K H Z s (x9 K H Z s x) i=(jY Z x K).getD i []:=
 Rw c (rH a b).1 (rH a b).2 (bn d)
theorem DY(K H Z:Nat)(s:Int)(x:SC)(a:SE)(n c:Nat)(w:World)(z:fQ K H Z=true)(W:0<=s)(ac:s<4294967296)(T:Rd w w.heap.size a n (bK x))(d:By x)(t:n=K*Z)(hc:n<=c)(hm:c<=maxLen)(X:ek K H Z s (range K)=true):
 Calls prog 158 #[dO K H Z,.int .u32 s,slice a n c] w λf l=>∃g v,f=returned (.tuple #[pointer (some ⟨g,0,none⟩),int i64 0])/\w.heap.size<=g/\Blk l g 269 #[int i64 K,int i64 H,int i64 Z,.int .u32 s,v]/\(rM (x9 K H Z s x)).ok l (Fr w.heap.size) [v]/\Below w.heap.size w l:=by
 have p:=bn z;have b:x.length=n:=by have:=T.len;rwa [bL] at this
 obtain⟨m,q,-⟩:=oJ z d (by rw[b,t]) X;have e:=ae λw=>gU K H Z w;rw[z] at e;have j:=ae λw=>ng K H Z s w z W ac;rw[X] at j;have CF:=ae λw=>sJ K H Z w z;have CX:=ae λa c w (h:Rd w w.heap.size a K (bM (range K)))=>qz K H Z s (range K) a K c w z W ac h (λu i=>by have:=bG.1 i;omega) (by omega);have am:=ae (oZ (s:=s) (ids:=range K) z λu i=>by have:=bG.1 i;omega);have an:Sz ((fK K H Z s (range K)).length=K+H):=ae (by rw[r9,bg];omega);have ao:=ae (F8 (H:=H) (rH (K:=K) d (by rw[b,t])).1);have ap:=ae (rH (K:=K) (Z:=Z) d (by rw[b,t])).2;have aD:=ae (rH (K:=K) (Z:=Z) d (by rw[b,t])).1;have aE:K*Z<=16*24:=bC (by omega) (by omega);have aK:(K:Int)*(Z:Int)=(n:Int):=by rw[t,Int.natCast_mul]
 have aq:Sz (x9 K H Z s x=kQ (K+H) (fK K H Z s (range K)) (lh H Z (jY Z x K))):=ae rfl
 have I:Sz (Sx w (w.alloc (cells #[int i64 K,int i64 H,int i64 Z] 25)) [bY w.heap.size 25 #[int i64 K,int i64 H,int i64 Z],mR a n (bK x)]):=
  ae (((((Sx.nil w).add (mR a n (bK x)) T).alloc _).add (bY _ _ _) (Blk.new w 25 #[int i64 K,int i64 H,int i64 Z])))
 have y:w.heap.size<(w.alloc (cells #[int i64 K,int i64 H,int i64 Z] 25)).heap.size:=by simp
 have hX:Sz (Rd w w.heap.size a n (bK x)):=ae T;have aL:=ae d;have aS:K<=16:=by omega
 have aT:H<=4:=by omega
 have aX:Z<=24:=by omega
 have aY:1<=K:=by omega
 have a0:1<=Z:=by omega
 have ar:=ae t;unfold maxLen at hm;have au:∀w:World,(Instr.makeSlice 30 (int i64 (Z:Int)) (int i64 (Z:Int))).run prog w=.ok (slice (some ⟨w.heap.size,0,none⟩) Z Z) (w.alloc (cells (bO (replicate Z 0)) 5)):=λw=>eQ (n:=Z) (by omega) w;have a1:=ae m
 have av:=ae λ(g c r:Nat) (a i:SE) (w:World) (U:Fld w g) (A:RdM w w.heap.size a (K+H) (fK K H Z s (range K))) (C:RdM w w.heap.size i (K+H) (lh H Z (jY Z x K)))=>
  (yT (some ⟨g,0,none⟩) (K+H) Z (K+H) c r (fK K H Z s (range K)) (lh H Z (jY Z x K)) a i w (Fp.of U) A C am.o ao.o (by omega) (by omega) (by omega) (by omega)).mono λf l (h:∃v,f=returned (.tuple #[v,int i64 (kP (K+H) (fK K H Z s (range K)) (lh H Z (jY Z x K)):Nat)])/\MOwn l w.heap.size v (kQ (K+H) (fK K H Z s (range K)) (lh H Z (jY Z x K)))/\Below w.heap.size w l)=>
    (by obtain⟨v,V,Y,h3⟩:=h;rw[m] at V;exact⟨v,V,by rw[aq.o];exact Ey Y,h3⟩:∃v,f=returned (.tuple #[v,int i64 ((0:Nat):Int)])/\(rM (x9 K H Z s x)).ok l (Fr w.heap.size) [v]/\Below w.heap.size w l)
 clear T b p z X d m q t;unfold dO at e j CF CX ⊢;go_enter func158,ntmps158;go_wp2_with fail;generalize b:w.alloc (cells #[int i64 K,int i64 H,int i64 Z] 25)=a2 at*;clear b;refine(e.o _).mono ?_;rintro f aw ⟨rfl,d⟩;have b:=ae (I.o.step d);have ax:w.heap.size<aw.heap.size:=aW y d.size;obtain⟨p,q,r⟩:=ry (b.o.blk 0 rfl);clear d e I y;go_wp2_with fail;refine(j.o _).mono ?_;rintro f e ⟨rfl,d⟩;have I:=ae (b.o.step d);have W:w.heap.size<e.heap.size:=aW ax d.size;clear d j b p q r;obtain⟨p,q,r⟩:=ry (I.o.blk 0 rfl);have ad:Sz (OwnS e e.heap.size 30 1 (Fr e.heap.size) (slice none 0 0) ((replicate 0 (replicate Z 0)).map rB)):=ae (OwnS.nil _ _ _ _ _);have ag:=ae (aC e.heap.size e);go_wp2_with fail;go_loopw [8,31] (λv u wr=>∃k:Nat,k<=H/\u=int i64 k/\Sz (OwnS wr e.heap.size 30 1 (Fr e.heap.size) v ((replicate k (replicate Z 0)).map rB))/\Sz (Below e.heap.size e wr)) (λ_ u _=>H-(intOf u).toNat)
 case atStart=>exact⟨0,by omega,rfl,ad,ag⟩
 case round=>
  clear ad ag p q r;obtain⟨k,a3,rfl,j,m⟩:=hrel;have y:=ae (I.o.step m.o);obtain⟨A,N,O,rfl⟩:=j.o.sl;obtain⟨p,q,r⟩:=ry (y.o.blk 0 rfl);have C:=m.o.size;by_cases a4:k<H
  ·have ai:(k:Int)<(H:Int):=by omega
   have aa:((replicate k (replicate Z 0)).map rB).length<=1000000:=(by simp;omega);have ab:Sz ((replicate (k+1) (replicate Z 0)).map rB=(replicate k (replicate Z 0)).map rB++[rB (replicate Z 0)]):=ae (by rw[replicate_succ',aU];rfl);have b:=Blk.new wr 5 (bO (replicate Z 0));have D:=(aC wr.heap.size wr).alloc (aj _) (cells (bO (replicate Z 0)) 5);have E:=ae D
   have P:Sz ((rB (replicate Z 0)).ok (wr.alloc (cells (bO (replicate Z 0)) 5)) (λi=>Fr e.heap.size i/\some i≠(Value.slice A N O).ownBlock) [slice (some ⟨wr.heap.size,0,none⟩) Z Z]):=ae (by
    have:=oh (F:=λi=>Fr e.heap.size i/\some i≠(Value.slice A N O).ownBlock) b ⟨C,λf=>by have:=(j.o.lt _ f.symm).2;omega⟩ (by rw[aJ];unfold maxLen;omega)
    rwa [aJ] at this)
   have L:(wr.alloc (cells (bO (replicate Z 0)) 5)).heap.size=wr.heap.size+1:=(by simp);clear b D
   go_wp2_with (first
    | simp only[]
    | (at_builtin;refine iA (w:=wr) (w1:=wr.alloc (cells (bO (replicate Z 0)) 5)) rfl _ _ rfl underlying45 dP rfl (by decide) (by decide) j.o E.o C aa (R:=rB (replicate Z 0)) P.o rfl rfl (by rw[L];rfl) ?_))
   intro v6 w6 D Q;rw[<-ab.o] at D;have S:=ae D;have J:=ae (m.o.trans Q);clear D Q j P E y p q r m;obtain⟨b6,n6,c6,rfl⟩:=S.o.sl;go_wp2_with fail;go_roundw
   case rel=>exact⟨k+1,by omega,by go_num,S,J⟩
   case measure=>simp[intOf];omega
  ·obtain rfl:k=H:=by omega
   have ai:Sz (OwnS wr e.heap.size 30 1 Any (slice A N O) (((replicate k (replicate Z 0))++jY Z x 0).map rB)):=ae (by
    have:=j.o.base (aj _) (G:=Any) λ_ _=>trivial;unfold jY;rw[range_zero,map_nil,append_nil];exact this)
   rename World=>wo;clear j;go_wp2_with fail;go_loopw [8,42] (λv u wr=>∃b:Nat,b<=K/\u=int i64 b/\Sz (OwnS wr e.heap.size 30 1 Any v (((replicate k (replicate Z 0))++jY Z x b).map rB))/\Sz (Below e.heap.size e wr)) (λ_ u _=>K-(intOf u).toNat)
   case atStart=>exact⟨0,by omega,rfl,ai,m⟩
   case round=>
    clear ai m y p q r C;obtain⟨b,a5,rfl,j,m⟩:=hrel;have y:=ae (I.o.step m.o);obtain⟨A,N,O,rfl⟩:=j.o.sl;obtain⟨p,q,r⟩:=ry (y.o.blk 0 rfl);have C:=m.o.size;by_cases a6:b<K
    ·have a7:(b:Int)<(K:Int):=by omega
     have aa:(((replicate k (replicate Z 0))++jY Z x b).map rB).length<=1000000:=(by unfold jY;simp;omega);have ay:=Nat.mul_le_mul_right Z (show b+1<=K by omega);rw[<-ar.o,Nat.succ_mul] at ay;obtain⟨i,ak,rfl,d,al⟩:=mP (y.o.rd 1 rfl) (o:=b*Z) (k:=Z) (by omega) (by omega);obtain⟨b',p',u,a8,-⟩:=hX.o.2 (by omega);injection u with u;injection u with u e2 _;subst u e2;have ab:Sz (((replicate k (replicate Z 0))++jY Z x (b+1)).map rB=((replicate k (replicate Z 0))++jY Z x b).map rB++[rB ((x.drop (b*Z)).take Z)]):=ae (by unfold jY;simp[range_succ]);have a9:(b:Int)*(Z:Int)=((b*Z:Nat):Int):=(by rw[Int.natCast_mul]);have ba:((b:Int)+1)*(Z:Int)=((b*Z+Z:Nat):Int):=by rw[Int.add_mul,Int.one_mul,Int.natCast_add,Int.natCast_mul]
     have P:Sz ((rB ((x.drop (b*Z)).take Z)).ok wr (λi=>Any i/\some i≠(Value.slice A N O).ownBlock) [slice (some ⟨i,ak+b*Z,none⟩) Z (c-b*Z)]):=ae (by
      obtain⟨V,Y⟩:=al;refine⟨_,Z,c-b*Z,rfl,by omega,by unfold maxLen;omega,λf=>(by cases f),V,λt=> ?_⟩;obtain⟨b3,o3,E,_,az⟩:=Y t;injection E with E;injection E with E e4 _;subst E e4;exact⟨i,ak+b*Z,rfl,⟨trivial,λf=>by have:=(j.o.lt _ f.symm).1;omega⟩,az⟩)
     have HW:=ae (aC wr.heap.size wr);generalize ((replicate k (replicate Z 0))++jY Z x b).map rB=LL at*;generalize (x.drop (b*Z)).take Z=aA at*;generalize aB:b*Z=L at*;clear aB al;have al:(L:Int)<=(L:Int)+(Z:Int):=(by omega);have aB:(L:Int)+(Z:Int)<=(c:Int):=(by omega);have bb:¬c=L:=(by omega);have bc:L+Z-L=Z:=by omega
     go_wp2_with (at_builtin;refine iA (w:=wr) (w1:=wr) rfl _ _ rfl underlying45 dP rfl (by decide) (by decide) j.o HW.o C aa (R:=rB aA) P.o rfl rfl rfl ?_)
     intro v6 w6 D Q;rw[<-ab.o] at D;have S:=ae D;have J:=ae (m.o.trans Q);clear D Q j P y p q r m;obtain⟨b6,n6,c6,rfl⟩:=S.o.sl;go_wp2_with fail;go_roundw
     case rel=>exact⟨b+1,by omega,by go_num,S,J⟩
     case measure=>simp[intOf];omega
    ·obtain rfl:b=K:=by omega
     have D:=j.o.rep;have L:(lh k Z (jY Z x b)).length=b+k:=(by unfold lh;rw[aI,aJ,ap.o];omega);obtain⟨aR,cR,eR,P,-⟩:=fE (M:=lh k Z (jY Z x b)) D L;injection eR with u e2 E;subst u e2 E;have S:=ae (y.o.add (yf A (b+k) (lh k Z (jY Z x b))) P);have az:e.heap.size<=wr.heap.size:=C;clear D L P j m y C p q r;go_wp2_with fail;obtain⟨p,q,r⟩:=ry (S.o.blk 1 rfl);generalize P:w.heap.size=D at*;have L:=ae P;clear P
     go_region_held3 (λl=>l.cell? ⟨D,0,none⟩=some (int i64 b)/\l.cell? ⟨D,1,none⟩=some (int i64 k)/\l.cell? ⟨D,2,none⟩=some (int i64 Z)) (go_keep) (first
      | (go_at_call 216
         refine(qU _).mono ?_;rintro f wA ⟨g,rfl,l,U,d⟩;have S3:=ae ((S.o.drew.step d).add (bY g 337 qX) U);obtain⟨n0,n1,n2⟩:=ry (S3.o.blk 2 rfl);clear l U d)
      | (go_at_call 218
         refine(CF.o _).mono ?_;rintro f wB ⟨vf,rfl,l,d⟩;obtain⟨aF,cF,rfl,Q,-⟩:=dY (gM l) bg;have P:=ae ((S3.o.step d).add (mR aF b (bM (range b))) Q);obtain⟨m0,m1,m2⟩:=ry (P.o.blk 3 rfl);clear d l Q)
      | (go_at_call 217
         refine(CX.o _ _ _ (P.o.rd 0 rfl)).mono ?_;rintro f wC ⟨vm,rfl,Q,d⟩;obtain⟨aM,cM,rfl,U,-⟩:=fE Q an.o;have l:=ae ((P.o.step d).add (yf aM (b+k) (fK b k Z s (range b))) U);obtain⟨q0,q1,q2⟩:=ry (l.o.blk 4 rfl);clear Q U d)
      | (go_at_call 215
         refine(av.o g _ _ aM A _ (l.o.blk 2 rfl) (l.o.get 0 rfl) (l.o.get 3 rfl)).mono ?_;rintro f Q ⟨vs,rfl,U,d⟩;obtain⟨aV,nV,cV,rfl⟩:=nu U;have S6:=ae (l.o.step d);have HV:=ae U;have aA:=d.size;obtain⟨p0,p1,p2⟩:=ry (S6.o.blk 4 rfl);clear U d))
     all_goals(
      have J:=ae S6.o.1;have U:=l.o.1.size;have aa:=ae ((J.o.mono (by rw[L.o];exact aj _)).alloc (B:=D) (by have:=J.o.size;have:=L.o;omega) (cells #[int i64 b,int i64 k,int i64 Z,.int .u32 s,slice aV nV cV] 269));have ab:=ae (Blk.new Q 269 #[int i64 b,int i64 k,int i64 Z,.int .u32 s,slice aV nV cV]);have ak:=ae ((rM (x9 b k Z s x)).new HV.o ((aC Q.heap.size Q).alloc (aj _) (cells #[int i64 b,int i64 k,int i64 Z,.int .u32 s,slice aV nV cV] 269)));have al:D<=wC.heap.size:=(by have:=L.o;omega);have ay:D<=Q.heap.size:=(by omega);clear S6 l P S3 S U;go_wp2_with fail;go_ret2;exact⟨_,_,rfl,by rw[L.o];exact ay,ab.o,by rw[L.o];exact(rM _).more ak.o λi d _=>aP al d,by rw[L.o];exact aa.o⟩)
def Ac(a b:SC)(t:Nat):SC:=(xr a b).take t++a.drop t
theorem wW(a b:SC):Ac a b 0=a:=by unfold Ac;simp
theorem Ad{a b:SC}{n:Nat}(c:a.length=n)(d:b.length=n):Ac a b n=xr a b:=by
 unfold Ac;rw[aN (by rw[kH (by omega)];omega),drop_eq_nil_of_le (by omega),append_nil]
theorem Ae{a b:SC}{n t:Nat}(c:a.length=n)(d:b.length=n)(e:t<=n):(Ac a b t).length=n:=by
 unfold Ac;rw[aI,aH,length_drop,kH (by omega)];omega
theorem Af{a b:SC}{n t:Nat}(d:a.length=n)(e:b.length=n)(f:t<n):(Ac a b t).getD t 0=a.getD t 0:=by
 unfold Ac;have c:((xr a b).take t).length=t:=by rw[aH,kH (by omega)];omega
 rw[af,List.getElem?_append_right (by omega),c,Nat.sub_self,List.getElem?_drop,Nat.add_zero,<-af]
theorem Ag{a b:SC}{n t:Nat}(e:a.length=n)(f:b.length=n)(g:t<n):(Ac a b t).set t (a.getD t 0 ^^^ b.getD t 0)=Ac a b (t+1):=by
 have d:((xr a b).take t).length=t:=by rw[aH,kH (by omega)];omega
 unfold Ac;rw[set_append_right _ _ (by omega),d,Nat.sub_self,drop_eq_getElem_cons (show t<a.length by omega),set_cons_zero];have c:t<(xr a b).length:=by rw[kH (by omega)];omega
 rw[aO c,append_assoc];congr 1;have:=nH (a:=a) (b:=b) (by omega) t;rw[af,ah c] at this;show _ :: _=[_]++_;rw[<-this];rfl
theorem o9{m:Nat->SC}{cols z:SC}{k:Nat}(a:k<cols.length):bZ m (cols.take (k+1)) z=xr (bZ m (cols.take k) z) (m (cols.getD k 0)):=by
 unfold bZ;rw[aO a,foldl_append,af,ah a];rfl
theorem lw{w:World}{C g:Nat}{l:SC}(a:Blk w g 5 (bO l))(b:C<=g)(c:l.length<=maxLen):OwnB w C (slice (some ⟨g,0,none⟩) l.length l.length) l:=
 ⟨by rw[bL,Nat.mul_one],.inr ⟨g,l.length,bO l,rfl,b,a,aj _,c,by rw[kE,Nat.mul_one],by rw[Nat.mul_one];unfold bO;rw[aN (by rw[bL];exact aj _)]⟩⟩
theorem qP{w w':World}{g:Nat}(a:w.grownBy w' (some g))(i:Nat)(v:Value):w.grownBy (w'.setCell ⟨g,i,none⟩ v) (some g):=
 ⟨a.os,a.tape,a.output,by show _<=(w'.setCell ⟨g,i,none⟩ v).heap.size;simp only[World.setCell,Array.size_modify];exact a.size,λc d b=>(bJ _ _ _ _ (by intro e;exact b (by rw[e]))).trans (a.block c d b)⟩
theorem iW{w w':World}{g b o:Nat}(c:w.grownBy w' (some g))(d:b<w.heap.size)(e:b≠g):w'.cell? ⟨b,o,none⟩=w.cell? ⟨b,o,none⟩:=World.cell?_of_block (w:=w) (a:=⟨b,o,none⟩) (c.block b d λf=>e (Option.some.inj f))
theorem Ah(K H Z:Nat)(s:Int)(m:List SC)(g id:Nat)(t:SE)(T x:Nat)(F:Nat->Prop)(w:World)(J:fQ K H Z=true)(an:0<=s)(ao:s<4294967296)(L:MidOK K H Z s m)(aM:id<=65535)
 (B:Blk w g 269 #[int i64 K,int i64 H,int i64 Z,.int .u32 s,slice t T x])(U:(rM m).ok w F [slice t T x]):
 Calls prog 160 #[pointer (some ⟨g,0,none⟩),int i64 id] w λV a=>∃v,V=returned v/\OwnB a w.heap.size v (iM K H Z s m id)/\Below w.heap.size w a:=by
 have o:=bn J;obtain⟨a1,c1,M,b,-⟩:=fE U L.len;injection M with M e2 e3;subst M e2 e3;have W:=ae λw=>zO K H Z s id w an ao;obtain⟨f,aR⟩:=lG (s:=s) (id:=(id:Nat)) J;have X:Sz (iM K H Z s m id=bZ (λc=>m.getD c []) (iO K H Z s (id:Nat)) (replicate Z 0)):=ae rfl;have aS:=Ce K H Z s (id:Nat);have N:=ae f;have E:=ae L;have aT:Z<=24:=by omega
 have aV:¬(65535:Int)<(id:Int):=by omega
 have j:∀w:World,(Instr.makeSlice 30 (int i64 (Z:Int)) (int i64 (Z:Int))).run prog w=.ok (slice (some ⟨w.heap.size,0,none⟩) Z Z) (w.alloc (cells (bO (replicate Z 0)) 5)):=λw=>eQ (n:=Z) (by omega) w
 have e:Sz (Sx w (w.alloc (cells (bO (replicate Z 0)) 5)) [bY w.heap.size 5 (bO (replicate Z 0)),bY g 269 #[int i64 K,int i64 H,int i64 Z,.int .u32 s,slice t (K+H) x],yf t (K+H) m]):=
  ae (((((Sx.nil w).add (yf t (K+H) m) b).add (bY g _ _) B).alloc _).add (bY _ _ _) (Blk.new w 5 (bO (replicate Z 0))))
 have aX:=B.lt;have k:=ae b;have O:=B.cell 2;unfold dO at W;generalize iO K H Z s (id:Nat)=d at*;have aY:(w.alloc (cells (bO (replicate Z 0)) 5)).heap.size=w.heap.size+1:=by simp
 clear b U L o J B f;go_enter func160,ntmps160
 go_wp2_with (simp only[j])
 generalize w.alloc (cells (bO (replicate Z 0)) 5)=o at*;clear O j
 obtain⟨j,y,O,A,b4⟩:o.cell? ⟨g,0,none⟩=some (int i64 K)/\o.cell? ⟨g,1,none⟩=some (int i64 H)/\o.cell? ⟨g,2,none⟩=some (int i64 Z)/\o.cell? ⟨g,3,none⟩=some (.int .u32 s)/\o.cell? ⟨g,4,none⟩=some (slice t (K+H) x):=by
  have h:=e.o.blk 1 rfl;exact⟨h.cell 0,h.cell 1,h.cell 2,h.cell 3,h.cell 4⟩
 go_region_held3 (λa=>a.cell? ⟨g,0,none⟩=some (int i64 K)/\a.cell? ⟨g,1,none⟩=some (int i64 H)/\a.cell? ⟨g,2,none⟩=some (int i64 Z)/\a.cell? ⟨g,3,none⟩=some (.int .u32 s)) (go_keep) (first
  | (go_at_call 176
     refine(W.o _).mono ?_;rintro V p ⟨v,rfl,a,q⟩;obtain⟨aL,cL,rfl⟩:=a.lenA;have r:=ae (e.o.drew.step q);have Y:Sz (OwnI p o.heap.size (slice aL d.length cL) d):=ae a;have a0:o.heap.size<=p.heap.size:=q.size;have m0:=(r.o.blk 1 rfl).cell 0;have m1:=(r.o.blk 1 rfl).cell 1;have m2:=(r.o.blk 1 rfl).cell 2;have m3:=(r.o.blk 1 rfl).cell 3;clear q a))
 have aa:=ae (grownBy_refl p (some w.heap.size));have ab:Sz (Blk p w.heap.size 5 (bO (bZ (λc=>m.getD c []) (d.take 0) (replicate Z 0)))):=ae (r.o.blk 0 rfl);have f:RdM p w.heap.size t (K+H) m:=k.o.below r.o.1 (aj _);have ap:=ae f;have aq:=ae r.o.1;have u:∀b,(bZ (λc=>m.getD c []) (d.take b) (replicate Z 0)).length=Z:=λb=>fM aJ λc a=>(E.o.row (N.o c (bI a))).1;have G:∀b,By (bZ (λc=>m.getD c []) (d.take b) (replicate Z 0)):=λb=>(dU (D:=Z) (Byt.zero Z) λc a=>E.o.row (N.o c (bI a))).2;have ac:=ae u;have ar:=ae G;have a2:w.heap.size<p.heap.size:=by omega
 have m4:=(r.o.blk 1 rfl).cell 4;clear e k f u G j y O A b4 m0 m1 m2 m3;generalize a:w.heap.size=k at*;have ad:=ae a;clear a;generalize a:d.length=y at*;have I:=ae a;clear a;generalize a:o.heap.size=C at*;clear a;go_wp2_with fail;go_loopw [37] (λi wr=>∃b:Nat,b<=y/\i=int i64 b/\Sz (Blk wr k 5 (bO (bZ (λc=>m.getD c []) (d.take b) (replicate Z 0))))/\Sz (p.grownBy wr (some k))) (λi _=>y-(intOf i).toNat)
 case atStart=>exact⟨0,by omega,rfl,ab,aa⟩
 case round=>
  clear ab aa;obtain⟨b,a3,rfl,f,e⟩:=hrel;by_cases ag:b<y
  ·have a4:(b:Int)<(y:Int):=by omega
   have a:b<d.length:=(by rw[I.o];exact ag);obtain⟨gL,rfl,a5,au⟩:=Y.o.formA I.o (by omega);obtain⟨Q,-⟩:=Y.o.cellA I.o ag;have aw:wr.cell? ⟨gL,b,none⟩=some (int i64 (d.getD b 0:Nat)):=(iW e.o au (by omega)).trans Q;have P:d.getD b 0<K+H:=N.o _ (by rw[getD_at a];exact aQ a);obtain⟨bm,om,a',c',rfl,a6,R,j,-⟩:=ap.o.at P;have ai:wr.cell? ⟨bm,om+d.getD b 0,none⟩=some (slice a' (m.getD (d.getD b 0) []).length c'):=(iW e.o (by omega) (by omega)).trans R;have A:=(E.o.row P).1;have ax:=(E.o.row P).2;rw[A] at ai j;have n4:wr.cell? ⟨g,4,none⟩=some (slice (some ⟨bm,om,none⟩) (K+H) x):=(iW e.o (by omega) (by omega)).trans m4;have ay:=ae (o9 (m:=λc=>m.getD c []) (z:=replicate Z 0) a);have u:=ac.o b;have G:=ar.o b;have a7:((d.getD b 0:Nat):Int)<((K+H:Nat):Int):=(by omega);have az:=ae j;clear Q R a j;generalize a:m.getD (d.getD b 0) []=j at*;clear a;generalize bZ (λc=>m.getD c []) (d.take b) (replicate Z 0)=D at*;generalize a:bZ (λc=>m.getD c []) (d.take (b+1)) (replicate Z 0)=D2 at*;have aA:=ae a;clear a;generalize d.getD b 0=a8 at*;generalize a:K+H=a9 at*;clear a;rename World=>wo;have ak:Sz (Blk wo k 5 (bO (Ac D j 0))):=ae (by rw[wW];exact f.o);go_wp2_with fail;go_loopw [49] (λi wr=>∃a:Nat,a<=Z/\i=int i64 a/\Sz (Blk wr k 5 (bO (Ac D j a)))/\Sz (p.grownBy wr (some k))) (λi _=>Z-(intOf i).toNat)
   case atStart=>exact⟨0,by omega,rfl,ak,e⟩
   case round=>
    clear ak e f aw ai n4;obtain⟨a,aB,rfl,f,e⟩:=hrel;by_cases Q:a<Z
    ·have ba:(a:Int)<(Z:Int):=by omega
     obtain⟨br,aD,rfl,bb,al⟩:=az.o.2 (by omega);have am:=al a (.int .u8 (j.getD a 0:Nat)) (eP (by omega));have bc:wr.cell? ⟨br,aD+a,none⟩=some (.int .u8 (j.getD a 0:Nat)):=(iW e.o (by omega) (by omega)).trans am
     have hd:wr.cell? ⟨k,a,none⟩=some (.int .u8 (D.getD a 0:Nat)):=by
      rw[f.o.cell a];have:=eP (l:=Ac D j a) (i:=a) (by rw[Ae u A aB];exact Q);rw[Af u A Q] at this;simpa[bO] using this
     have bd:=f.o.frozen a;have aE:=getD_lt ax a;have aF:=getD_lt G a;have be:=u8_xor_nat (D.getD a 0) (j.getD a 0) aF aE;have R:=f.o.set a (.int .u8 ((D.getD a 0 ^^^ j.getD a 0:Nat):Int));rw[mf,Ag u A Q] at R;have S:=ae R;have aK:=ae (qP e.o a (.int .u8 ((D.getD a 0 ^^^ j.getD a 0:Nat):Int)));clear R al am f e;generalize D.getD a 0 ^^^ j.getD a 0=R at*;generalize D.getD a 0=y1 at*;generalize j.getD a 0=y2 at*;go_wp2_with fail;go_roundw
     case rel=>exact⟨a+1,by omega,by go_num,S,aK⟩
     case measure=>simp[intOf];omega
    ·obtain rfl:a=Z:=by omega
     have S:Sz (Blk wr k 5 (bO (bZ (λc=>m.getD c []) (d.take (b+1)) (replicate a 0)))):=ae (by rw[aA.o,ay.o,<-Ad u A];exact f.o);go_wp2_with fail;go_roundw
     case rel=>exact⟨b+1,by omega,by go_num,S,e⟩
     case measure=>simp[intOf];omega
  ·obtain rfl:b=y:=by omega
   rw[aN (by rw[I.o];exact aj _),<-X.o] at f;have a:(iM K H Z s m id).length=Z:=(by rw[X.o];have:=ac.o d.length;rw[take_length] at this;exact this);have q:=e.o;have c:Sz (Below k w wr):=ae (aq.o.grown q (by omega) (λj q=>by injection q with q;omega));go_wp2_with fail;go_ret;refine⟨_,rfl,?_,by rw[ad.o];exact c.o⟩;rw[ad.o];have:=lw (C:=k) f.o (aj _) (by rw[a];unfold maxLen;omega)
   rwa [a] at this
def uT(id:Nat)(a:SC):Rp:=rP (rV (int i64 id)) (rB a)
theorem KO:(prog.info? 154).map (λa=>(a.zero,a.size,a.bytes))=some (some (.agg #[int i64 0,slice none 0 0]),2,32):=by kernel_rfl
def lenV:Value->Nat | slice _ a _=>a | _=>0
theorem Jd{n i:Nat}(a:i<n):(bK (replicate n 0))[i]? =some (.int .u8 0):=by
 unfold bK;rw[List.getElem?_map,List.getElem?_replicate,bu a];rfl
theorem ED(n c B:Nat)(a:SE)(w:World)(e:Rd w B a n (bK (replicate n 0)))(j:n<=c)(g:c<=maxLen):
 Calls prog 301 #[slice a n c,.int .u8 0] w λb d=>b=returned (slice a 0 c)/\w=d:=by
 have i:=ae e;clear e;unfold maxLen at g;go_enter func301,ntmps301;go_wp2_with fail;go_loopw [0] (λb wr=>∃d:Nat,d<=n/\b=slice a d c/\wr=w) (λb _=>lenV b)
 case atStart=>exact⟨n,aj _,rfl,rfl⟩
 case round=>
  obtain⟨d,k,rfl,rfl⟩:=hrel;cases d with
  | zero=>
    go_wp2_with fail;go_ret;exact⟨rfl,rfl⟩
  | succ b=>
    obtain⟨l,m,rfl,o,f⟩:=i.o.2 (by omega);have p:=f b _ (Jd (by omega));have q:(0:Int)<(b:Int)+1:=(by omega);have r:IntKind.i64.wrap ((b:Int)+1-1)=(b:Int):=(by rw[IntKind.wrap_i64];omega);clear f;go_wp2_with fail;go_roundw
    case rel=>exact⟨b,by omega,rfl,by first | trivial | rfl⟩
    case measure=>show b<b+1;omega
theorem Je(c:Nat)(a:SE)(w:World):
 Calls prog 300 #[slice a 0 c,.int .u8 0] w λb d=>b=returned (slice none 0 0)/\w=d:=by
 go_enter func300,ntmps300;go_wp2_with fail;go_loopw [0] (λb wr=>b=slice a 0 c/\wr=w) (λb _=>lenV b)
 case atStart=>exact⟨rfl,rfl⟩
 case round=>
  obtain⟨rfl,rfl⟩:=hrel;go_wp2_with fail;go_ret;exact⟨rfl,rfl⟩
theorem qV(n c B:Nat)(a:SE)(w:World)(b:Rd w B a n (bK (replicate n 0)))(e:n<=c)(f:c<=maxLen):
 Calls prog 238 #[slice a n c,.string ⟨#[0]⟩] w λd g=>d=returned (slice none 0 0)/\∃j,g=w.drewN j:=by
 have g:=ae λw (b:Rd w B a n (bK (replicate n 0)))=>ED n c B a w b e f;have i:=ae λw=>Je c a w;have k:=ae b;clear b e f;go_enter func238,ntmps238;by_cases l:n=0
 ·subst l
  go_wp2_with fail;go_ret;exact⟨rfl,0,rfl⟩
 ·have o:((n:Int) == 0)=false:=by simp;omega
  go_wp2_with fail
  go_region_with (first
   | (go_at_call 301
      refine(g.o w.drew k.o).mono ?_;rintro d m ⟨rfl,rfl⟩)
   | (go_at_call 300
      refine(i.o _).mono ?_;rintro d m ⟨rfl,rfl⟩))
  all_goals(go_wp2_with fail;go_ret;exact⟨rfl,1,rfl⟩)
theorem BZ(n c B:Nat)(a:SE)(w:World)(b:Rd w B a n (bK (replicate n 0)))(d:n<=c)(e:c<=maxLen):
 Calls prog 294 #[slice a n c] w λf g=>f=returned (bool true)/\∃j,g=w.drewN j:=by
 have g:=ae (qV n c B a w b d e);clear b d e;go_enter func294,ntmps294;go_wp2_with fail;refine g.o.mono ?_;rintro f i ⟨rfl,j,rfl⟩;go_wp2_with fail;go_ret;exact⟨rfl,j,rfl⟩
theorem GV{c:Type}(p:c->Bool):∀(l:List c) (k:Nat) (s:c),(l.filter p)[k]? =some s->∃b,l[b]? =some s/\(l.filter p).take k=(l.take b).filter p:=by
 intro l
 induction l with
 | nil=>intro k s a;simp at a
 | cons g l f=>
   intro k s a;rw[filter_cons] at a ⊢;cases hp:p g with
   | true=>
     rw[hp] at a;rw[bu rfl] at a ⊢;cases k with
     | zero=>exact⟨0,by simpa using a,by simp⟩
     | succ k=>
       obtain⟨b,d,e⟩:=f k s (by simpa using a);exact⟨b+1,by simpa using d,by rw[take_succ_cons,take_succ_cons,filter_cons,bu hp,e]⟩
   | false=>
     rw[hp] at a;rw[bA (by simp)] at a ⊢;obtain⟨b,d,e⟩:=f k s a;exact⟨b+1,by simpa using d,by rw[take_succ_cons,filter_cons,bA (by simp[hp]),e]⟩
def dF(n:Nat)(known:Nat->Bool):List SC:=((range n).filter known).map λa=>[a]
theorem DJ{n:Nat}{known:Nat->Bool}{r:Nat}(a:r<(dF n known).length):∃c,c<n/\known c=true/\(dF n known).getD r []=[c]:=by
 have b:(dF n known).getD r []∈dF n known:=by rw[af,ah a];exact aQ a
 obtain⟨c,d,e⟩:=aZ.1 b;obtain⟨f,g⟩:=mem_filter.1 d;exact⟨c,bG.1 f,g,e.symm⟩
theorem GZ{n:Nat}{known:Nat->Bool}{rest:List SC}{St:List (Nat×Nat)}{De Le:SC}(P:qE n (rest++dF n known) St De Le)(u:∀r,∀c∈rest.getD r [],c<n/\known c=false):
 Bf n known rest (St.filter λe=>decide (e.1<rest.length)) De (Le.filter λi=>decide (i<rest.length)):=by
 have v:∀r,r<rest.length->(rest++dF n known).getD r []=rest.getD r []:=λr a=>by
  rw[af,af,List.getElem?_append_left a]
 have C:∀r,¬r<rest.length->r<(rest++dF n known).length->∃c,c<n/\known c=true/\(rest++dF n known).getD r []=[c]:=λr a b=>by
  rw[aI] at b;obtain⟨c,j,k,p⟩:=DJ (n:=n) (known:=known) (r:=r-rest.length) (by omega);refine⟨c,j,k,?_⟩;rw[<-p,af,af,List.getElem?_append_right (by omega)]
 have D:∀(r c:Nat),(r,c)∈St->r<(rest++dF n known).length/\c∈(rest++dF n known).getD r []:=λr c a=>by
  obtain⟨q,f⟩:=List.getElem?_of_mem a;obtain⟨d,b,_⟩:=P.step q r c f;exact⟨d,b⟩
 have w:∀(r c:Nat),(r,c)∈St->(r<rest.length↔known c=false):=λr c a=>by
  obtain⟨d,b⟩:=D r c a;by_cases g:r<rest.length
  ·rw[v r g] at b
   exact⟨λ_=>(u r c b).2,λ_=>g⟩
  ·obtain⟨l,j,k,p⟩:=C r g d
   rw[p] at b;obtain rfl:c=l:=(by simpa using b);exact⟨λa=>absurd a g,λa=>by rw[k] at a;cases a⟩
 have E:∀c∈De,known c=false:=λc h=>by
  cases f:known c with
  | false=>rfl
  | true=>
    exfalso;have o:c<n:=(P.all c).2 (.inr h);have m:[c]∈rest++dF n known:=mem_append_right _ (aZ.2 ⟨c,mem_filter.2 ⟨bG.2 o,f⟩,rfl⟩);obtain⟨r,g,s⟩:=bH m;refine P.nodead c h r g ?_;rw[af,ah g,s];rfl
 have s:(St.filter λe=>decide (e.1<rest.length)).map Prod.snd=(St.map Prod.snd).filter λc=> !known c:=by
  rw[filter_map];congr 1;refine filter_congr λe F=> ?_;obtain⟨r,c⟩:=e;have:=w r c F;show decide (r<rest.length)= !known c;cases f:known c with
  | false=>exact bq (this.2 f)
  | true=>exact decide_eq_false λa=>by rw[this.1 a] at f;cases f
 refine⟨λq r c f=> ?_,?_,λc h=> ?_,λc h=> ?_,λi=> ?_⟩
 ·obtain⟨x,d,b⟩:=GV _ St q (r,c) f
  have y:r<rest.length:=bn (mem_filter.1 (mem_of_getElem? f)).2;obtain⟨K,z,A⟩:=P.step x r c d;rw[v r y] at z A;refine⟨y,z,λl B G=> ?_⟩;rcases A l B G with a | ⟨H,t,j,k⟩
  ·exact .inl a
  ·right
   have m:(t,l)∈(St.take x).filter λe=>decide (e.1<rest.length):=by
    refine mem_filter.2 ⟨mem_of_getElem? (i:=H) (by rw[List.getElem?_take,bu j];exact k),?_⟩;exact bq ((w t l (mem_of_getElem? k)).2 (u r l B).2)
   rw[<-b] at m;obtain⟨I,o⟩:=List.getElem?_of_mem m;rw[List.getElem?_take] at o;split at o
   ·rename_i J
    exact⟨I,t,J,o⟩
   ·cases o
 ·rw[s]
  obtain⟨l,m,o⟩:=nodup_append.1 P.cols;exact nodup_append.2 ⟨l.filter _,m,λt x y z=>o t (mem_filter.1 x).1 y z⟩
 ·rw[s,mem_filter]
  constructor
  ·intro a
   rcases(P.all c).1 h with d | d
   ·exact .inl ⟨d,by rw[a];rfl⟩
   ·exact .inr d
  ·rintro(⟨_,a⟩ | a)
   ·simpa using a
   ·exact E c a
 ·rw[s,mem_filter] at h
  exact(P.all c).2 (h.elim (λa=>.inl a.1) .inr)
 ·rw[mem_filter,P.left,mem_filter,bG]
  have m:i<rest.length->(i∈(St.filter λe=>decide (e.1<rest.length)).map Prod.fst↔i∈St.map Prod.fst):=λl=>by
   constructor
   ·intro a
    obtain⟨e,d,b⟩:=aZ.1 a;exact aZ.2 ⟨e,(mem_filter.1 d).1,b⟩
   ·intro a
    obtain⟨e,d,b⟩:=aZ.1 a;exact aZ.2 ⟨e,mem_filter.2 ⟨d,bq (by rw[b];exact l)⟩,b⟩
  constructor
  ·rintro⟨⟨d,b⟩,j⟩
   have l:=bn j;refine⟨l,λa=> ?_⟩;have:=(m l).1 a;rw[contains_iff_mem.2 this] at b;cases b
  ·rintro⟨d,b⟩
   refine⟨⟨by rw[aI];omega,?_⟩,bq d⟩
   have:(St.map Prod.fst).contains i=false:=by
    cases f:(St.map Prod.fst).contains i with
    | false=>rfl
    | true=>exact absurd ((m d).2 (contains_iff_mem.1 f)) b
   rw[this];rfl
def AZ(kn:Nat->Bool)(W K:Nat->SC):Nat->SC:=λa=>if kn a then K a else W a
theorem FI{D i:Nat}(c:i<D){v:Nat->Nat->Nat}(d:∀i j,v i j<256)(j:Nat):comes D v (eH D i) j=v i j:=by
 unfold comes
 have e:vO (eH D i)=λa=>if a=i then 1 else 0:=funext λa=>by
  show(eH D i).getD a 0=_;rw[oo];by_cases b:a=i
  ·rw[bu ⟨b,c⟩,bu b]
  ·rw[bA (λf=>b f.1),bA b]
 rw[e,kY _ (λa=>d a j),bu c]
theorem sV(Z j:Nat):(replicate Z 0).getD j 0=0:=by rw[af,List.getElem?_replicate];split <;> rfl
theorem Ke{n D Z:Nat}{kn:Nat->Bool}{l:List SC}{St:List (Nat×Nat)}{De Le:SC}(P:Bf n kn l St De Le)(x:De.length=D)(t:∀r,(l.getD r []).Nodup){m:Nat->SC}(h:∀c,c<n->Byt Z (m c))
 {z vl W0 M0:Nat->SC}(k:∀r,r<l.length->Byt Z (z r)/\∀j,sX (λc j=>(m c).getD j 0) j (l.getD r [])=(z r).getD j 0)(o:∀c,c<n->kn c=true->vl c=m c)
 (u:∀i,i<D->W0 (De.getD i 0)=eH D i/\M0 (De.getD i 0)=replicate Z 0){X:List SC}(f:X=De.map m):
 ∀c,c<n->Byt D (AZ kn (dM l (λ_=>replicate D 0) W0 St) (λ_=>replicate D 0) c)/\Byt Z (AZ kn (dM l z M0 St) vl c)/\
  ∀j,(m c).getD j 0=comes D (λi j=>(X.getD i []).getD j 0) (AZ kn (dM l (λ_=>replicate D 0) W0 St) (λ_=>replicate D 0) c) j ^^^ (AZ kn (dM l z M0 St) vl c).getD j 0:=by
 intro c d
 have p:∀i j:Nat,(X.getD i []).getD j 0<256:=λi j=>by
  rcases bD i X.length with e | e
  ·refine getD_lt ?_ j
   have a:i<De.length:=(by rw[f,aG] at e;exact e);have b:X.getD i []=m De[i]:=(by rw[f,af,List.getElem?_map,ah a];rfl);rw[b];exact(h _ (P.bd _ (.inr (aQ a)))).2
  ·have b:X.getD i []=[]:=by rw[af,List.getElem?_eq_none e];rfl
   rw[b];show(0:Nat)<256;decide
 unfold AZ;cases hk:kn c with
 | true=>
   rw[bu rfl,bu rfl];refine⟨Byt.zero D,by rw[o c d hk];exact h c d,λj=> ?_⟩;rw[kN,Nat.zero_xor,o c d hk]
 | false=>
   rw[bA (by decide),bA (by decide)];have q:=OP (D:=D) (Z:=Z) (W0:=W0) (M0:=M0) (z:=z) P.step t (λc j=>(m c).getD j 0) (λi j=>(X.getD i []).getD j 0) p (λr g=>(k r g).1) (λr j g=>(k r g).2 j) (λy v=> ?_) St.length (aj _) c ?_
   ·rw[take_length] at q
    exact q
   ·obtain⟨i,a,rfl⟩:=bH v
    have w:De.getD i 0=De[i]:=(by rw[af,ah a];rfl);obtain⟨g,s⟩:=u i (by omega);rw[w] at g s;rw[g,s];refine⟨⟨iN _ _,pu _ _⟩,Byt.zero Z,λj=> ?_⟩;rw[FI (by omega) p,sV,Nat.xor_zero];have b:X.getD i []=m De[i]:=(by rw[f,af,List.getElem?_map,ah a];rfl);rw[b]
   ·rw[take_length]
    exact((P.all c d).1 hk).symm
theorem FJ{n Z:Nat}{l:List SC}{Le:SC}{M z:Nat->SC}{g:List SC}{m:Nat->Nat->Nat}(h:∀c,c<n->Byt Z (M c))(i:∀c,c<n->∀j,m c j=(M c).getD j 0)
 (k:∀r∈Le,∀c∈l.getD r [],c<n)(o:∀r∈Le,Byt Z (z r))(p:∀r∈Le,∀j,sX m j (l.getD r [])=(z r).getD j 0)
 (q:Wf n g)(s:∀row∈g,∀j,eG (vO row) (λc=>m c j) n=0):
 ∀b∈Le.map (λr=>bZ M (l.getD r []) (z r))++g.map λrow=>dW M row (replicate Z 0) n,b=replicate Z 0:=by
 intro b e;rcases bF.1 e with e | e
 ·obtain⟨r,d,rfl⟩:=aZ.1 e
  have f:∀c∈l.getD r [],(M c).length=Z:=λc a=>(h c (k r d c a)).1;refine ext_get (by rw[fM (o r d).1 f,aJ]) λj=> ?_;rw[jM j (o r d).1 f,<-p r d j,sV];have t:sX m j (l.getD r [])=sX (λc j=>(M c).getD j 0) j (l.getD r []):=nI λc a=>i c (k r d c a) j;rw[t,Nat.xor_self]
 ·obtain⟨row,d,rfl⟩:=aZ.1 e
  have f:∀c,c<n->(M c).length=Z:=λc a=>(h c a).1;refine ext_get (by rw[(gD (Byt.zero Z) n f).1,aJ]) λj=> ?_;rw[Cg (q row d).2 j n f,sV];refine Eq.trans ?_ (s row d j)
  have:∀a,a<=n->eG (vO row) (λc=>(M c).getD j 0) a=eG (vO row) (λc=>m c j) a:=by
   intro a
   induction a with
   | zero=>intro _;rfl
   | succ a t=>intro u;show eG _ _ a ^^^ fm (vO row a) ((M a).getD j 0)=eG _ _ a ^^^ fm (vO row a) (m a j);rw[t (by omega),i a (by omega) j]
  exact this n (aj _)
theorem Kg{Z:Nat}{M:Nat->SC}{row z:SC}(e:z.length=Z)(j:Nat):∀k,(∀c,c<k->(M c).length=Z)->(dW M row z k).length=Z/\(dW M row z k).getD j 0=z.getD j 0 ^^^ eG (vO row) (λc=>(M c).getD j 0) k:=by
 intro k
 induction k with
 | zero=>intro _;exact⟨e,(Nat.xor_zero _).symm⟩
 | succ k f=>
   intro b;obtain⟨a,g⟩:=f λc d=>b c (by omega);have d:(lM (row.getD k 0) (M k)).length=Z:=(by rw[sK];exact b k (by omega));refine⟨?_,?_⟩
   ·show(xr (dW M row z k) (lM (row.getD k 0) (M k))).length=Z
    rw[kH (by rw[a,d])];exact a
   ·show(xr (dW M row z k) (lM (row.getD k 0) (M k))).getD j 0=_
    rw[nH (by rw[a,d]),g,jZ,Nat.xor_assoc];rfl
theorem N9{D Z:Nat}{X:List SC}{w z b:SC}(d:Wf Z X)(i:X.length=D)(e:z.length=Z)(f:b.length=Z)(g:∀j,b.getD j 0=comes D (λa j=>(X.getD a []).getD j 0) w j ^^^ z.getD j 0):dW (λa=>X.getD a []) w z D=b:=by
 have h:∀c,c<D->(X.getD c []).length=Z:=λc k=>(d.get (by omega)).1;have c:=λj=>Kg (M:=λa=>X.getD a []) (row:=w) e j D h;refine ext_get (by rw[(c 0).1,f]) λj=> ?_;rw[(c j).2,g j,Nat.xor_comm];rfl
def dA(l:List Bool):List Value:=l.map Value.bool
theorem mX(l:List Bool):(dA l).length=l.length:=aG _
theorem vJ{w:World}{B:Nat}{a:SE}{n:Nat}{l:List Bool}(c:Rd w B a n (dA l)){i:Nat}(g:i<n):∃b o,a=some ⟨b,o,none⟩/\b<B/\w.cell? ⟨b,o+i,none⟩=some (bool (l.getD i false)):=by
 have h:l.length=n:=by have:=c.len;rwa [mX] at this
 obtain⟨b,o,d,e,f⟩:=c.2 (by omega);exact⟨b,o,d,e,f i _ (by unfold dA;rw[List.getElem?_map,af,ah (by omega)];rfl)⟩
def eu(kn:List Bool)(cols:SC):SC:=cols.filter λa=> !kn.getD a false
def mY(kn:List Bool)(cols:SC):SC:=cols.filter λa=>kn.getD a false
theorem Dl{kn:List Bool}{cols:SC}{k:Nat}(a:k<cols.length):eu kn (cols.take (k+1))=if kn.getD (cols.getD k 0) false then eu kn (cols.take k) else eu kn (cols.take k)++[cols.getD k 0]:=by
 unfold eu;rw[aO a,filter_append,af (l:=cols),ah a];show _++List.filter _ [cols[k]]=if kn.getD cols[k] false then _ else _++[cols[k]];cases hk:kn.getD cols[k] false with
 | true=>rw[filter_cons,hk];simp
 | false=>rw[filter_cons,hk];simp
theorem NG{kn:List Bool}{cols:SC}{k:Nat}(a:k<cols.length):mY kn (cols.take (k+1))=if kn.getD (cols.getD k 0) false then mY kn (cols.take k)++[cols.getD k 0] else mY kn (cols.take k):=by
 unfold mY;rw[aO a,filter_append,af (l:=cols),ah a];show _++List.filter _ [cols[k]]=if kn.getD cols[k] false then _++[cols[k]] else _;cases hk:kn.getD cols[k] false with
 | true=>rw[filter_cons,hk];simp
 | false=>rw[filter_cons,hk];simp
theorem OwnB.atA{w:World}{C n c i:Nat}{a:SE}{l:SC}(b:OwnB w C (slice a n c) l)(e:l.length=n)(k:i<n):
 ∃g,a=some ⟨g,0,none⟩/\C<=g/\g<w.heap.size/\w.cell? ⟨g,i,none⟩=some (.int .u8 (l.getD i 0:Nat))/\w.frozen? ⟨g,i,none⟩=false/\∀x:Nat,OwnB (w.setCell ⟨g,i,none⟩ (.int .u8 (x:Int))) C (slice a n c) (l.set i x):=by
 unfold OwnB at b ⊢;rw[e] at b;obtain⟨g,m,d,f,h⟩:=World.ownsRow.form b (by omega);injection d with d o j;subst d j;refine⟨g,rfl,f,h,(b.cellAt i (by omega)).trans (eP (by omega)),b.frozenAt i,λx=> ?_⟩;rw[length_set,e,<-ww];exact(b.stored i _).1
theorem pQ{w:World}{ops:Array Oper}{rest:List Oper}{o:Oper}{a:Act}{Q:Exit->Act->World->Prop}(l:o.guard=none)(s x:Operand){C y:Nat}{i:Int}{v:Value}{xs:SC}(m:i=(y:Int))
 (n:o.op=.call { callee:=.builtin .append,args:=#[s,x],argTypes:=#[22,22] })
 (p:OwnI w C v xs)(h:C<=w.heap.size)(D:xs.length<=1000000)(hs:a.eval s=v)(q:a.eval x=slice (some ⟨w.heap.size,0,none⟩) 1 1)
 (K:∀e c,OwnI c C e (xs++[y])->Below C w c->w.heap.size<=c.heap.size->(∀b,b<w.heap.size->some b≠v.ownBlock->c.heap[b]? =w.heap[b]?)->(e.ownBlock=v.ownBlock\/∃b,e.ownBlock=some b/\w.heap.size<=b)->wpList prog ops Q rest (a.put o.dst e) c):
 wpList prog ops Q (o :: rest) a (w.alloc (cells #[int i64 i] 3)):=by
 subst m;have d:=(aC w.heap.size w).alloc (aj _) (cells #[int i64 (y:Int)] 3);have j:OwnI (w.alloc (cells #[int i64 (y:Int)] 3)) C v xs:=gQ p d;have k:=aP h d.size;have r:=fe w #[int i64 (y:Int)] 3 0;have t:=d.mono h;generalize w.alloc (cells #[int i64 (y:Int)] 3)=u at*;refine kD (P:=prog) u l s x 22 n C 3 (int i64 0) 8 underlying22 je rfl v xs.length (bM xs) hs j w.heap.size (int i64 (y:Int)) q r rfl (by omega) (by unfold maxLen;omega) k λe c z f A=> ?_;refine K e c ?_ (t.trans ((aC _ _).grown f k λg f=>(World.ownsRow.lt j g f).1)) (aP d.size f.size) (λb g B=>(f.block b (aW g d.size) B).trans (d.block b g)) (A.elim .inl λg=>.inr ⟨_,g,d.size⟩);unfold OwnI;rw[aI];have g:bM (xs++[y])=bM xs++[int i64 (y:Int)]:=by unfold bM;rw[aU];rfl
 rw[g];exact z
theorem vK{w:World}{C e n g:Nat}{v:Value}{xs:List Value}(d:w.ownsRow C e 1 v n xs){t:TypeId}{c:Array Value}(f:Blk w g t c)(h:t≠e):some g≠v.ownBlock:=by
 intro b;rcases d.2 with⟨rfl,_⟩ | ⟨k,l,m,rfl,_,i,_⟩
 ·simp[Value.ownBlock] at b
 ·simp[Value.ownBlock] at b
  subst b;have a:w.heap[g]? =some (.cells c t (0,0)):=f;rw[i] at a;injection a with a;injection a with _ j;exact h j.symm
theorem dB{w w':World}{C e n:Nat}{v:Value}{xs:List Value}(a:w.ownsRow C e 1 v n xs)(d:∀b,v.ownBlock=some b->w'.heap[b]? =w.heap[b]?):w'.ownsRow C e 1 v n xs:=by
 refine⟨a.1,?_⟩;rcases a.2 with f | ⟨c,g,h,rfl,i,j,k⟩
 ·exact .inl f
 ·exact .inr ⟨c,g,h,rfl,i,(d c rfl).trans j,k⟩
theorem zu(g n q Z:Nat)(sl:Value)(R I G ad:SE)(ck cv N J:Nat)(kn:List Bool)(vl:List SC)(cols m:SC)(w:World)
 (hg:Blk w g 353 #[sl,slice R n ck,slice I n cv])(hk:Rd w w.heap.size R n (dA kn))(hv:RdM w w.heap.size I n vl)
 (K:Rd w w.heap.size G q (bM cols))(S:Rd w w.heap.size ad Z (bK m))(aV:ad=none->J=0)(hZ:Z<=1000)(hq:q<=1000)(hn:n<=1000)
 (aw:∀c∈cols,c<n)(ax:∀c∈cols,kn.getD c false=true->(vl.getD c []).length=Z/\By (vl.getD c []))(ay:By m):
 Calls prog 293 #[pointer (some ⟨g,0,none⟩),.agg #[slice G q N,slice ad Z J]] w λo b=>
  ∃r d,o=returned (.agg #[r,d])/\OwnI b w.heap.size r (eu kn cols)/\OwnB b w.heap.size d (bZ (λc=>vl.getD c []) (mY kn cols) m)/\Below w.heap.size w b:=by
 have d:m.length=Z:=by have:=S.len;rwa [bL] at this
 have e:cols.length=q:=by have:=K.len;simpa[bM] using this
 have bi:=hg.lt;obtain⟨i,b⟩:∃i,i=(w.alloc (cells #[slice G q N,slice ad Z J] 286)).alloc (cells #[slice none 0 0,slice none 0 0] 286):=⟨_,rfl⟩
 have Y:Sz (Sx w i [bY (w.heap.size+1) 286 #[slice none 0 0,slice none 0 0],bY w.heap.size 286 #[slice G q N,slice ad Z J],bY g 353 #[sl,slice R n ck,slice I n cv],mR R n (dA kn),yf I n vl,mR G q (bM cols),mR ad Z (bK m)]):=by
  rw[b];have T:=((((((Sx.nil w).add (mR ad Z (bK m)) S).add (mR G q (bM cols)) K).add (yf I n vl) hv).add (mR R n (dA kn)) hk).add (bY g _ _) hg);have U:=(T.alloc (cells #[slice G q N,slice ad Z J] 286)).add (bY w.heap.size _ _) (Blk.new w _ _);have h3:=(U.alloc (cells #[slice none 0 0,slice none 0 0] 286)).add (bY _ _ _) (Blk.new _ _ _);have o:(w.alloc (cells #[slice G q N,slice ad Z J] 286)).heap.size=w.heap.size+1:=(by simp);rw[o] at h3;exact ae h3
 have f:i.heap.size=w.heap.size+2:=by rw[b];simp
 have aX:=ae aw;have ai:=ae ax;have aY:=ae ay;have al:=ae d;have az:=ae e;clear hg hk hv K S aw ax ay d e;go_enter func293,ntmps293;go_wp2_with fail;rw[<-b];clear b;refine(ed m _ ad Z J i (Y.o.rd 6 rfl) (aj _) aV (by omega)).mono ?_;rintro o H ⟨bj,rfl,e,k⟩;obtain⟨b,d,rfl,-⟩:=e.rd2 al.o;have j:=ae e;have z:=ae k;clear e k;have C:=ae (Y.o.step z.o);have a0:=z.o.size;have l:H.cell? ⟨w.heap.size,0,none⟩=some (slice G q N):=(C.o.blk 1 rfl).cell 0;have bl:w.heap.size<H.heap.size:=by omega
 have a4:=ae f;clear f;have f:=ae (Blk.new H 286 #[slice none 0 0,slice b Z d]);have e:=(aC H.heap.size H).alloc (aj _) (cells #[slice none 0 0,slice b Z d] 286);have aA:=ae (z.o.trans (e.mono a0));have s:=ae (j.o.below e);have t:(H.alloc (cells #[slice none 0 0,slice b Z d] 286)).heap.size=H.heap.size+1:=by simp
 clear e j z;go_upto_region 3 with fail;clear l C;generalize H.alloc (cells #[slice none 0 0,slice b Z d] 286)=w2 at*;generalize e:H.heap.size=l at*;clear e t;have aB:Sz (∃r:Value,Blk w2 l 286 #[r,slice b Z d]/\OwnI w2 i.heap.size r (eu kn (cols.take 0))/\OwnB w2 i.heap.size (slice b Z d) (bZ (λc=>vl.getD c []) (mY kn (cols.take 0)) m)):=ae ⟨_,f.o,OwnI.nil _ _,s.o⟩;clear f s;go_wp2_with fail;go_loopw [17] (λL wr=>∃e:Nat,e<=q/\L=int i64 e/\Sz (∃r:Value,Blk wr l 286 #[r,slice b Z d]/\OwnI wr i.heap.size r (eu kn (cols.take e))/\OwnB wr i.heap.size (slice b Z d) (bZ (λc=>vl.getD c []) (mY kn (cols.take e)) m))/\Sz (Below i.heap.size i wr)) (λL _=>q-(intOf L).toNat)
 case atStart=>exact⟨0,by omega,rfl,aB,aA⟩
 case round=>
  clear aB aA;obtain⟨e,bm,rfl,j,z⟩:=hrel;have C:=ae (Y.o.step z.o);obtain⟨r,A,f,B⟩:=j.o;obtain⟨t,u,v,rfl⟩:=f.sl;have x:=ae A;have E:=ae f;have s:=ae B;clear A f B j;have p1:=(C.o.blk 2 rfl).cell 1;have p2:=(C.o.blk 2 rfl).cell 2;by_cases aD:e<q
  ·have bo:(e:Int)<(q:Int):=by omega
   have f:e<cols.length:=(by rw[az.o];exact aD);obtain⟨bc,oc,rfl,bp,am⟩:=ji (C.o.rd 5 rfl) aD;have j:cols.getD e 0∈cols:=(by rw[getD_at f];exact aQ f);have aE:cols.getD e 0<n:=aX.o _ j;have an:=ai.o _ j;obtain⟨bk,ok,rfl,bs,aa⟩:=vJ (C.o.rd 3 rfl) aE;have O:=ae (Dl (kn:=kn) f);have P:=ae (NG (kn:=kn) f);have bt:((cols.getD e 0:Nat):Int)<(n:Int):=(by omega);have a5:(eu kn (cols.take e)).length<=1000000:=aP (length_filter_le _ _) (by rw[aH];omega);have aF:=z.o.size;clear f j;generalize cols.getD e 0=ab at*;cases hkx:kn.getD ab false with
   | false=>
     rw[hkx] at aa O P;rw[bA (by decide)] at O P;have ar:=x.o.cell 0;have ao:=x.o.frozen 0;have aR:=x.o.lt;clear an hkx
     go_wp2_with (at_builtin;refine pQ (w:=wr) (y:=ab) rfl _ _ ?hi rfl E.o aF a5 rfl rfl ?_)
     case hi=>first | rfl | trivial
     intro v3 F M W aT V aL;have X:some l≠(Value.slice t u v).ownBlock:=vK E.o x.o (by decide);have Q:Sz (Blk F l 286 #[slice t u v,slice b Z d]):=ae ((V l aR X).trans x.o)
     have aq:OwnB F i.heap.size (slice b Z d) (bZ (λc=>vl.getD c []) (mY kn (cols.take e)) m):=dB s.o λj k=>V j (World.ownsRow.lt s.o j k).2 (λo=>by
      rcases own_ne s.o E.o (by decide) with h | h
      ·rw[k] at h;cases h
      ·exact h (k.trans o))
     have ap:=ae aq;rw[<-O.o] at M;have ag:=ae M;have au:=ae (z.o.trans W);obtain⟨f,A,B,rfl⟩:=ag.o.sl;have aK:(Value.slice f A B).ownBlock≠some l:=(vK ag.o Q.o (by decide)).symm;clear V W aL aq M E s x z ar ao X C p1 p2 aa am;have ar:=Q.o.cell 0;have ao:=Q.o.frozen 0;have V:=Q.o.set 0 (slice f A B);have aL:Sz (Blk (F.setCell ⟨l,0,none⟩ (slice f A B)) l 286 #[slice f A B,slice b Z d]):=ae (by simpa using V);have M:∀j,j≠l->(F.setCell ⟨l,0,none⟩ (slice f A B)).heap[j]? =F.heap[j]? :=λj k=>bJ _ _ _ _ k;have aM:OwnI (F.setCell ⟨l,0,none⟩ (slice f A B)) i.heap.size (slice f A B) (eu kn (cols.take (e+1))):=dB ag.o λj k=>M j (λo=>aK (by rw[k,o]))
     have W:OwnB (F.setCell ⟨l,0,none⟩ (slice f A B)) i.heap.size (slice b Z d) (bZ (λc=>vl.getD c []) (mY kn (cols.take (e+1))) m):=by
      rw[P.o];exact dB ap.o λj k=>M j (λo=>vK ap.o Q.o (by decide) (by rw[k,o]))
     have aS:i.heap.size<=l:=(by omega);have aq:=ae (⟨_,aL.o,aM,W⟩:∃r:Value,Blk (F.setCell ⟨l,0,none⟩ (slice f A B)) l 286 #[r,slice b Z d]/\OwnI (F.setCell ⟨l,0,none⟩ (slice f A B)) i.heap.size r (eu kn (cols.take (e+1)))/\OwnB (F.setCell ⟨l,0,none⟩ (slice f A B)) i.heap.size (slice b Z d) (bZ (λc=>vl.getD c []) (mY kn (cols.take (e+1))) m));have X:=ae (au.o.setCell (p:=⟨l,0,none⟩) aS (slice f A B));clear V M aM W aL ag ap au Q aK;go_wp2_with fail;go_roundw
     case rel=>exact⟨e+1,by omega,by go_num,aq,X⟩
     case measure=>simp[intOf];omega
   | true=>
     rw[hkx] at aa O P;rw[bu rfl] at O P;obtain⟨F,a6⟩:=an hkx;have f:RdM wr i.heap.size I n vl:=(show RdM i i.heap.size I n vl from Y.o.get 4 rfl).below z.o (aj _);obtain⟨bv,ov,a',c',rfl,bw,B,aK,-⟩:=f.at aE;rw[F] at B aK;have a7:=ae aK;have ag:=x.o.cell 1
     have Q:(bZ (λc=>vl.getD c []) (mY kn (cols.take e)) m).length=Z:=by
      refine fM al.o λc K=> ?_;obtain⟨T,U⟩:=mem_filter.1 K;exact(ai.o c (bI T) U).1
     have a8:By (bZ (λc=>vl.getD c []) (mY kn (cols.take e)) m):=by
      refine(dU (D:=Z) ⟨al.o,aY.o⟩ λc K=> ?_).2;obtain⟨T,U⟩:=mem_filter.1 K;exact ai.o c (bI T) U
     have HE:Sz (bZ (λc=>vl.getD c []) (mY kn (cols.take (e+1))) m=xr (bZ (λc=>vl.getD c []) (mY kn (cols.take e)) m) (vl.getD ab [])):=ae (by rw[P.o];unfold bZ;rw[foldl_append];rfl);clear f hkx an;generalize f:vl.getD ab []=A at*;clear f;generalize bZ (λc=>vl.getD c []) (mY kn (cols.take e)) m=D at*;have aL:Sz (OwnB wr i.heap.size (slice b Z d) (Ac D A 0)):=ae (by rw[wW];exact s.o);rename World=>wo;have a9:=z;have ba:=x.o.lt;go_wp2_with fail;clear aa am p1 p2 B ag;go_loopw [43] (λL wr=>∃f:Nat,f<=Z/\L=int i64 f/\Sz (OwnB wr i.heap.size (slice b Z d) (Ac D A f))/\Sz (wo.grownBy wr (Value.slice b Z d).ownBlock)) (λL _=>Z-(intOf L).toNat)
     case atStart=>exact⟨0,by omega,rfl,aL,ae (grownBy_refl _ _)⟩
     case round=>
      clear aL;obtain⟨f,bb,rfl,ag,B⟩:=hrel;have L:Blk wr l 286 #[slice t u v,slice b Z d]:=(B.o.block l ba (vK s.o x.o (by decide))).trans x.o;have ap:=ae L;clear L;by_cases ar:f<Z
      ·have bx:(f:Int)<(Z:Int):=by omega
       obtain⟨L,aM,rfl,bz,aR⟩:=a7.o.2 (by omega);have aS:=aR f (.int .u8 (A.getD f 0:Nat)) (eP (by omega));obtain⟨g2,rfl,bB,b0,S,b1,aT⟩:=ag.o.atA (Ae Q F bb) ar;rw[Af Q F ar] at S
       have am:wr.cell? ⟨L,aM+f,none⟩=some (.int .u8 (A.getD f 0:Nat)):=(World.cell?_of_block (w:=wo) (a:=⟨L,aM+f,none⟩) (B.o.block L (by omega) (λo=>by
        simp only[Value.ownBlock] at o;injection o with o;have o:L=g2:=o;omega))).trans aS
       have ao:=ap.o.cell 1;have bd:=getD_lt a6 f;have be:=getD_lt a8 f;have b2:=u8_xor_nat (D.getD f 0) (A.getD f 0) be bd;have au:=aT (D.getD f 0 ^^^ A.getD f 0);rw[Ag Q F ar] at au;have bf:=ae au;have bh:Sz (wo.grownBy (wr.setCell ⟨g2,f,none⟩ (.int .u8 ((D.getD f 0 ^^^ A.getD f 0:Nat):Int))) (some g2)):=ae (qP B.o f _);clear aT au aS aR ag B ap;generalize D.getD f 0 ^^^ A.getD f 0=y at*;generalize D.getD f 0=y1 at*;generalize A.getD f 0=y2 at*;go_wp2_with fail;go_roundw
       case rel=>exact⟨f+1,by omega,by go_num,bf,bh⟩
       case measure=>simp[intOf];omega
      ·obtain rfl:f=Z:=by omega
       have L:OwnI wr i.heap.size (slice t u v) (eu kn (cols.take (e+1))):=by
        rw[O.o]
        exact dB E.o λj k=>B.o.block j (World.ownsRow.lt E.o j k).2 (λo=>by
         rcases own_ne E.o s.o (by decide) with h | h
         ·rw[k] at h;cases h
         ·exact h (k.trans o))
       have W:OwnB wr i.heap.size (slice b f d) (bZ (λc=>vl.getD c []) (mY kn (cols.take (e+1))) m):=by
        rw[HE.o,<-Ad Q F];exact ag.o
       have aq:=ae (⟨_,ap.o,L,W⟩:∃r:Value,Blk wr l 286 #[r,slice b f d]/\OwnI wr i.heap.size r (eu kn (cols.take (e+1)))/\OwnB wr i.heap.size (slice b f d) (bZ (λc=>vl.getD c []) (mY kn (cols.take (e+1))) m));have X:=ae (a9.o.grown B.o aF λj k=>(World.ownsRow.lt s.o j k).1);clear L W;go_wp2_with fail;go_roundw
       case rel=>exact⟨e+1,by omega,by go_num,aq,X⟩
       case measure=>simp[intOf];omega
  ·obtain rfl:e=q:=by omega
   rw[aN (by rw[az.o];exact aj _)] at E s;have P:=x.o.cell 0;have Q:=x.o.cell 1;have f:=ae (C.o.blk 0 rfl);have A:=ae C.o.1;have W:=f.o.frozen 0;have f1:=f.o.frozen 1;have z0:=f.o.cell 0;have z1:=f.o.cell 1;have B:=a4.o;have M:∀j,j≠w.heap.size+1->((wr.setCell ⟨w.heap.size+1,0,none⟩ (slice t u v)).setCell ⟨w.heap.size+1,1,none⟩ (slice b Z d)).heap[j]? =wr.heap[j]? :=λj k=>(bJ _ _ _ _ k).trans (bJ _ _ _ _ k);have F:Sz (OwnI ((wr.setCell ⟨w.heap.size+1,0,none⟩ (slice t u v)).setCell ⟨w.heap.size+1,1,none⟩ (slice b Z d)) i.heap.size (slice t u v) (eu kn cols)):=ae (dB E.o λj k=>M j (by have:=(World.ownsRow.lt E.o j k).1;omega));have L:Sz (OwnB ((wr.setCell ⟨w.heap.size+1,0,none⟩ (slice t u v)).setCell ⟨w.heap.size+1,1,none⟩ (slice b Z d)) i.heap.size (slice b Z d) (bZ (λc=>vl.getD c []) (mY kn cols) m)):=ae (dB s.o λj k=>M j (by have:=(World.ownsRow.lt s.o j k).1;omega));have X:=ae ((A.o.setCell (p:=⟨w.heap.size+1,0,none⟩) (by show w.heap.size<=w.heap.size+1;omega) (slice t u v)).setCell (p:=⟨w.heap.size+1,1,none⟩) (by show w.heap.size<=w.heap.size+1;omega) (slice b Z d));have V:=(f.o.set 0 (slice t u v)).set 1 (slice b Z d);have O:Sz (Blk ((wr.setCell ⟨w.heap.size+1,0,none⟩ (slice t u v)).setCell ⟨w.heap.size+1,1,none⟩ (slice b Z d)) (w.heap.size+1) 286 #[slice t u v,slice b Z d]):=ae (by simpa using V);have j:w.heap.size<=i.heap.size:=(by omega);clear M V f A C x E s z B;go_wp2_with fail
   (try simp only[Exit.inBlock,Exit.then])
   refine bodyPost_ret (results_cell_row rfl _ _ (w.heap.size+1) 286 #[slice t u v,slice b Z d] (0,0) _ rfl O.o underlying286 rfl (by kernel_rfl)) rfl ?_;exact⟨_,_,rfl,lT F.o j,lT L.o j,X.o⟩
def vM(x:SC×SC):Rp:=rP (rI x.1) (rB x.2)
def gq(L:List (SC×SC)):Rp:=rS 2 (L.map vM)
theorem Ql{x:SC×SC}{w:World}{F:Nat->Prop}{a:List Value}(d:(vM x).ok w F a):∃u1 u2,a=[u1,u2]/\(rI x.1).ok w F [u1]/\(rB x.2).ok w F [u2]:=by
 obtain⟨g,h,rfl,b,c⟩:=d;have e:=(rI x.1).len b;have f:=(rB x.2).len c;obtain⟨u1,rfl⟩:=length_eq_one_iff.1 e;obtain⟨u2,rfl⟩:=length_eq_one_iff.1 f;exact⟨u1,u2,rfl,b,c⟩
theorem oF{L:List (SC×SC)}{w:World}{F:Nat->Prop}{a:SE}{n c i:Nat}(l:(gq L).ok w F [slice a n c])(u:L.length=n)(m:i<n):
 ∃b o d h e f j g,a=some ⟨b,o,none⟩/\F b/\b<w.heap.size/\w.cell? ⟨b,o+i*2,none⟩=some (slice d h e)/\w.cell? ⟨b,o+i*2+1,none⟩=some (slice f j g)/\(rI (L.getD i ([],[])).1).ok w F [slice d h e]/\(rB (L.getD i ([],[])).2).ok w F [slice f j g]/\h=(L.getD i ([],[])).1.length/\j=(L.getD i ([],[])).2.length:=by
 have p:i<L.length:=by omega
 have q:(L.map vM)[i]? =some (vM (L.getD i ([],[]))):=by rw[List.getElem?_map,af,ah p];rfl
 obtain⟨b,o,v,rfl,r,s,t,x,h⟩:=su l (by decide) m q;obtain⟨y,z,rfl,j,k⟩:=Ql t;obtain⟨d,e,rfl,-⟩:=dY j rfl;obtain⟨f,g,rfl,-⟩:=eU k rfl;exact⟨b,o,d,_,e,f,_,g,rfl,r,s,h 0 _ rfl,h 1 _ rfl,j,k,rfl,rfl⟩
theorem J3(g n N:Nat)(q s:SE)(t T:Nat)(U:Value)(F:Nat->Prop)(kn:List Bool)(L:List (SC×SC))(w:World)
 (u:Blk w g 353 #[slice q N t,slice s n T,U])(A:(gq L).ok w F [slice q N t])(B:Rd w w.heap.size s n (dA kn))(C:L.length=N)(am:N<=1000)
 (D:∀x∈L,x.1.length<=1000/\∀c∈x.1,c<n)(hn:n<=1000):
 Calls prog 352 #[pointer (some ⟨g,0,none⟩)] w λa b=>∃r:Int,a=returned (int i64 r)/\(r<0\/∃i:Nat,r=(i:Int)/\i<N/\(eu kn (L.getD i ([],[])).1).length=1)/\Below w.heap.size w b:=by
 have V:=ae ((((Sx.nil w).add (mR s n (dA kn)) B).add (eR F (slice q N t) (gq L)) A).add (bY g _ _) u);have E:=ae (aC w.heap.size w);have G:=ae C;have W:=ae D;have a:=u.cell 0;clear u A B C D;go_enter func352,ntmps352;go_wp2_with fail;clear a;go_loopw [13] (λi wr=>∃b:Nat,b<=N/\i=int i64 b/\Sz (Below w.heap.size w wr)) (λi _=>N-(intOf i).toNat)
 case atStart=>exact⟨0,by omega,rfl,E⟩
 case round=>
  clear E;obtain⟨b,an,rfl,f⟩:=hrel;have j:=ae (V.o.step f.o);by_cases v:b<N
  ·have ao:(b:Int)<(N:Int):=by omega
   have e:L.getD b ([],[])∈L:=(by rw[af,ah (by rw[G.o];exact v)];exact aQ _);obtain⟨Q,l⟩:=W.o _ e;obtain⟨ap,aq,H,d,I,J,K,M,rfl,_,hb,R,S,k,X,a,Y⟩:=oF (j.o.rep 1 rfl) G.o v;obtain⟨ar,au,y,m,-⟩:=dY k a.symm;injection y with y _ Z;subst y Z;have o:=ae m;have O:=ae (j.o.rd 2 rfl);have aa:=ae l;have z:=ae a;have ab:=f.o.size;have av:Sz (L.getD b ([],[])=L.getD b ([],[])):=ae rfl;have P:=(j.o.blk 0 rfl).cell 1;have ac:=(j.o.blk 0 rfl).lt;have aw:d<=1000:=(by omega);clear e k X m Y l Q;generalize e:L.getD b ([],[])=x at*;have X:=ae e;clear e a;have a:=(aC wr.heap.size wr).alloc (aj _) (cells #[slice H d I,slice J K M] 286);have ax:=ae a;have Y:=ae (f.o.trans (a.mono ab));have Q:=(a.cell (p:=⟨g,1,none⟩) ac).trans P;have ad:=ae (O.o.below a (aj _));have ag:=ae (o.o.below a (aj _));clear a j f O o;go_wp2_with fail;clear P R S;generalize wr.alloc (cells #[slice H d I,slice J K M] 286)=w1 at*;go_loopw [5,21] (λe i k=>∃a:Nat,a<=d/\i=int i64 a/\e=int i64 ((eu kn (x.1.take a)).length:Nat)/\k=w1) (λ_ i _=>d-(intOf i).toNat)
   case atStart=>exact⟨0,by omega,rfl,rfl,rfl⟩
   case round=>
    obtain⟨a,ay,rfl,rfl,e⟩:=hrel;have k:=ae e;clear e;by_cases O:a<d
    ·have az:(a:Int)<(d:Int):=by omega
     have m:a<x.1.length:=(by rw[<-z.o];exact O);obtain⟨bc,oc,rfl,aA,P⟩:=ji ag.o O;have l:x.1.getD a 0<n:=aa.o _ (by rw[getD_at m];exact aQ m);obtain⟨bk,ok,rfl,aB,o⟩:=vJ ad.o l;have e:=ae (Dl (kn:=kn) m);have aD:((x.1.getD a 0:Nat):Int)<(n:Int):=(by omega);have R:(eu kn (x.1.take a)).length<=1000:=aP (length_filter_le _ _) (by rw[aH];omega);clear m;generalize x.1.getD a 0=ai at*;cases hky:kn.getD ai false with
     | false=>
       rw[hky] at o e;rw[bA (by decide)] at e;have S:Sz ((eu kn (x.1.take (a+1))).length=(eu kn (x.1.take a)).length+1):=ae (by rw[e.o,aI];rfl);clear e;generalize (eu kn (x.1.take a)).length=m at*;rw[<-k.o] at P o Q;go_wp2_with fail;go_roundw
       case rel=>exact⟨a+1,by omega,by go_num,by rw[S.o];go_num,k.o⟩
       case measure=>simp[intOf];omega
     | true=>
       rw[hky] at o e;rw[bu rfl] at e;generalize S:eu kn (x.1.take a)=m at*;have HZ:=ae S;clear S;rw[<-k.o] at P o Q;go_wp2_with fail;go_roundw
       case rel=>exact⟨a+1,by omega,by go_num,by rw[e.o],k.o⟩
       case measure=>simp[intOf];omega
    ·obtain rfl:a=d:=by omega
     rw[aN (by rw[<-z.o];exact aj _)];have o:Sz (Below w.heap.size w wr):=ae (by rw[k.o];exact Y.o);have R:(eu kn x.1).length<=1000:=aP (length_filter_le _ _) (by rw[<-z.o];omega);by_cases e:(eu kn x.1).length=1
     ·rw[e]
      have P:=ae e;clear e R;go_wp2_with fail;go_ret;exact⟨_,rfl,.inr ⟨b,rfl,v,by rw[X.o];exact P.o⟩,o.o⟩
     ·have P:¬(((eu kn x.1).length:Nat):Int)=1:=by omega
      clear e;generalize (eu kn x.1).length=m at*;go_wp2_with fail;go_roundw
      case rel=>exact⟨b+1,by omega,by go_num,o⟩
      case measure=>simp[intOf];omega
  ·obtain rfl:b=N:=by omega
   go_wp2_with fail;go_ret;exact⟨-1,rfl,.inl (by omega),f.o⟩
