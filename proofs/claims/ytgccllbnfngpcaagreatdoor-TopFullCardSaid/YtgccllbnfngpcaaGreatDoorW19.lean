import Derived.Test.YtgccllbnfngpcaaGreatDoorW18
set_option linter.unusedVariables false
set_option maxRecDepth 100000
set_option maxHeartbeats 400000000
namespace Go.Proofs.YtgccllbnfngpcaaGreatDoor
open Go.RowKit _root_.Go.Proofs.Tryz List
open Value (int slice pointer bool)
open IntKind (i64)
open Ending (returned)
open Obj (cells)
section
variable {B:Nat}
def rW(es:List cN):Prop:=∀a,a+1<es.length->Sort.ltStr (es.getD (a+1) bO).name.toList (es.getD a bO).name.toList=false
theorem f_put(s o A C K H Z ex d g n2:Nat)(f:Fl)(z:ByteArray)(es:List cN)(R:Nat->List PI)(X:Nat->List (Option cJ×PI))(l:PI)(a:PK)(n nb c:Nat)(w:World)(hN:f.n=d)(h:Stq B w g f (df s o K H Z ex d es) R)(hB:B<=g/\B<=w.heap.size)(hk:fB K H Z=true)(bp:ex<=16)(br:jG z)(aw:0<(bI f).length)
 (E:Rd w w.heap.size a n (bF l))(k:By l)(hn:n<=1000)(bs:n<=K*Z*8)(bt:n<=c/\c<=maxLen)(aV:ja (K*Z) n=nb)(aF:nb<=8)(bv:s+1=A)(bw:o+1=C)(bx:s<=100000)(bB:o<=100000)(aX:es.length=n2)(b0:n2<=11)(ax:∀e∈es,rz z e=false)(b1:∀x∈es,x.tries.length<=1000)(b2:OE f (df s o K H Z ex d es) R X (bI f))(b3:∀i,i<f.n->i∈bI f)(F:∀T j,zt K H Z o nb T->j.Perm (es++[⟨z,o,n,T⟩])->rW j->il (df A C K H Z ex d j)/\jV (df A C K H Z ex d j)):
 Calls prog 51 #[pointer (some ⟨g,0,none⟩),.string z,slice a n c] w λe y=>(e=returned (int i64 8)/\(∃b,b<nb/\noT K H Z o b)/\Below w.heap.size w y)\/(e=returned (int i64 7)/\(∃T ords j,zt K H Z o nb T/\(∀i,i<nb->(ords i).Perm (bI f))/\j.Perm (es++[⟨z,o,n,T⟩])/\rW j/\(bI f).all (λx=>iq (df s o K H Z ex d es) (X x) ((bJ (df A C K H Z ex d j)).length+(eu (dU K H Z ex o T l ords nb) x).length) (f.room x))=false)/\Below w.heap.size w y)\/(e=returned (int i64 0)/\∃T ords j,zt K H Z o nb T/\(∀i,i<nb->(ords i).Perm (bI f))/\j.Perm (es++[⟨z,o,n,T⟩])/\rW j/\(∀x,x<f.n->iq (df s o K H Z ex d es) (X x) ((bJ (df A C K H Z ex d j)).length+(eu (dU K H Z ex o T l ords nb) x).length) (f.room x)=true)/\Stq B y g f (df A C K H Z ex d j) (gX (lN (df A C K H Z ex d j) (bI f)) (gX (dU K H Z ex o T l ords nb) (sU f (df s o K H Z ex d es) R X (λx=>(bJ (df A C K H Z ex d j)).length+(eu (dU K H Z ex o T l ords nb) x).length) (bI f))))/\Below B w y/\ChgT w y):=by
 have v:PH (Sx w w [jW B g f (df s o K H Z ex d es) R,mF a n (bF l)]):=ae (((Sx.nil w).add (mF a n (bF l)) E).add (jW B g f (df s o K H Z ex d es) R) h);have D:=ae (FI z g f (df s o K H Z ex d es) R a n c w h br ax (by show es.length<12;omega) aw hk bs (by show o<=16777215;omega) (by show s<2147483647;omega));have CC:=ae λw=>kr K H Z n w hk (by omega);rw[aV] at CC;have CT:=ae λw=>NN K H Z o nb w hk (by omega) aF;have a0:=ae λ(T:PI) (m:zt K H Z o nb T) (q:PK) (r:Nat) (w:World) (h:Stq B w g f (df s o K H Z ex d es) R) (E:Rd w w.heap.size a n (bF l)) (t:(rI T).ok w (Fu w) [slice q nb r])=>F9 (df s o K H Z ex d es) o g f R z T l a q n nb c r w h hk bp (by omega) m aV aF aw E k hn bt t;have CW:=ae λ(T:PI) (m:T.length=nb) (a1 a2 q:PK) (c1 c2 r:Nat) (u:Nat->Prop) (w:World) (G:(rI (range d)).ok w u [slice a1 d c1]) (I:(rS 4 (es.map bQ)).ok w u [slice a2 n2 c2]) (t:(rI T).ok w (Fm w) [slice q nb r])=>OM s o A C K H Z ex d es ⟨z,o,n,T⟩ a1 a2 q c1 n2 c2 r u w bv bw bx bB (by have:=h.n0.2;omega) G I aX b0 b1 (by rw[m];exact t);have CL:=ae λw (h:Stq B w g f (df s o K H Z ex d es) R)=>vq g f (df s o K H Z ex d es) R w h;have HK:=ae hk;have HM:=ae F;obtain⟨J,q⟩:∃J,J=n2+1:=⟨_,rfl⟩;have cn:=ae q;rw[<-q] at CW;have b5:=ae aX;have aK:=ae b2;have a3:=ae b3;have HB:=ae hB;have HN:=ae hN;have r:=ba hk;have t:l.length=n:=by have:=E.len;rwa [bG] at this
 have b6:PH (∀T ords,zt K H Z o nb T->(∀i,i<nb->(ords i).Perm (bI f))->∀x∈dU K H Z ex o T l ords nb,(x.1<f.n/\f.Z x.1=false)/\x.2.length=64):=ae λT ords m hp=>KH hk k m hp aw;have a5:PH (∀T ords,(dU K H Z ex o T l ords nb).length=nb*(K+ex)/\nb*(K+ex)<=256):=ae λT ords=>⟨xa _ _ _ _ _ _ _ _ _,bn aF (show K+ex<=32 by omega)⟩;have b7:PH (0<(bI f).length/\(bI f).length<=64):=ae ⟨aw,nG h.n0.2⟩;clear r t;unfold dD at CC CT;unfold d9 at a0 CW;clear bv bw bx bB h E hk br bs aV F b2 b3 ax b1 aX b0 q hB k bt hN aF aw bp;go_enter func51,ntmps51;go_wp2_with fail;refine D.o.mono ?_;rintro e w1 ⟨rfl,m⟩;have S1:=ae (v.o.step m);clear m v D;obtain⟨-,⟨vd,vo,L,m,-⟩,-⟩:=S1.o.stq 0 rfl;obtain⟨k0,V,k2,k3,k4,k5,k6,k7,-⟩:=fS L;unfold df at V;simp only at V;have W:=ae ((S1.o.alloc (cells #[.string z,int i64 o,int i64 n,slice none 0 0] 65)).add (bS _ _ _) (Blk.new w1 65 #[.string z,int i64 o,int i64 n,slice none 0 0]));clear L k0 k2 k3 k4 k5 k6 k7 m;go_upto_region 5 with fail;clear V;obtain⟨G,m⟩:∃G,G=w1.heap.size:=⟨_,rfl⟩;rw[<-m] at W ⊢;have cy:PH (B<=G):=ae (by rw[m];exact aP HB.o.2 S1.o.1.size);have ay:=ae m;have aL:PH (Below w1.heap.size w1 (w1.alloc (cells #[.string z,int i64 o,int i64 n,slice none 0 0] 65))):=ae ((az _ _).alloc (aj _) _);clear m;generalize w1.alloc (cells #[.string z,int i64 o,int i64 n,slice none 0 0] 65)=w2 at*;go_cut [9,10] (λQ q r=>∃b:Bool,∃u m v,Q=slice u m v/\q=.bool b/\PH ((b=false/\∃b,b<nb/\noT K H Z o b)\/(b=true/\m=nb/\∃T,OwnI r w2.heap.size Q T/\zt K H Z o nb T))/\PH (Below w2.heap.size w2 r))
 case first=>
  obtain⟨-,⟨ai,ak,L,-⟩,-⟩:=W.o.stq 1 rfl;obtain⟨k0,V,k2,k3,k4,k5,k6,k7,-⟩:=fS L;unfold df at k2 k3 k4;simp only at k2 k3 k4;obtain⟨e0,e1,aM,e3⟩:=eB (W.o.blk 0 rfl);clear L k0 V k5 k6 k7
  go_region_law (first
   | (go_simp
      go_at_call 103;refine(CC.o w2.drew).mono ?_;rintro Y U ⟨rfl,q⟩;replace q:=bP q;have t:=ae (W.o.step q);obtain⟨-,⟨am,an,I,-⟩,-⟩:=t.o.stq 1 rfl;obtain⟨S,aa,M,N,O,ab,ac,ag,-⟩:=fS I;unfold df at M N O;simp only at M N O;obtain⟨ap,ar,au,av⟩:=eB (t.o.blk 0 rfl);have D:=ae q;clear I S aa ab ac ag q;go_simp)
   | (go_simp
      go_at_call 102;refine(CT.o U).mono ?_;rintro Y w4 ⟨I,S⟩;have ag:=ae (D.o.trans (I.mono D.o.size))
      obtain⟨aq,u,m,v,rfl,al⟩:∃aq:Bool,∃u m v,Y=returned (.tuple #[slice u m v,.bool aq])/\PH ((aq=false/\∃b,b<nb/\noT K H Z o b)\/(aq=true/\m=nb/\∃T,OwnI w4 w2.heap.size (slice u m v) T/\zt K H Z o nb T)):=by
       rcases S with⟨v4,T4,rfl,aA,aB⟩ | ⟨rfl,aa⟩
       ·obtain⟨u,v,rfl⟩:=aA.lenA
        exact⟨true,u,_,v,rfl,ae (.inr ⟨rfl,aB.1,T4,aA.base D.o.size,aB⟩)⟩
       ·exact⟨false,none,0,0,rfl,ae (.inl ⟨rfl,aa⟩)⟩
      clear S I;go_simp))
  all_goals(
   go_simp;refine ‹∀(a':Act) (y:World),Met _ a' y->_› _ _ ?_;go_meet;exact⟨aq,u,m,v,rfl,rfl,al,ag⟩)
 case rest=>
  obtain⟨aq,u,m,v,rfl,rfl,al,ag⟩:=hcut;obtain⟨rfl,ax⟩ | ⟨rfl,rfl,T,aA,aB⟩:=al.o
  ·have q:=ae ax
   have t:=ae (W.o.step ag.o);have D:=ae (S1.o.1.trans ((aL.o.trans (ag.o.mono aL.o.size)).mono S1.o.1.size));clear ax al ag W;go_wp2_with fail;go_ret;exact .inl ⟨rfl,q.o,D.o⟩
  have al:=ae aA;have M:=ae aB;clear aA aB;have q:=ae ((W.o.step ag.o).blk 0 rfl);have N:G<w2.heap.size:=(W.o.blk 0 rfl).lt;have f3:wc.frozen? ⟨G,3,none⟩=false:=q.o.frozen 3;have S:wc.cell? ⟨G,3,none⟩=some (slice none 0 0):=q.o.cell 3;have t:PH (Blk (wc.setCell ⟨G,3,none⟩ (slice u m v)) G 65 #[.string z,int i64 o,int i64 n,slice u m v]):=ae (q.o.set 3 (slice u m v));have I:PH (OwnI (wc.setCell ⟨G,3,none⟩ (slice u m v)) w2.heap.size (slice u m v) T):=ae (al.o.far N 3 _);have O:Below w1.heap.size w1 (wc.setCell ⟨G,3,none⟩ (slice u m v)):=(aL.o.trans (ag.o.mono aL.o.size)).setCell (p:=⟨G,3,none⟩) (by rw[ay.o];exact aj _) _;have D:=ae (S1.o.step O);clear q al ag W O N;go_upto_region 9 with fail;clear f3 S;generalize wc.setCell ⟨G,3,none⟩ (slice u m v)=w5 at*;obtain⟨e0,e1,aM,e3⟩:=eB t.o;go_wp2_with fail;refine(a0.o T M.o u v w5 (D.o.stq 0 rfl) (D.o.rd 1 rfl) (qg I.o)).mono ?_;rintro e w6 ⟨v6,ords,rfl,O,ar,q⟩;replace ar:(rS 2 ((dU K H Z ex o T l ords m).map cZ)).ok w6 (Fu w6) [v6]:=ar;have a7:=ae O;obtain⟨a6,n6,c6,rfl⟩:=kO ar
  have au:(dU K H Z ex o T l ords m).length=n6:=by
   obtain⟨a',n',c',e',_,_,_,h4,_⟩:=ar;injection e' with e' _;injection e' with _ e2 _;rw[aC] at h4;exact h4.trans e2.symm
  have cp:=ae au;have S:=ae (D.o.step q);have N:=ae (t.o.below q t.o.lt);have U:=ae (I.o.below q);have ai:=(az w6.heap.size w6).alloc (aj _) (cells #[slice a6 n6 c6] 120);have S7:=ae (S.o.step ai);have aO:=ae (N.o.below ai N.o.lt);have b8:=ae (U.o.below ai);have b9:=ae ((rS 2 _).fu ar ai);have a8:=ae (Blk.new w6 120 #[slice a6 n6 c6]);have cq:PH (Below w.heap.size w (w6.alloc (cells #[slice a6 n6 c6] 120))):=ae S7.o.1;clear ar au O q ai D S t N I U a0 e0 e1 aM e3 CC CT;go_upto_region 12 with fail;generalize w6.alloc (cells #[slice a6 n6 c6] 120)=I at*;generalize w6.heap.size=GL at*;obtain⟨-,⟨vd,vo,L,O,t⟩,-⟩:=S7.o.stq 0 rfl;obtain⟨a1,c1,rfl,-⟩:=dI O (n:=d) aZ;obtain⟨a2,ca,c2,rfl⟩:=kO t;obtain rfl:ca=n2:=(by have h:=Cs t;rw[aC] at h;exact h.symm.trans b5.o);have cb:=ae t;obtain⟨k0,V,k2,k3,k4,k5,k6,k7,-⟩:=fS L;unfold df at k0 V k2 k3 k4 k5;simp only at k0 V k2 k3 k4 k5;obtain⟨e0,e1,aM,e3⟩:=eB aO.o;have cr:=ae L;have cc:=ae O;have N:=((az I.heap.size I).alloc (aj _) (cells #[int i64 0,int i64 0,int i64 0,int i64 0,int i64 0,int i64 0,slice none 0 0,slice none 0 0] 68)).drew;have aR:=ae N;have bb:=ae (Blk.drew (Blk.new I 68 #[int i64 0,int i64 0,int i64 0,int i64 0,int i64 0,int i64 0,slice none 0 0,slice none 0 0]));obtain⟨z0,z1,z2,z3,z4,z5,z6,z7,-⟩:=fS (Blk.below L N (Blk.lt L));unfold df at z0 z1 z2 z3 z4 z5;simp only at z0 z1 z2 z3 z4 z5;obtain⟨y0,y1,y2,y3⟩:=eB (aO.o.below N aO.o.lt)
  have bc:PH (∀q,Below I.heap.size I q->Calls prog 105 #[.agg #[int i64 s,int i64 o,int i64 K,int i64 H,int i64 Z,int i64 ex,slice a1 d c1,slice a2 ca c2],.agg #[.string z,int i64 o,int i64 n,slice u m v]] q λY y=>∃Q a c j,Y=returned (.agg #[int i64 A,int i64 C,int i64 K,int i64 H,int i64 Z,int i64 ex,Q,slice a J c])/\PH (j.Perm (es++[⟨z,o,n,T⟩])/\rW j/\j.length=J)/\OwnI y q.heap.size Q (range d)/\(rS 4 (j.map bQ)).ok y (Fm y) [slice a J c]/\Below q.heap.size q y):=ae λq D=>by
   have h:=CW.o T M.o.1 a1 a2 u c1 c2 v (Fu I) q ((rI _).new cc.o D) ((rS 4 _).new cb.o D) ((rI _).fm (pM b8.o) D);rw[M.o.1] at h;refine h.mono ?_;rintro Y y ⟨Q,a,c,j,rfl,hp,hs,h1,h2,h3⟩;have hl:j.length=J:=(by rw[hp.length_eq,aH,b5.o,cn.o];rfl);exact⟨Q,a,c,j,rfl,ae ⟨hp,λi hi=>hs i (by rw[<-hl];exact hi),hl⟩,h1,h2,h3⟩
  have bd:PH (∀q,Below I.heap.size I q->Calls prog 22 #[pointer (some ⟨g,0,none⟩)] q λe y=>∃Q,e=returned Q/\OwnI y q.heap.size Q (bI f)/\Below q.heap.size q y):=ae λq D=>CL.o q ((S7.o.step D).stq 0 rfl);obtain⟨nl,S⟩:∃nl,(bI f).length=nl:=⟨_,rfl⟩;have am:=ae S;clear S;clear L O N t;go_cut [12,13] (λt N r=>∃G9 S U ad cd ao co j,t=pointer (some ⟨G9,0,none⟩)/\N=slice S nl U/\PH (Blk r G9 68 #[int i64 A,int i64 C,int i64 K,int i64 H,int i64 Z,int i64 ex,slice ad d cd,slice ao J co])/\PH (j.Perm (es++[⟨z,o,n,T⟩])/\rW j/\j.length=J)/\PH ((rI (bI f)).ok r (Fu r) [slice S nl U])/\PH ((rI (range d)).ok r (Fu r) [slice ad d cd])/\PH ((rS 4 (j.map bQ)).ok r (Fu r) [slice ao J co])/\PH (Below I.heap.size I r))
  case first=>
   go_region_law (first
    | (go_simp
       go_at_call 105;refine(bc.o I.drew (az _ _).drew).mono ?_;rintro Y w8 ⟨v8,ao,co,j,rfl,r,aa,aD,ak⟩;replace ak:=bP ak;obtain⟨ad,cd,rfl⟩:=aa.lenA;rw[aZ] at aa ⊢;have aT:=ae (pM aa);have be:=ae aD;have N:=ae ak;have bi:=ae (Blk.new w8 68 #[int i64 0,int i64 0,int i64 0,int i64 0,int i64 0,int i64 0,slice none 0 0,slice none 0 0]);have aE:=ae ((az w8.heap.size w8).alloc (aj _) (cells #[int i64 0,int i64 0,int i64 0,int i64 0,int i64 0,int i64 0,slice none 0 0,slice none 0 0] 68));clear aa aD ak;go_simp)
    | (go_simp
       go_at_call 105;refine(bc.o _ aR.o).mono ?_;rintro Y w8 ⟨v8,ao,co,j,rfl,r,aa,aD,ak⟩;have bj:=ae (bb.o.below ak bb.o.lt);obtain⟨ad,cd,rfl⟩:=aa.lenA;rw[aZ] at aa ⊢;have aT:=ae (pM aa);have be:=ae aD;have N:=ae (aR.o.trans (ak.mono aR.o.size));have bl:=ae (aj I.heap.size);clear aa aD ak;go_simp)
    | (go_simp
       go_at_call 22;refine(bd.o w8 N.o).mono ?_;rintro Y w9 ⟨v9,rfl,ab,O⟩;obtain⟨S,U,rfl⟩:=ab.lenA;rw[am.o] at ab ⊢;have av:=ae (pM ab);have an:=ae ((rI _).fm aT.o O);have ap:=ae ((rS 4 _).fm be.o O);have ac:=ae (N.o.trans (O.mono N.o.size))
       first
       | (have t:=ae (bj.o.below O bj.o.lt)
          have f0:=t.o.frozen 0;have f1:=t.o.frozen 1;have f2:=t.o.frozen 2;have f3:=t.o.frozen 3;have f4:=t.o.frozen 4;have f5:=t.o.frozen 5;have f6:=t.o.frozen 6;have f7:=t.o.frozen 7;obtain⟨q0,q1,q2,q3,q4,q5,q6,q7⟩:=bY t.o;have bk:=bl)
       | skip
       clear ab O;go_simp)
    | (go_simp
       go_at_call 22;refine(bd.o _ (N.o.trans (aE.o.mono N.o.size))).mono ?_;rintro Y w9 ⟨v9,rfl,ab,O⟩;obtain⟨S,U,rfl⟩:=ab.lenA;rw[am.o] at ab ⊢;have av:=ae (pM ab);have an:=ae ((rI _).fm ((rI _).fm aT.o aE.o) O);have ap:=ae ((rS 4 _).fm ((rS 4 _).fm be.o aE.o) O);have t:=ae (bi.o.below O bi.o.lt);have ac:=ae ((N.o.trans (aE.o.mono N.o.size)).trans (O.mono (N.o.trans (aE.o.mono N.o.size)).size));have f0:=t.o.frozen 0;have f1:=t.o.frozen 1;have f2:=t.o.frozen 2;have f3:=t.o.frozen 3;have f4:=t.o.frozen 4;have f5:=t.o.frozen 5;have f6:=t.o.frozen 6;have f7:=t.o.frozen 7;obtain⟨q0,q1,q2,q3,q4,q5,q6,q7⟩:=bY t.o;have bk:=ae N.o.size;clear ab O;go_simp))
   all_goals(
    go_simp;refine ‹∀(a':Act) (y:World),Met _ a' y->_› _ _ ?_;go_meet
    first
    | (have aS:=t
       exact⟨_,S,U,ad,cd,ao,co,j,rfl,rfl,ae (AY aS.o _ _ _ _ _ _ _ _),r,ae ((rI _).fmU ((rI _).put8m aS.o av.o _ _ _ _ _ _ _ _)),ae ((rI _).fmU ((rI _).put8m aS.o an.o _ _ _ _ _ _ _ _)),ae ((rS 4 _).fmU ((rS 4 _).put8m aS.o ap.o _ _ _ _ _ _ _ _)),ae (vF ac.o bk.o _ _ _ _ _ _ _ _)⟩)
    | exact⟨_,S,U,ad,cd,ao,co,j,rfl,rfl,ae (Blk.new w9 _ _),r,ae ((rI _).fmU ((rI _).fmA av.o)),ae ((rI _).fmU ((rI _).fmA an.o)),ae ((rS 4 _).fmU ((rS 4 _).fmA ap.o)),ae (ac.o.alloc ac.o.size _)⟩)
  case rest=>
   obtain⟨G9,S,U,ad,cd,ao,co,j,rfl,rfl,ab,r,av,an,ap,ac⟩:=hcut;rename World=>w9;have S9:=ae (S7.o.step ac.o);have be:=ae (a8.o.below ac.o a8.o.lt);have bl:=ae ((rS 2 _).fu b9.o ac.o);have aE:=ae (nC (df A C K H Z ex d j) ad ao d cd J co (Fu w9) w9 an.o aZ ap.o r.o.2.2 (HM.o T j M.o r.o.1 r.o.2.1).1 (HM.o T j M.o r.o.1 r.o.2.1).2);unfold bV df at aE;simp only at aE;have cz:=ae (S9.o.1);clear bc bd k0 V k2 k3 k4 k5 k6 k7 e0 e1 aM e3 cr cc aR bb z0 z1 z2 z3 z4 z5 z6 z7 y0 y1 y2 y3 S7 aO b8 b9 a8 cq cb CW CL;obtain⟨x0,x1,x2,x3,x4,x5,x6,x7⟩:=bY ab.o;go_wp2_with fail;refine aE.o.mono ?_;rintro e ak ⟨cA,rfl,O,bi⟩;obtain⟨cB,cC,rfl,-⟩:=O.val;rw[aC];obtain⟨t,N⟩:∃t,(bJ (df A C K H Z ex d j)).length=t:=⟨_,rfl⟩;have cD:t<=250:=(by rw[<-N,eM];exact(jo (HM.o T j M.o r.o.1 r.o.2.1).2).2);have aS:=ae N;rw[show(bJ { seq:=A,next:=C,K:=K,H:=H,Z:=Z,extra:=ex,drives:=range d,objs:=j }).length=t from N];clear O N;have ai:=(az ak.heap.size ak).alloc (aj _) (cells #[int i64 t] 3);have N:=bi.trans (ai.mono bi.size);have bj:=ae (Blk.new ak 3 #[int i64 t]);have O:=ae (S9.o.step N);have aD:=ae (ab.o.below N ab.o.lt);have aT:=ae ((rI _).fu av.o N);have ce:=ae ((rI _).fu an.o N);have cf:=ae ((rS 4 _).fu ap.o N);have aa:=ae (be.o.below N be.o.lt);have bk:=ae ((rS 2 _).fu bl.o N);clear ai bi N aE S9 ab av an ap be bl ac x0 x1 x2 x3 x4 x5 x6 x7;go_upto_region 15 with fail;generalize ak.alloc (cells #[int i64 t] 3)=ab at*;generalize ak.heap.size=GP at*;have au:=cp.o;have N:=(a5.o T ords).1;have cE:n6<=256:=(by rw[<-au,N];exact(a5.o T ords).2);have cs:=ae (b6.o T ords M.o a7.o);clear N a5 b6;generalize N:dU K H Z ex o T l ords m=P at*;have be:=ae N;clear N;have cg:∀x,(eu P x).length=nW P x:=λx=>by unfold eu nW;rw[aC]
   have ay:PH (zO B f.n ab 106 #[pointer (some ⟨GP,0,none⟩),pointer (some ⟨GL,0,none⟩)] (λx=>t+(eu P x).length)):=ae λx _ q D=>by
    dsimp only
    rw[cg];exact Ir P t x GP GL n6 c6 a6 q (bj.o.chg D λF=>Md.not (Blk.ty bj.o) (by decide) (by decide) F.2) (aa.o.chg D λF=>Md.not (Blk.ty aa.o) (by decide) (by decide) F.2) ((rS 2 _).chgT bk.o (ChgT.ofD D)) au (by omega) (by omega)
   have bi:∀x,t+(eu P x).length<=1000:=λx=>(by have:=KJ P x;omega);have bl:PH (∀N w,(callFunc 106 N).run prog w=.ok (.enter 106 N) w):=ae (enters_of func106 (by kernel_rfl) rfl);have cu:nl<=64:=(by rw[<-am.o];exact b7.o.2);have cv:0<nl:=(by rw[<-am.o];exact b7.o.1);have aE:PH (B<=ab.heap.size):=ae (aP HB.o.2 O.o.1.size);have bm:=ae (Jf (bI f) (Fu ab) S nl U g f (df s o K H Z ex d es) R X 106 #[pointer (some ⟨GP,0,none⟩),pointer (some ⟨GL,0,none⟩)] (λx=>t+(eu P x).length) ab (O.o.stq 0 rfl) aT.o am.o aK.o (by omega) bl.o ay.o λx _=>bi x);have bo:=ae λ(N:(bI f).all (λx=>iq (df s o K H Z ex d es) (X x) (t+(eu P x).length) (f.room x))=true) (q:World) (D:Below ab.heap.size ab q)=>Eh (bI f) S nl U g f (df s o K H Z ex d es) R X 106 #[pointer (some ⟨GP,0,none⟩),pointer (some ⟨GL,0,none⟩)] (λx=>t+(eu P x).length) q ((O.o.step D).stq 0 rfl) ((rI _).more ((rI _).fu aT.o D) λb k _=>k.fd) am.o aK.o (fT f) ⟨HB.o.1,aP aE.o D.size⟩ (by omega) bl.o (λx E q hV=>ay.o x E q ((ChgD.below D).trans hV)) λx E=>⟨bi x,all_eq_true.1 N x E⟩;clear ay bl bj cg bi;go_wp2_with fail;refine bm.o.mono ?_;rintro e cw ⟨rfl,q⟩;cases N:(bI f).all (λx=>iq (df s o K H Z ex d es) (X x) (t+(eu P x).length) (f.room x)) with
   | false=>
     have D:=ae (O.o.1.trans (q.mono O.o.1.size));have bi:=ae N;clear bm bo N q;go_wp2_with fail;go_ret;exact .inr (.inl ⟨rfl,⟨T,ords,j,M.o,a7.o,r.o.1,r.o.2.1,by rw[be.o,aS.o];exact bi.o⟩,D.o⟩)
   | true=>
   have bi:=ae (bo.o N cw q);have bj:=ae q;clear bm bo q;have bl:PH (∀x,x<f.n->iq (df s o K H Z ex d es) (X x) (t+(eu P x).length) (f.room x)=true):=ae λx E=>all_eq_true.1 N x (a3.o x E);clear N;go_wp2_with fail;refine bi.o.mono ?_;rintro e D ⟨rfl,bm,q⟩;have k:=bj.o;have N:=ae ((aD.o.below k aD.o.lt).chg q λF=>Md.not (Blk.ty (aD.o.below k aD.o.lt)) (by decide) (by decide) F.2);have bo:=ae ((rI _).chgD ((rI _).more ((rI _).fu aT.o k) λb k _=>k.fd) q);have cg:=ae ((rI _).chgD ((rI _).more ((rI _).fu ce.o k) λb k _=>k.fd) q);have ch:=ae ((rS 4 _).chgD ((rS 4 _).more ((rS 4 _).fu cf.o k) λb k _=>k.fd) q);have ci:=ae ((aa.o.below k aa.o.lt).chg q λF=>Md.not (Blk.ty (aa.o.below k aa.o.lt)) (by decide) (by decide) F.2);have cj:=ae ((rS 2 _).chgD ((rS 2 _).more ((rS 2 _).fu bk.o k) λb k _=>k.fd) q);have cx:PH (ChgT w D):=ae ((ChgT.below (O.o.step k).1).trans (ChgT.ofD q));have ck:PH (Below B w D):=ae (((O.o.step k).1.mono HB.o.2).trans (q.lo (aP aE.o k.size)));have cl:B<=D.heap.size:=aP aE.o (aP k.size q.size);have cm:=ae bm;clear k q bm bi bj aE O aD aT ce cf aa bk
   have aa:PH (∀i,i<f.n->(sU f (df s o K H Z ex d es) R X (λx=>t+(eu P x).length) (bI f) i).length+(t+(eu P i).length)<=f.room i/\f.room i<=512):=ae λi hi=>by
    have O:=a3.o i hi;have h1:=bl.o i hi;unfold iq at h1;rw[Bool.or_eq_true,decide_eq_true_eq,decide_eq_true_eq] at h1;have h2:=(aK.o.hX i O).1;refine⟨?_,aK.o.h5 i O⟩;unfold sU;rw[bg O]
    dsimp only
    split
    ·rw[h2,iJ];omega
    ·omega
   have aD:=ae (b_all (B:=B) P a6 n6 c6 g f (df s o K H Z ex d es) _ D cm.o cj.o au (by omega) cs.o (λi hi=>by have:=aa.o i hi;exact⟨by omega,this.2⟩));have p0:=ci.o.cell 0;clear cj ci cm;go_wp2_with fail;refine aD.o.mono ?_;rintro e aE ⟨rfl,aT,q⟩;have bi:=ae aT;have bj:=ae (N.o.chg q λF=>Md.not (Blk.ty N.o) (by decide) (by decide) F.2);have bk:=ae ((rI _).chgD cg.o q);have bm:=ae ((rS 4 _).chgD ch.o q);have ce:=ae ((rI _).chgD bo.o q);have cf:=ae (ck.o.trans (q.lo cl));have ci:=ae (cx.o.trans (ChgT.ofD q));have cj:PH (D.heap.size<=aE.heap.size):=ae q.size;clear aT q aD N cg ch bo ck p0;obtain⟨x0,x1,x2,x3,x4,x5,x6,x7⟩:=bY bj.o
   have q:=ae (JC (B:=B) (df s o K H Z ex d es) (df A C K H Z ex d j) g f _ ad ao d cd J co (bI f) S nl U aE bi.o ⟨HB.o.1,aP cl cj.o⟩ (by rw[HN.o];rfl) r.o.2.2 bk.o aZ bm.o (HM.o T j M.o r.o.1 r.o.2.1).1 (HM.o T j M.o r.o.1 r.o.2.1).2 ce.o am.o cv cu (λx E=>gZ E) (λi hi=>by
    have h:=aa.o i hi;rw[nz _ (fT f),bg (a3.o i hi),aS.o];unfold gX;rw[aH];exact⟨by omega,h.2⟩))
   unfold bV at q;generalize N:gX (lN (df A C K H Z ex d j) (bI f)) (gX P (sU f (df s o K H Z ex d es) R X (λx=>t+(eu P x).length) (bI f)))=Q0 at*;have bo:=ae N;clear N;go_wp2_with fail;refine q.o.mono ?_;rintro e cm ⟨rfl,N,aD,aT⟩;have cg:=ae N;have ch:=ae (cf.o.trans aD);have ck:=ae (ci.o.trans aT);clear N aD aT q;go_wp2_with fail;go_ret;refine .inr (.inr ⟨rfl,T,ords,j,M.o,a7.o,r.o.1,r.o.2.1,?_,?_,ch.o,ck.o⟩)
   ·rw[be.o,aS.o]
    exact bl.o
   ·rw[be.o,aS.o,bo.o]
    exact cg.o
end
section
variable {B:Nat}
theorem Hn(m V:cQ)(g e i:Nat)(f:Fl)(L:PI)(O:Value)(al J:PK)(nl cl A K:Nat)(F:Nat->Prop)(X:Nat->List (Option cJ×PI))(R:Nat->List PI)(w:World)(h:Stq B w g f V R)(au:A<=12)(av:m.objs.length=A)(hL:(rI L).ok w Any [slice al nl cl])(aw:L.length=nl)(bp:nl<=64)(ax:∀s∈L,s<f.n/\f.Z s=false)(ho:(rS 4 (m.objs.map bQ)).ok w F [slice J A K])
 (hk:fB m.K m.H m.Z=true)(hX:∀s,s∈L->R s=fU (X s)/\sK m (X s)):
 Calls prog 95 #[.func (.func 38) #[pointer (some ⟨g,0,none⟩)] #[],slice al nl cl,.agg (bV m O (slice J A K)),int i64 e,int i64 i] w λk z=>∃a n c,k=returned (slice a n c)/\(gB (fH X e i L)).ok z Any [slice a n c]/\Below w.heap.size w z:=by
 have M:=(az w.heap.size w).alloc (aj _) (cells (bV m O (slice J A K)) 68);have d:=Blk.new w 68 (bV m O (slice J A K));have l:=h.below M;have a6:=ae ((rI _).new hL M);have a7:=ae ((rS 4 _).new ho M);have ay:=ae M;have am:=ae hX;have CR:=ae λ(s o:_) w (h:DrR w (f.D s) f.p (f.room s) (fU (X s)) o) (ho:(rS 4 (m.objs.map bQ)).ok w F [slice J A K]) (H:s∈L)=>wS m (f.D s) f.p (f.room s) O J A K F (X s) o w h au av ho hk (hX s H).2;have ao:=ae aw;have ap:=ae ax;have a8:=h.n0.2;have br:=ae h.sb;clear au av;obtain⟨sq,nx,t,u,v,ex,dr,os⟩:=m;unfold bV at*;simp only at*;generalize p:w.alloc (cells #[int i64 sq,int i64 nx,int i64 t,int i64 u,int i64 v,int i64 ex,O,slice J A K] 68)=j at*;have S0:PH (Sx j j [bS w.heap.size 68 #[int i64 sq,int i64 nx,int i64 t,int i64 u,int i64 v,int i64 ex,O,slice J A K],jW B g f V R]):=ae (((Sx.nil j).add (jW B g f V R) l).add (bS _ _ _) d);have aA:PH (OwnS j j.heap.size 154 2 (Fr j.heap.size) (slice none 0 0) ((fH X e i (L.take 0)).map λx=>sG x.1 x.2)):=ae (OwnS.nil _ _ _ _ _);have aB:=ae (az j.heap.size j);have q:=ae p;clear h hL ho hk hX M d l p aw ax;go_enter func95,ntmps95;go_upto_region 1 with fail
 (try rw[q.o])
 clear q;go_wp2_with fail;go_loopw [11,18] (λG C wr=>∃d:Nat,d<=nl/\C=int i64 d/\PH (OwnS wr j.heap.size 154 2 (Fr j.heap.size) G ((fH X e i (L.take d)).map λx=>sG x.1 x.2))/\PH (Below j.heap.size j wr)) (λ_ C _=>nl-(intOf C).toNat)
 case atStart=>exact⟨0,by omega,rfl,aA,aB⟩
 case round=>
  clear aA aB;obtain⟨d,bs,rfl,y,N⟩:=hrel;obtain⟨W,Y,Z,rfl⟩:=y.o.sl;by_cases a9:d<nl
  ·have bt:(d:Int)<(nl:Int):=by omega
   have r:d<L.length:=(by rw[ao.o];exact a9);have S1:=ae (S0.o.step N.o);obtain⟨a',c',k,I,-⟩:=dI ((rI _).new a6.o N.o) ao.o;injection k with e1 e2 e3;subst e1 e3;obtain⟨b,o,rfl,q,S⟩:=I.2 (by omega);have cq:wr.cell? ⟨b,o+d,none⟩=some (int i64 (L.getD d 0:Nat)):=S d _ (bT r);have p:L.getD d 0∈L:=(by rw[af,ah r];exact aQ r);have aD:PH (∀l,Below wr.heap.size wr l->Calls prog 38 #[pointer (some ⟨g,0,none⟩),int i64 (L.getD d 0:Nat)] l λk z=>k=returned (pointer (some ⟨f.D (L.getD d 0),0,none⟩))/\z=l):=ae λl E=>tC (L.getD d 0) g f l (((S1.o.step E).stq 1 rfl).sb) (ap.o _ p).1 a8
   have aE:PH (∀l,Below wr.heap.size wr l->Calls prog 118 #[pointer (some ⟨f.D (L.getD d 0),0,none⟩),.agg #[int i64 sq,int i64 nx,int i64 t,int i64 u,int i64 v,int i64 ex,O,slice J A K]] l λk z=>∃a n c,k=returned (slice a n c)/\(rS 8 ((dX (X (L.getD d 0))).map (tu t u v))).ok z (Fr l.heap.size) [slice a n c]/\Below l.heap.size l z):=ae λl E=>by
    obtain⟨-,⟨o1,D,-⟩,-⟩:=((S1.o.step E).stq 1 rfl).drs;rcases D _ (ap.o _ p).1 with⟨k,-⟩ | ⟨-,D⟩
    ·rw[(ap.o _ p).2] at k;cases k
    ·have h2:=D.r
     rw[(am.o _ p).1] at h2;exact CR.o _ _ l h2 ((rS 4 _).new ((rS 4 _).new a7.o N.o) E) p
   have HT:PH (fH X e i (L.take (d+1))=fH X e i (L.take d)++gq e i (dX (X (L.getD d 0)))):=ae (by
    rw[aN r,GV,af,ah r];rfl)
   have bb:PH ((fH X e i (L.take d)).length<=1600):=ae (by
    have D:=AR (X:=X) (o:=e) (b:=i) (L:=L.take d) (c:=24) λs H=>aP (length_filterMap_le _ _) (am.o s (bD H)).2.2.1;have h2:(L.take d).length*24<=64*24:=Nat.mul_le_mul_right _ (by rw[aG];omega);omega)
   have aF:PH ((dX (X (L.getD d 0))).length<=1000):=ae (aP (aP (length_filterMap_le _ _) (am.o _ p).2.2.1) (by omega));clear p r;generalize dX (X (L.getD d 0))=p at*;generalize fH X e i (L.take d)=Q at*;generalize f.D (L.getD d 0)=dx at*;generalize L.getD d 0=sk at*;obtain⟨V,m1,m2,m3,m4,m5,m6,m7⟩:=bY (S1.o.blk 0 rfl);clear S I CR;go_upto_region 5 with fail;go_cut [26,27,28] (λG r C l=>∃a n c,G=slice a n c/\r=int i64 (n:Nat)/\C=int i64 0/\PH ((rS 8 (p.map (tu t u v))).ok l (λb=>wr.heap.size<=b/\b<l.heap.size) [slice a n c])/\PH (Below wr.heap.size wr l))
   case first=>
    go_region_law (first
     | (go_simp
        go_at_call 38;refine(aD.o _ (by first | exact(az _ _).drew | exact az _ _)).mono ?_;rintro k l ⟨rfl,rfl⟩;go_simp)
     | (go_simp
        go_at_call 118;refine(aE.o _ (by first | exact(az _ _).drew | exact az _ _)).mono ?_;rintro k l ⟨an,r,S,rfl,H,E⟩;have aa:PH ((rS 8 (p.map (tu t u v))).ok l (λb=>wr.heap.size<=b/\b<l.heap.size) [slice an r S]):=ae ((rS 8 _).more H λb q T=>⟨q,T⟩);have ab:PH (Below wr.heap.size wr l):=ae (by first | exact bP E | exact E);clear H E;go_simp))
    all_goals(
     go_simp;refine ‹∀(a':Act) (z:World),Met _ a' z->_› _ _ ?_;go_meet;exact⟨an,r,S,rfl,rfl,rfl,aa,ab⟩)
   case rest=>
    obtain⟨an,r,S,rfl,rfl,rfl,aa,ab⟩:=hcut
    have ai:PH (p.length=r):=ae (by
     obtain⟨a',n',c',e',_,_,_,h4,_⟩:=aa.o;injection e' with e' _;injection e' with _ e2 _;rw[aC] at h4;omega)
    have bw:r<=1000:=(by have D:=ai.o;have h2:=aF.o;omega);have aK:PH (OwnS wc j.heap.size 154 2 (Fr j.heap.size) (slice W Y Z) ((Q++gq e i (p.take 0)).map λx=>sG x.1 x.2)):=ae (by rw[take_zero,show gq e i []=[] from rfl,append_nil];exact y.o.new ab.o);have aL:=ae (N.o.trans (ab.o.mono N.o.size));have aM:PH (wc.heap.size<=wc.heap.size):=ae (aj _);have aO:PH (∀b,(Value.slice W Y Z).ownBlock=some b->b<wr.heap.size\/wc.heap.size<=b):=ae λb q=>.inl (y.o.lt b q).2;have bc:=ae N.o.size;clear aD aE S1 y N ab V m1 m2 m3 m4 m5 m6 m7 cq q;go_wp2_with fail;go_loopw [11,28] (λG C E=>∃l:Nat,l<=r/\C=int i64 l/\PH (OwnS E j.heap.size 154 2 (Fr j.heap.size) G ((Q++gq e i (p.take l)).map λx=>sG x.1 x.2))/\PH ((rS 8 (p.map (tu t u v))).ok E (λb=>wr.heap.size<=b/\b<wc.heap.size) [slice an r S])/\PH (Below j.heap.size j E)/\PH (wc.heap.size<=E.heap.size)/\PH (∀b,G.ownBlock=some b->b<wr.heap.size\/wc.heap.size<=b)) (λ_ C _=>r-(intOf C).toNat)
    case atStart=>exact⟨0,by omega,rfl,aK,aa,aL,aM,aO⟩
    case round=>
     clear aK aa aL aM aO;rename World=>E;obtain⟨l,bx,rfl,y,HR,HJ,HE,U⟩:=hrel;obtain⟨W,Y,Z,rfl⟩:=y.o.sl;by_cases aR:l<r
     ·have bB:(l:Int)<(r:Int):=by omega
      have aS:l<p.length:=(by rw[ai.o];exact aR);have ac:PH (Q++gq e i (p.take (l+1))=(Q++gq e i (p.take l))++gq e i [p.getD l lq]):=ae (by rw[append_assoc,aN aS,vB,af,ah aS];rfl)
      have bd:((Q++gq e i (p.take l)).map λx=>sG x.1 x.2).length<=1000000:=by
       have D:=AQ e i (p.take l);rw[aG] at D;rw[aC,aH];have:=bb.o;have:=aF.o;omega
      obtain⟨b,o,a3,c3,rfl,hF,ad,hr⟩:=jg HR.o ai.o aR;generalize p.getD l lq=be at*;obtain⟨r0,r1,r2,r3,r4,r5,r6,r7⟩:=ad.c;obtain⟨z,G,H,yt,I⟩:=be;have q:=ad.1;simp only at*;generalize Q++gq e i (p.take l)=MM at*;have M:=(az E.heap.size E).alloc (aj _) (cells #[int i64 z,int i64 G,int i64 H,int i64 t,int i64 u,int i64 v,.int .u32 (yt:Nat),slice a3 I.length c3] 178);have aq:=ae (Blk.new E 178 #[int i64 z,int i64 G,int i64 H,int i64 t,int i64 u,int i64 v,.int .u32 (yt:Nat),slice a3 I.length c3]);have C:=ae M;have ar:=ae hr;clear hr hF q M ad;go_upto_region 8 with fail;clear r0 r1 r2 r3 r4 r5 r6 r7;generalize E.alloc (cells #[int i64 z,int i64 G,int i64 H,int i64 t,int i64 u,int i64 v,.int .u32 (yt:Nat),slice a3 I.length c3] 178)=w7 at*;have ad:=ae (y.o.new C.o);have ag:=ae (HJ.o.trans (C.o.mono HJ.o.size));have bi:j.heap.size<=w7.heap.size:=ag.o.size;obtain⟨x0,x1,x2,x3,x4,x5,x6,x7⟩:=bY aq.o;have bj:(z=e/\G=i)\/¬(z=e/\G=i):=Classical.em _;rcases bj with⟨rfl,rfl⟩ | aT
      ·rw[show gq z G [⟨z,G,H,yt,I⟩]=[(H,I)] by simp[gq]] at ac
       have aV:PH ((sG H I).ok w7 (λb=>Fr j.heap.size b/\some b≠(Value.slice W Y Z).ownBlock) [int i64 H,slice a3 I.length c3]):=ae (rY (x:=[int i64 H]) (rZ rfl) ((rB I).keep ar.o λb q T=>⟨C.o.block b T,aP bc.o q.1,λk=>by
        rcases U.o b k.symm with h | h <;> omega⟩))
       go_wp2_with (at_builtin;refine gM (w:=w7) rfl _ _ rfl underlying151 IB rfl (by decide) (by decide) ad.o bi bd (R:=sG H I) aV.o rfl rfl rfl ?_)
       intro v8 w8 aX a0 a1 a4 a5;have bk:PH (OwnS w8 j.heap.size 154 2 (Fr j.heap.size) v8 ((Q++gq z G (p.take (l+1))).map λx=>sG x.1 x.2)):=ae (by rw[ac.o,aU];exact aX);have ak:PH ((rS 8 (p.map (tu t u v))).ok w8 (λb=>wr.heap.size<=b/\b<wc.heap.size) [slice (some ⟨b,o,none⟩) r S]):=ae ((rS 8 _).keep HR.o λb q T=>⟨(a4 b (aW T C.o.size) λk=>by rcases U.o b k.symm with h | h <;> omega).trans (C.o.block b T),q⟩);have bl:=ae (ag.o.trans a0);have T:PH (wc.heap.size<=w8.heap.size):=ae (aP HE.o (aP C.o.size a1))
       have bm:PH (∀b,v8.ownBlock=some b->b<wr.heap.size\/wc.heap.size<=b):=ae λb q=>by
        rcases a5 with k | ⟨b',k,bo⟩
        ·exact U.o b (k▸q)
        ·rw[q] at k
         injection k with k;subst k;exact .inr (aP HE.o (aP C.o.size bo))
       clear aX a0 a1 a4 a5 ad ag aV ar aq C y HR HJ HE U x0 x1 x2 x3 x4 x5 x6 x7;go_wp2_with fail;go_roundw
       case rel=>exact⟨l+1,by omega,by go_num,bk,ak,bl,T,bm⟩
       case measure=>simp[intOf];omega
      ·rw[show gq e i [⟨z,G,H,yt,I⟩]=[] by unfold gq;rw[filter_cons_of_neg (by simpa using aT)];rfl,append_nil] at ac
       rw[<-ac.o] at ad;have ak:PH ((rS 8 (p.map (tu t u v))).ok w7 (λb=>wr.heap.size<=b/\b<wc.heap.size) [slice (some ⟨b,o,none⟩) r S]):=ae ((rS 8 _).new HR.o C.o);have T:PH (wc.heap.size<=w7.heap.size):=ae (aP HE.o C.o.size);have aV:¬(z:Int)=(e:Int)\/((z:Int)=(e:Int)/\¬(G:Int)=(i:Int)):=(by omega);clear aT ac ar aq C y HR HJ HE;rcases aV with D | ⟨D,h2⟩
       ·go_wp2_with fail
        go_roundw
        case rel=>exact⟨l+1,by omega,by go_num,ad,ak,ag,T,U⟩
        case measure=>simp[intOf];omega
       ·obtain rfl:z=e:=by omega
        clear D;go_wp2_with fail;go_roundw
        case rel=>exact⟨l+1,by omega,by go_num,ad,ak,ag,T,U⟩
        case measure=>simp[intOf];omega
     ·obtain rfl:l=r:=by omega
      have z:PH (OwnS E j.heap.size 154 2 (Fr j.heap.size) (slice W Y Z) ((fH X e i (L.take (d+1))).map λx=>sG x.1 x.2)):=ae (by
       rw[HT.o];have h:=y.o
       rwa [aJ (by rw[ai.o];exact aj _)] at h)
      go_wp2_with fail;go_roundw
      case rel=>exact⟨d+1,by omega,by go_num,z,HJ⟩
      case measure=>simp[intOf];omega
  ·obtain rfl:d=nl:=by omega
   rw[aJ (by rw[ao.o];exact aj _)] at y;go_wp2_with fail;go_ret;exact⟨_,_,_,rfl,y.o.repAny,ay.o.trans (N.o.mono ay.o.size)⟩
end
section
variable {B:Nat}
theorem f_get(m:cQ)(o p nb g kk W:Nat)(f:Fl)(M:ByteArray)(T l:PI)(X:Nat->List (Option cJ×PI))(R:Nat->List PI)(w:World)(h:Stq B w g f m R)(ak:m.objs.length=W)(a3:W<=12)(a7:kk<W)(aA:m.objs.getD kk bO=⟨M,o,p,T⟩)(aB:mE (rz M) m.objs=(kk:Nat))(Y:fB m.K m.H m.Z=true)(hT:zt m.K m.H m.Z o nb T)(y:o<=16777215)(c:By l)(Z:l.length=p)(a9:p<=1000)(ap:ja (m.K*m.Z) p=nb)(bs:nb<=8)(hm:il m)(hq:jV m)(bb:0<(bI f).length)
 (hX:∀s∈bI f,R s=fU (X s)/\sK m (X s))(hG:∀s∈bI f,El m (R s))
 (am:∀b,b<nb->(∀x∈fH X o b (bI f),x.1<=65535/\x.2=gN m.K m.H m.Z (lj o T b:Nat) (nR m.K m.H m.Z o T l b) x.1)/\(fH X o b (bI f)).length<=1000):
 Calls prog 52 #[pointer (some ⟨g,0,none⟩),.string M] w λe z=>Below w.heap.size w z/\(((∀b,b<nb->dK m.K m.H m.Z (lj o T b:Nat) ((fH X o b (bI f)).map Prod.fst)=true)/\∃v,e=returned (.tuple #[v,int i64 0])/\(rB l).ok z (Fr w.heap.size) [v])\/
  ((∃b,b<nb/\dK m.K m.H m.Z (lj o T b:Nat) ((fH X o b (bI f)).map Prod.fst)=false)/\e=returned (.tuple #[slice none 0 0,int i64 11]))):=by
 have j:PH (Sx w w [jW B g f m R]):=ae ((Sx.nil w).add (jW B g f m R) h);have t:=ae λw (h:Stq B w g f m R)=>AK g f m R w h;have i:=λw (h:Stq B w g f m R)=>BV M g f m R w h (by rw[ak];omega);rw[aB] at i;have E:=ae i;have G:=ae λw (h:Stq B w g f m R)=>Mh g f m R w h hm hq hG bb;have CL:=ae λw (h:Stq B w g f m R)=>vq g f m R w h;have q:=nG h.n0.2;have CS:=ae λ(b:Nat) (a:Value) (u a2:PK) (N S c2:Nat) (F:Nat->Prop) w (h:Stq B w g f m R) (U:(rI (bI f)).ok w Any [slice u N S]) (d:(bI f).length=N) (y:(rS 4 (m.objs.map bQ)).ok w F [slice a2 W c2])=>Hn m m g o b f (bI f) a u a2 N S W c2 F X R w h a3 ak U d (by rw[<-d];exact q) (λs a=>gZ a) y Y hX;have CD:=ae λ(b:Nat) (c:b<nb) w=>kU o b (T.getD b 0) w y (by omega) (Nat.le_of_lt (hT.2 b c).1);have r:∀b,b<nb->lj o T b<4294967296:=λb c=>by have:=(hT.2 b c).1;unfold lj ia;omega
 have D:∀b,b<nb->MidOK m.K m.H m.Z (lj o T b:Nat) (nR m.K m.H m.Z o T l b):=λb a=>(mL Y (fJ b c).2 (fJ b c).1 (hT.2 b a).2.1).2.1;have CB:=ae λ(b:Nat) (a:b<nb) (k:PK) (A n:Nat) w (U:(gB (fH X o b (bI f))).ok w Any [slice k A n]) (Z:(fH X o b (bI f)).length=A)=>H8 m.K m.H m.Z A n (lj o T b:Nat) k Any (fH X o b (bI f)) (nR m.K m.H m.Z o T l b) w Y (by omega) (by have:=r b a;omega) U Z (by rw[<-Z];exact(am b a).2) (D b a) (am b a).1;have bc:PH (∀b,b<nb->qc m.K m.H m.Z (lj o T b:Nat) (nR m.K m.H m.Z o T l b) m.K=fQ (m.K*m.Z) l b):=ae λb a=>Ji Y (fJ b c).2 (fJ b c).1 (hT.2 b a).2.1;have H:=ba Y;have a:1<=m.K*m.Z:=bn (show 1<=m.K by omega) (show 1<=m.Z by omega);have I:m.K*m.Z<=16*24:=bn (by omega) (by omega);have CJ:=ae λ(k:PK) (n:Nat) w (hx:(rM ((range nb).map (fQ (m.K*m.Z) l))).ok w Any [slice k nb n])=>Di m.K m.H m.Z ((range nb).map (fQ (m.K*m.Z) l)) Any k nb n p w Y hx (by rw[aC,aZ]) ap.symm (by intro x hx;obtain⟨ag,_,rfl⟩:=aY.1 hx;exact(fJ ag c).1) a9;rw[show((range nb).map (fQ (m.K*m.Z) l)).flatten.take p=l from by rw[<-Z];have h:=Hv a l;unfold lw at h;rw[Z,ap] at h;rw[Z];exact h] at CJ;have bw:PH (∀b,(fQ (m.K*m.Z) l b).length<=1000):=ae λb=>by rw[(fJ b c).1];omega
 have aq:=ae hT.1;have bd:PH (∀b,b<nb->(fH X o b (bI f)).length<=1000):=ae λb c=>(am b c).2;have be:PH (∀b,128*o+16*b+T.getD b 0=lj o T b):=ae λb=>rfl;have bi:=ae aA;have aD:=ae ak;have bx:(kk:Int)<(W:Int):=by omega
 clear hX hG am r D hT Y H a I hm hq c Z q i ap aA ak aB;obtain⟨sq,nx,q,D,r,ex,dr,os⟩:=m;simp only at*;unfold dD at CB CJ;generalize fQ (q*r) l=i at*;go_enter func52,ntmps52;go_wp2_with fail;refine(t.o w (j.o.stq 0 rfl)).mono ?_;rintro e w1 ⟨rfl,c⟩;have a:=ae (j.o.step c);clear c t j h;go_wp2_with fail;refine(E.o w1 (a.o.stq 0 rfl)).mono ?_;rintro e w2 ⟨rfl,c⟩;have t:=ae (a.o.step c);clear c E a;go_wp2_with fail;refine(G.o w2 (t.o.stq 0 rfl)).mono ?_;rintro e j ⟨rfl,c⟩;have L:=ae (t.o.step c);clear c G t;obtain⟨-,⟨vd,vo,a,hd,y⟩,-⟩:=L.o.stq 0 rfl;obtain⟨a2,ar,c2,rfl⟩:=kO y
 obtain rfl:ar=W:=by
  have h:=Cs y;rw[aC] at h;exact h.symm.trans aD.o
 obtain⟨b,o2,a4,c4,rfl,-,c,Q,V,aa,ab,t⟩:=qQ y aD.o a7;simp only[bi.o,aq.o] at Q V aa ab t;obtain⟨E,G,H,I,J,K,k6,k7,-⟩:=fS a;have O:=ae a;have ac:=ae y;clear a hd y E G H I J K k6;have a:=(az j.heap.size j).alloc (aj _) (cells #[.string M,int i64 o,int i64 p,slice a4 nb c4] 65)
 have S4:PH (Sx w (j.alloc (cells #[.string M,int i64 o,int i64 p,slice a4 nb c4] 65)) [eR (Fu j) (slice (some ⟨b,o2,none⟩) ar c2) (rS 4 (os.map bQ)),eR (Fu j) (slice a4 nb c4) (rI T),bS j.heap.size 65 #[.string M,int i64 o,int i64 p,slice a4 nb c4],jW B g f ⟨sq,nx,q,D,r,ex,dr,os⟩ R]):=
  ae ((((L.o.step a).add (bS _ _ _) (Blk.new j _ _)).add (eR (Fu j) (slice a4 nb c4) (rI T)) ((rI _).new t a)).add (eR (Fu j) (slice (some ⟨b,o2,none⟩) ar c2) (rS 4 (os.map bQ))) ((rS 4 _).new ac.o a))
 have aE:=ae (Blk.below O.o a (Blk.lt O.o));clear a t L O ac;go_upto_region 10 with fail;clear Q V aa ab k7 c;generalize j.alloc (cells #[.string M,int i64 o,int i64 p,slice a4 nb c4] 65)=L at*;generalize j.heap.size=G4 at*;obtain⟨x0,x1,x2,x3⟩:=eB (S4.o.blk 2 rfl);have aF:=ae (az L.heap.size L);have aK:PH (OwnS L L.heap.size 30 1 Any (slice none 0 0) (((range 0).map i).map rB)):=ae (OwnS.nil _ _ _ _ _);have aL:PH (∀b,b<0->dK q D r (lj o T b:Nat) ((fH X o b (bI f)).map Prod.fst)=true):=ae λb c=>by omega
 obtain⟨N,d⟩:∃N,(bI f).length=N:=⟨_,rfl⟩;have aM:=ae d;clear d;go_wp2_with fail;clear x0 x1 x2 x3;go_loopw [8,37] (λv ag wr=>∃a:Nat,a<=nb/\ag=int i64 a/\PH (OwnS wr L.heap.size 30 1 Any v (((range a).map i).map rB))/\PH (∀b,b<a->dK q D r (lj o T b:Nat) ((fH X o b (bI f)).map Prod.fst)=true)/\PH (Below L.heap.size L wr)) (λ_ ag _=>nb-(intOf ag).toNat)
 case atStart=>exact⟨0,by omega,rfl,aK,aL,aF⟩
 case round=>
  clear aF aK aL;obtain⟨a,bB,rfl,O,HA,HB⟩:=hrel;obtain⟨bv,nv,cv,rfl⟩:=O.o.sl;have t:=ae (S4.o.step HB.o);have ac:=ae (Blk.below aE.o HB.o (Blk.lt aE.o));by_cases ad:a<nb
  ·have b0:(a:Int)<(nb:Int):=by omega
   obtain⟨b1,b2,au,d,-⟩:=dI (t.o.rep 1 rfl) aq.o;injection au with au _ bj;subst au bj;obtain⟨bt,ot,rfl,V,Q⟩:=d.2 (by omega);have aa:wr.cell? ⟨bt,ot+a,none⟩=some (int i64 (T.getD a 0:Nat)):=Q a _ (bT (by rw[aq.o];exact ad));have aO:=ae (CD.o a ad);have av:=ae (CB.o a ad);rw[be.o] at aO;rw[bc.o a ad] at av;have bk:PH (dK q D r (lj o T a:Nat) ((fH X o a (bI f)).map Prod.fst)=dK q D r (lj o T a:Nat) ((fH X o a (bI f)).map Prod.fst)):=ae rfl;have b3:=ae (bd.o a ad);clear d Q;generalize T.getD a 0=tk at*;go_upto_region 13 with fail;clear aa V;have aR:PH (∀d,Below wr.heap.size wr d->Calls prog 22 #[pointer (some ⟨g,0,none⟩)] d λe z=>∃v,e=returned v/\OwnI z d.heap.size v (bI f)/\Below d.heap.size d z):=ae λd Q=>CL.o d ((t.o.step Q).stq 3 rfl);have an:=ae λ(d:World) (u:PK) (S:Nat) (Q:Below wr.heap.size wr d) (U:(rI (bI f)).ok d Any [slice u N S])=>CS.o a vd u (some ⟨b,o2,none⟩) N S c2 (Fu j) d ((t.o.step Q).stq 3 rfl) U aM.o ((t.o.step Q).rep 0 rfl);unfold bV at an;simp only at an;obtain⟨E,G,H,I,J,K,k6,k7,-⟩:=fS ac.o;simp only at E G H I J K;obtain⟨x0,x1,x2,x3⟩:=eB (t.o.blk 2 rfl);have b5:=ae CS.o;have b6:=ae CL.o;clear CL CS;go_cut [11] (λv V=>∃k A n,v=slice k A n/\PH ((gB (fH X o a (bI f))).ok V Any [slice k A n])/\PH (Below wr.heap.size wr V))
   case first=>
    go_region_law (first
     | (go_simp
        go_at_call 22;refine(aR.o _ (by first | exact(az _ _).drew | exact az _ _)).mono ?_;rintro ai w5 ⟨v5,rfl,u,U⟩;obtain⟨a5,c5,rfl⟩:=u.lenA;rw[aM.o] at u ⊢;have S:PH (Below wr.heap.size wr w5):=ae (by first | exact bP U | exact U);have ab:=ae (Rp.any _ (gH u));obtain⟨q0,q1,q2,q3,q4,q5,q6,q7,-⟩:=fS (Blk.below ac.o S.o (Blk.lt ac.o));simp only at q0 q1 q2 q3 q4 q5;obtain⟨y0,y1,y2,y3⟩:=eB ((t.o.step S.o).blk 2 rfl);clear u U;go_simp)
     | (go_simp
        go_at_call 95;refine(an.o _ _ _ S.o ab.o).mono ?_;rintro ai w6 ⟨a6,n6,c6,rfl,U,aa⟩;have ao:=ae U;have u:=ae (S.o.trans (aa.mono S.o.size));clear U aa;go_simp))
    all_goals(
     go_simp;refine ‹∀(a':Act) (z:World),Met _ a' z->_› _ _ ?_;go_meet;exact⟨a6,n6,c6,rfl,ao,u⟩)
   case rest=>
    obtain⟨a6,n6,c6,rfl,ao,u⟩:=hcut;rename World=>w6
    have S:(fH X o a (bI f)).length=n6:=by
     obtain⟨a',n',c',e',_,_,_,h4,_⟩:=ao.o;injection e' with e' _;injection e' with _ e2 _;rw[aC] at h4;omega
    have aw:=ae λ(d:World) (Q:Below w6.heap.size w6 d)=>av.o a6 n6 c6 d ((rS 2 _).new ao.o Q) S;have S7:=ae (t.o.step u.o);have aS:=ae (Blk.below ac.o u.o (Blk.lt ac.o));clear E G H I J K k6 k7 x0 x1 x2 x3 aR an CB av S;obtain⟨E,G,H,I,J,K,k6,k7,-⟩:=fS aS.o;simp only at E G H I J K;obtain⟨x0,x1,x2,x3⟩:=eB (S7.o.blk 2 rfl);obtain⟨S,U⟩:∃S,dK q D r (lj o T a:Nat) ((fH X o a (bI f)).map Prod.fst)=S:=⟨_,rfl⟩;have aT:PH (∀b,b=a->dK q D r (lj o T b:Nat) ((fH X o b (bI f)).map Prod.fst)=S):=ae λb e=>(by rw[e];exact U);rw[U] at aw;clear U bk;generalize lj o T a=sk at*;go_upto_region 14 with fail;go_cut [12,13] (λv e V=>∃k A n aa,v=slice k A n/\e=int i64 aa/\PH ((S=true/\aa=0/\(rB (i a)).ok V (λb=>wr.heap.size<=b) [slice k A n])\/(S=false/\aa=9))/\PH (Below w6.heap.size w6 V))
    case first=>
     go_region_law (first
      | (go_simp
         go_at_call 114;refine(aO.o _).mono ?_;rintro ai w7 ⟨rfl,rfl⟩;go_simp)
      | (go_simp
         go_at_call 113;refine(aw.o _ (by first | exact(az _ _).drew | exact az _ _)).mono ?_;rintro ai k ⟨ax,ay,aa⟩;have n:PH (Below w6.heap.size w6 k):=ae (by first | exact bP aa | exact aa)
         obtain⟨A,n8,V,E8,rfl,ab⟩:∃A n8 V E8,ai=returned (.tuple #[slice A n8 V,int i64 E8])/\PH ((S=true/\E8=0/\(rB (i a)).ok k (λb=>wr.heap.size<=b) [slice A n8 V])\/(S=false/\E8=9)):=by
          cases S with
          | true=>
            obtain⟨v8,rfl,aV⟩:=ax rfl;obtain⟨A,V,rfl,-,-⟩:=aV.rd2 rfl;exact⟨A,_,V,0,rfl,ae (.inl ⟨rfl,rfl,(rB _).more (gG aV) λb c _=>aP u.o.size c⟩)⟩
          | false=>
            obtain rfl:=ay rfl;exact⟨none,0,0,9,rfl,ae (.inr ⟨rfl,rfl⟩)⟩
         clear ax ay aa;go_simp))
     all_goals(
      go_simp;refine ‹∀(a':Act) (z:World),Met _ a' z->_› _ _ ?_;go_meet;exact⟨A,n8,V,E8,rfl,rfl,ab,n⟩)
    case rest=>
     obtain⟨A,n8,V,E8,rfl,rfl,ab,n⟩:=hcut;rename World=>k;clear E G H I J K k6 k7 x0 x1 x2 x3 aw aS;have ax:=ae (HB.o.trans ((u.o.trans (n.o.mono u.o.size)).mono HB.o.size));have S8:=ae (S7.o.step n.o);obtain⟨U,rfl,z⟩ | ⟨U,rfl⟩:=ab.o
     ·have aV:=ae ((O.o.new u.o).new n.o)
      have bl:L.heap.size<=k.heap.size:=ax.o.size;have bm:(((range a).map i).map rB).length<=1000000:=(by rw[aC,aC,aZ];omega);have aX:PH ((rB (i a)).ok k (λb=>Any b/\some b≠(Value.slice bv nv cv).ownBlock) [slice A n8 V]):=ae ((rB _).more z λb c _=>⟨trivial,λe=>by have h1:=(O.o.lt b e.symm).2;have h2:wr.heap.size<=b:=c;omega⟩)
      have bo:PH (∀b,b<a+1->dK q D r (lj o T b:Nat) ((fH X o b (bI f)).map Prod.fst)=true):=ae λb c=>by
       rcases bq b a with h | h
       ·exact HA.o b h
       ·exact(aT.o b (by omega)).trans U
      have a0:PH (((range (a+1)).map i).map rB=((range a).map i).map rB++[rB (i a)]):=ae (by rw[range_succ,aU,aU];rfl);clear z ab O S7 S8 u n HA;generalize ((range a).map i).map rB=LL at*
      go_wp2_with (at_builtin;refine gT (w:=k) (w1:=k) (C:=L.heap.size) (F:=Any) rfl _ _ rfl underlying45 dA rfl (by decide) (by decide) aV.o (az _ _) bl bm (R:=rB (i a)) aX.o rfl rfl rfl ?_)
      intro v9 w9 ay a1;rw[<-a0.o] at ay;have bp:=ae ay;have br:=ae (ax.o.trans a1);clear ay a1 aX aV a0 ax;go_wp2_with fail;go_roundw
      case rel=>exact⟨a+1,by omega,by go_num,bp,bo,br⟩
      case measure=>simp[intOf];omega
     ·have ay:PH (∃b,b<nb/\dK q D r (lj o T b:Nat) ((fH X o b (bI f)).map Prod.fst)=false):=ae ⟨a,ad,(aT.o a rfl).trans U⟩
      clear ab O S7 u n HA U;go_wp2_with fail;go_ret2;exact⟨S8.o.1,.inr ⟨ay.o,rfl⟩⟩
  ·obtain rfl:a=nb:=by omega
   have u:(((range a).map i).map rB).length=nv:=O.o.len.1;rw[aC,aC,aZ] at u;subst u;have A:=ae λ(d:World) (Q:Below wr.heap.size wr d)=>CJ.o bv cv d ((rM _).new O.o.repAny Q);obtain⟨E,G,H,I,J,K,k6,k7,-⟩:=fS ac.o;simp only at E G H I J K;obtain⟨x0,x1,x2,x3⟩:=eB (t.o.blk 2 rfl);clear O CJ CB CL CS CD;go_upto_region 19 with fail
   go_region_law (
    (go_simp
     go_at_call 115;refine(A.o _ (by first | exact(az _ _).drew | exact az _ _)).mono ?_;rintro ai k ⟨v8,rfl,z,aa⟩;have ab:PH ((rB l).ok k (Fr wr.heap.size) [v8]):=ae z;have n:PH (Below wr.heap.size wr k):=ae (by first | exact bP aa | exact aa);clear z aa;go_simp))
   all_goals(
    go_simp;go_wp2_with fail;go_ret2;exact⟨(t.o.step n.o).1,.inl ⟨HA.o,_,rfl,(rB _).more ab.o λb c _=>aP t.o.1.size c⟩⟩)
end
section
variable {B:Nat}
theorem NP(x a n:Nat)(w:World)(h:Blk w a 3 #[int i64 n]):Calls prog 122 (#[int i64 x]++#[pointer (some ⟨a,0,none⟩)]) w λb c=>b=returned (int i64 n)/\Below w.heap.size w c:=by
 show Calls prog 122 #[int i64 x,pointer (some ⟨a,0,none⟩)] w _;have b:w.cell? ⟨a,0,none⟩=some (int i64 n):=h.cell 0;go_enter func122,ntmps122;go_wp2_with fail;go_ret;exact⟨rfl,az _ _⟩
theorem Lj(m a:cQ)(g:Nat)(f:Fl)(R:Nat->List PI)(X:Nat->List (Option cJ×PI))(e l:PK)(c j k n:Nat)(w:World)(h:Stq B w g f m R)(hB:B<=g/\B<=w.heap.size)(J:a.drives=range f.n)(K:a.objs.length=k)(hk:OE f m R X (bI f))(al:m.seq+1=a.seq)(aA:m.seq<=100000)
 (q:(rI a.drives).ok w (Fd w) [slice e c j])(z:a.drives.length=c)(A:(rS 4 (a.objs.map bQ)).ok w (Fd w) [slice l k n])(p:il a)(L:jV a)(am:0<(bI f).length)(h5:∀i,i<f.n->f.room i<=512)(an:∀i,i<f.n->i∉bI f->(R i).length<=f.room i):
 Calls prog 64 #[pointer (some ⟨g,0,none⟩),.agg (bV a (slice e c j) (slice l k n))] w λy C=>((bI f).all (λb=>iq m (X b) (bJ a).length (f.room b))=false/\y=returned (int i64 7)/\Below w.heap.size w C)\/((bI f).all (λb=>iq m (X b) (bJ a).length (f.room b))=true/\y=returned (int i64 0)/\Stq B C g f a (gX (lN a (bI f)) (sU f m R X (λ_=>(bJ a).length) (bI f)))/\Below B w C/\ChgT w C):=by
 have r:=(az w.heap.size w).alloc (aj _) (cells (bV a (slice e c j) (slice l k n)) 68);have u:PH (Sx w (w.alloc (cells (bV a (slice e c j) (slice l k n)) 68)) [jW B g f m R,bS w.heap.size 68 (bV a (slice e c j) (slice l k n))]):=ae ((((Sx.nil w).step r).add (bS w.heap.size _ _) (Blk.new w _ _)).add (jW B g f m R) (h.below r));have D:=ae ((rI _).fd q r);have ao:=ae ((rS 4 _).fd A r);have aB:=ae K;have ad:=ae hk;have aD:=ae an;have aE:=ae J;have aF:=ae p;have aK:=ae L;have aL:=ae h5;have M:=ae hB;have ap:PH (0<(bI f).length/\(bI f).length<=64):=ae ⟨am,nG h.n0.2⟩;have aM:c<=64:=by rw[<-z];exact p.2.2.2.2.1.2
 have O:=ae λw (h:Stq B w g f m R)=>AK g f m R w h;have E:=ae λw (q:(rI a.drives).ok w (Fd w) [slice e c j]) (A:(rS 4 (a.objs.map bQ)).ok w (Fd w) [slice l k n])=>uM a e l c j k n (Fd w) w q z A K p;have G:=ae λw (h:Stq B w g f m R) (q:(rI a.drives).ok w (Fd w) [slice e c j])=>xA a.drives (Fd w) e c j g f R (λ_=>0) w h.drs h.sb q z aM (λb t=>by rw[J] at t;exact bA.1 t) h.n0.2;have aO:PH (a.drives.filter (λi=> !f.Z i)=bI f):=ae (by rw[J];rfl);rw[aO.o] at G;have H:=ae λw (q:(rI a.drives).ok w (Fd w) [slice e c j]) (A:(rS 4 (a.objs.map bQ)).ok w (Fd w) [slice l k n])=>nC a e l c j k n (Fd w) w q z A K p L;have aR:=ae z;obtain⟨s,F⟩:∃s,s=m.seq:=⟨_,rfl⟩;obtain⟨N,v⟩:∃N,N=a.seq:=⟨_,rfl⟩;rw[<-F,<-v] at al;have a9:IntKind.i64.wrap ((s:Int)+1)=(N:Int):=by rw[IntKind.wrap_i64];omega
 have HS:=ae F;obtain⟨d,x⟩:∃d,(bJ a).length=d:=⟨_,rfl⟩;simp only[x];have bb:d<=250:=by rw[<-x,eM];exact(jo L).2
 have aq:=ae x;unfold bV at*;rw[<-v] at u D ao E H ⊢;have aS:=ae v;clear h hB J K hk al aA q z A p L am h5 an r F v x;go_enter func64,ntmps64;go_upto_region 1 with fail;generalize w.alloc (cells #[int i64 N,int i64 a.next,int i64 a.K,int i64 a.H,int i64 a.Z,int i64 a.extra,slice e c j,slice l k n] 68)=w0 at*;go_wp2_with fail;refine(O.o w0 (u.o.stq 0 rfl)).mono ?_;rintro F w1 ⟨rfl,v⟩;have x:=ae (u.o.step v);have I:=ae ((rI _).fd D.o v);have ar:=ae ((rS 4 _).fd ao.o v);clear v u D O;go_upto_region 3 with fail;refine bL (by kernel_rfl) (by kernel_rfl) ?_
 iterate 14 (
  with_reducible refine wpQuiet_step (λO u=> ?_)
  go_simp
  first
  | refine u _ ?_
  | refine⟨_,λ_ _=>rfl,u _ ?_⟩
  | (apply Exists.intro
     refine⟨λC D=> ?_,u _ ?_⟩
     ·obtain⟨-,⟨T,U,v,-⟩,-⟩:=(x.o.step D).stq 0 rfl
      obtain⟨Q,V,W,Y,Z,aa,ab,ac,-⟩:=fS v;rw[<-HS.o] at Q;obtain⟨ag,ai,ak,au,av,aw,ax,ay⟩:=bY ((x.o.step D).blk 1 rfl);clear v
      first
      | (go_simp
         first | exact rfl | exact⟨rfl,rfl⟩)
      | (go_at_call 91
         refine(E.o C ((rI _).fd I.o D) ((rS 4 _).fd ar.o D)).mono ?_;rintro y w5 ⟨rfl,S⟩;exact⟨rfl,D.trans (S.mono D.size)⟩))
  clear u O)
 with_reducible refine wpQuiet_nil ?_
 intro w2 u;have v:=ae (x.o.step u);have Z:=ae ((rI _).fd I.o u);have aT:=ae ((rS 4 _).fd ar.o u);clear u x I E;obtain⟨O,Q,S,T,U,V,W,Y⟩:=bY (v.o.blk 1 rfl);have ab:=ae (G.o w2 (v.o.stq 0 rfl) Z.o);clear G;go_wp2_with fail;refine ab.o.mono ?_;rintro F w3 ⟨v3,rfl,x,y⟩;obtain⟨u,E⟩:∃u,(bI f).length=u:=⟨_,rfl⟩;obtain⟨a3,c3,rfl⟩:=x.lenA;rw[E] at x ⊢;have G:=ae E;have ac:=ae (qg x);have I:=ae (v.o.step y);have aa:=ae ((rI _).fd Z.o y);have au:=ae ((rS 4 _).fd aT.o y);clear x y E v Z ab O Q S T U V W Y;obtain⟨O,Q,S,T,U,V,W,Y⟩:=bY (I.o.blk 1 rfl);have E:=ae (H.o w3 aa.o au.o);clear H;go_wp2_with fail;refine E.o.mono ?_;rintro F H ⟨bc,rfl,ag,y⟩;obtain⟨bd,be,rfl,-⟩:=ag.val;rw[aC,aq.o];have r:=(az H.heap.size H).alloc (aj _) (cells #[int i64 d] 3);have v:=y.trans (r.mono y.size);have ab:=ae (Blk.new H 3 #[int i64 d]);have x:=ae (I.o.step v);have av:=ae ((rI _).fd aa.o v);have aw:=ae ((rS 4 _).fd au.o v);have Z:=ae ((rI _).fu ac.o v);clear r y v ag I aa ac E O Q S T U V W Y;have aV:u<=64:=by rw[<-G.o];exact ap.o.2
 have aX:0<u:=by rw[<-G.o];exact ap.o.1
 have bi:¬(u:Int)=0:=by omega
 go_upto_region 8 with fail;generalize H.alloc (cells #[int i64 d] 3)=E at*;generalize H.heap.size=GP at*;have ac:PH (zO B f.n E 122 #[pointer (some ⟨GP,0,none⟩)] (λ_=>d)):=ae λb _ I y=>NP b GP d I (ab.o.chg y λp=>Md.not (Blk.ty ab.o) (by decide) (by decide) p.2);have ag:PH (∀v w,(callFunc 122 v).run prog w=.ok (.enter 122 v) w):=ae (enters_of func122 (by kernel_rfl) rfl);have ai:=ae (Jf (bI f) (Fu E) a3 u c3 g f m R X 122 #[pointer (some ⟨GP,0,none⟩)] (λ_=>d) E (x.o.stq 0 rfl) Z.o G.o ad.o (by omega) ag.o ac.o λb _=>by omega);have aa:PH (B<=E.heap.size):=ae (aP M.o.2 x.o.1.size);have ak:=ae λ(v:(bI f).all (λb=>iq m (X b) d (f.room b))=true) (I:World) (y:Below E.heap.size E I)=>Eh (bI f) a3 u c3 g f m R X 122 #[pointer (some ⟨GP,0,none⟩)] (λ_=>d) I ((x.o.step y).stq 0 rfl) ((rI _).more ((rI _).fu Z.o y) λa0 hb _=>hb.fd) G.o ad.o (fT f) ⟨M.o.1,aP aa.o y.size⟩ (by omega) ag.o (λb t I hV=>ac.o b t I ((ChgD.below y).trans hV)) λb t=>⟨by omega,all_eq_true.1 v b t⟩;clear ac ag ab;go_wp2_with fail;refine ai.o.mono ?_;rintro F a4 ⟨rfl,I⟩;cases v:(bI f).all (λb=>iq m (X b) d (f.room b)) with
 | false=>
   have y:=ae (x.o.1.trans (I.mono x.o.1.size));have ab:=ae v;clear ai ak v I;go_wp2_with fail;go_ret;exact .inl ⟨ab.o,rfl,y.o⟩
 | true=>
 have ag:=ae (ak.o v a4 I);have y:=ae I;clear ai ak I;have ab:=ae v;clear v;go_wp2_with fail;refine ag.o.mono ?_;rintro F ac ⟨rfl,ai,v⟩;have I:=ae (x.o.step y.o);have a5:=ae ai;have a6:=ae ((I.o.blk 1 rfl).chg v λp=>Md.not (Blk.ty (I.o.blk 1 rfl)) (by decide) (by decide) p.2);have ak:=ae ((rI _).chgD ((rI _).fd av.o y.o) v);have ax:=ae ((rS 4 _).chgD ((rS 4 _).fd aw.o y.o) v);have ay:=ae ((rI _).chgD ((rI _).more ((rI _).fu Z.o y.o) λa0 hb _=>hb.fd) v);have a0:PH (B<=ac.heap.size):=ae (aP aa.o (aP y.o.size v.size));have a7:PH (ChgT w ac):=ae ((ChgT.below I.o.1).trans (ChgT.ofD v));have a8:PH (Below B w ac):=ae ((I.o.1.mono M.o.2).trans (v.lo (aP aa.o y.o.size)));clear ai v ag y aa x I av aw Z;obtain⟨O,Q,S,T,U,V,W,Y⟩:=bY a6.o
 have v:=ae (JC (B:=B) m a g f (sU f m R X (λ_=>d) (bI f)) e l c j k n (bI f) a3 u c3 ac a5.o ⟨M.o.1,a0.o⟩ aE.o aB.o ak.o aR.o ax.o aF.o aK.o ay.o G.o aX aV (λb t=>gZ t) (λi t=>by
  refine⟨?_,aL.o i t⟩;rw[nz _ (fT f)];by_cases b:i∈bI f
  ·rw[bg b,aq.o]
   have x:=all_eq_true.1 ab.o i b;unfold iq at x;rw[Bool.or_eq_true,decide_eq_true_eq,decide_eq_true_eq] at x;have y:=(ad.o.hX i b).1;unfold sU;rw[bg b]
   dsimp only
   split
   ·rw[y,iJ];omega
   ·omega
  ·rw[bh b]
   unfold sU;rw[bh b];simp only[length_nil,Nat.add_zero];exact aD.o i t b))
 unfold bV at v;rw[<-aS.o] at v;generalize t:gX (lN a (bI f)) (sU f m R X (λ_=>d) (bI f))=Q0 at*;have I:=ae t;clear t ak ax ay;go_wp2_with fail;refine v.o.mono ?_;rintro F ai ⟨rfl,t,x,y⟩;have Z:=ae t;have aa:=ae (a8.o.trans x);have ag:=ae (a7.o.trans y);clear t x y v;go_wp2_with fail;go_ret;exact .inr ⟨ab.o,rfl,by rw[I.o];exact Z.o,aa.o,ag.o⟩
end
section
variable {B:Nat}
theorem sD(w:World)(i:TypeId)(g k c:Nat)(a:Array Value)(b:Blk w g 65 a)(hs:k+4<=a.size):
 (Builtin.clear_ #[66] i #[slice (some ⟨g,k,none⟩) 1 c]).run prog w=.ok (.tuple #[]) (w.setCells g k [.string .empty,int i64 0,int i64 0,slice none 0 0]):=by
 have d:=run_storeCells_cells (P:=prog) g k [.string .empty,int i64 0,int i64 0,slice none 0 0] 0 w (λe h=>by
  rw[b.cell];have h:e<4:=h;rw[Array.getElem?_eq_getElem (by omega)];rfl) (λe _=>b.frozen _) (by intro m e;simp at e;rcases e with rfl | rfl | rfl <;> rfl)
 simp only[Nat.add_zero] at d;have j:∀w,(zeroValue 65).run prog w=.ok (.agg #[.string .empty,int i64 0,int i64 0,slice none 0 0]) w:=Tryz.zeroValue65;have l:(Builtin.zeroCells #[Value.string .empty,int i64 0,int i64 0,slice none 0 0] 1).toList=[.string .empty,int i64 0,int i64 0,slice none 0 0]:=by kernel_rfl
 simp[Builtin.clear_,run_underlying underlying66,j,Value.cells,l,d]
theorem Ik{w:World}{C e k g n m c:Nat}{a:List Value}(b:w.ownsRow C e k (slice (some ⟨g,0,none⟩) n c) n a)(d:m<=n):w.ownsRow C e k (slice (some ⟨g,0,none⟩) m c) m (a.take (m*k)):=by
 have t:m*k<=n*k:=Nat.mul_le_mul_right _ d;have u:a.length=n*k:=b.1;refine⟨by rw[aG];omega,.inr ?_⟩;rcases b.2 with⟨e,_⟩ | ⟨v,x,h,e,i,j,y,l,p,q⟩
 ·cases e
 ·injection e with e _ r
  injection e with e;injection e with e;subst e r;refine⟨g,c,h,rfl,i,j,by omega,l,p,?_⟩;rw[<-q,take_take];congr 1;omega
theorem fZ{w:World}{C e k g n c j:Nat}{u:Value}{a:List Value}(b:w.ownsRow C e k (slice (some ⟨g,0,none⟩) n c) n a)(d:n*k<=j):(w.setCell ⟨g,j,none⟩ u).ownsRow C e k (slice (some ⟨g,0,none⟩) n c) n a:=by
 have h:=(World.ownsRow.stored b j u).1
 rwa [set_eq_of_length_le (by rw[b.1];exact d)] at h
theorem xO{w w':World}{o:Oper}{a:Act}{K:Act->World->Prop}{Q:Exit->Act->World->Prop}(h:o.guard=none)(s x:Operand){T:TypeId}{v u b:Value}
 (c:o.op=.call { callee:=.builtin .append,args:=#[s,x],argTypes:=#[T,T] })(hs:a.eval s=v)(d:a.eval x=u)(e:(Builtin.append_ #[T,T] o.type #[v,u]).run prog w=.ok b w')(g:K (a.put o.dst b) w'):
 Oper.wp prog o a w K Q:=by
 unfold Oper.wp execOp;simp only[c,resolve,invoke,builtin,Sem.run_bind,Sem.run_pure,Result.andThen_ok,map_toArray,map_cons,map_nil,hs,d,e];exact g
theorem Lh(C g n b c i j:Nat)(d:List Value)(w:World)(h:w.ownsRow C 65 4 (slice (some ⟨g,0,none⟩) n c) n d)(q:∀u∈d,u.oneCell'=true)(hi:i<n)(hn:n<=12)(Q:n=b+1)(G:j=i+1):
 Calls prog 116 #[slice (some ⟨g,0,none⟩) n c,int i64 i,int i64 j] w λa e=>a=returned (slice (some ⟨g,0,none⟩) b c)/\e.ownsRow C 65 4 (slice (some ⟨g,0,none⟩) b c) b (d.take (i*4)++d.drop (j*4))/\Chg (·=g) w e:=by
 obtain⟨Y,Z,hz,aa,ai⟩:=info_parts vJ
 have ak:n<=c/\c<=maxLen:=by
  rcases h.2 with⟨a,_⟩ | ⟨R,S,e,a,T,z,H,I,A,U⟩
  ·cases a
  ·injection a with a _ r
   subst r;exact⟨H,I⟩
 have J:d.length=n*4:=h.1;have D:(w.drew).ownsRow C 65 4 (slice (some ⟨g,0,none⟩) n c) n d:=h.drew
 have E:∀(l:Addr) (m:Nat),(n-j=0\/l=⟨g,j*4,none⟩)->∀p,∃k,(Builtin.append_ #[66,66] p #[slice (some ⟨g,0,none⟩) i c,slice (some l) (n-j) m]).run prog w.drew=.ok (slice (some ⟨g,0,none⟩) (i+(n-j)) c) k/\k.ownsRow C 65 4 (slice (some ⟨g,0,none⟩) (i+(n-j)) c) (i+(n-j)) (d.take (i*4)++d.drop (j*4))/\w.drew.grownBy k (some g):=λl m v p=>by
  refine run_append_fits (P:=prog) w.drew C 66 p 65 Y 4 underlying66 Z aa g i c (d.take (i*4)) (Ik D (by omega)) l (n-j) m (d.drop (j*4)) (by rw[length_drop,J,G];omega) (λab u t=> ?_) (λu t=> ?_) (by omega)
  ·rw[List.getElem?_drop] at t
   have l:=(List.getElem?_eq_some_iff.1 t).1;rcases v with v | rfl
   ·omega
   ·have q:=World.ownsRow.cellAt D (j*4+ab) (by omega)
    rw[Addr.add_lit];exact q.trans t
  ·exact q u (mem_of_mem_drop t)
 have al:(j:Int)<=(n:Int):=by omega
 have am:(n:Int)<=(c:Int):=by omega
 have V:(i:Int)<=(j:Int):=by omega
 have an:((i:Int) == (j:Int))=false:=by rw[beq_eq_false_iff_ne];omega
 have ao:¬(i:Int)=(j:Int):=by omega
 have ap:¬i=j:=by omega
 have l:((n-j:Nat):Int)=(n:Int)-(j:Int):=by omega
 have F:i+(n-j)=b:=by omega
 have aq:(i:Int)<=(c:Int):=by omega
 have ar:(b:Int)<=(n:Int):=by omega
 have au:¬c=b:=by omega
 have av:n-b=1:=by omega
 have aw:b+1<=c:=by omega
 clear l V;have V:(i:Int)<=(j:Int):=by omega
 by_cases ac:c=j
 ·have W:n-j=0:=by omega
  clear Q G;subst ac;obtain⟨k,v,l,x⟩:=E ⟨g,0,none⟩ 0 (.inl W) 66;rw[F] at v l;clear W
  have K:∃e,Blk k g 65 e/\e.size=c*4:=by
   rcases l.2 with⟨a,_⟩ | ⟨R,S,e,a,T,z,H,I,A,U⟩
   ·cases a
   ·injection a with a _ r
    injection a with a;injection a with a;subst a r;exact⟨e,z,A⟩
  obtain⟨e,y,L⟩:=K;have ad:=λp m=>sD k p g (b*4) m e y (by omega);have N:PH ((k.setCells g (b*4) [.string .empty,int i64 0,int i64 0,slice none 0 0]).ownsRow C 65 4 (slice (some ⟨g,0,none⟩) b c) b (d.take (i*4)++d.drop (c*4))):=ae (fZ (fZ (fZ (fZ l (by omega)) (by omega)) (by omega)) (by omega));have O:PH (Chg (·=g) w (k.setCells g (b*4) [.string .empty,int i64 0,int i64 0,slice none 0 0])):=ae (((((((Chg.of (M:=(·=g)) ((az _ w).drew))).trans (Chg.grown x λag a _=>by injection a with a;exact a.symm)).set ⟨g,b*4,none⟩ _ λ_=>rfl).set ⟨g,b*4+1,none⟩ _ λ_=>rfl).set ⟨g,b*4+2,none⟩ _ λ_=>rfl).set ⟨g,b*4+3,none⟩ _ λ_=>rfl);clear h q E D l y L x J F;go_enter func116,ntmps116;go_upto_region 5 with fail
  go_region_law (
   change (if _=true then Oper.wp _ (Oper.mk (some 26) _ _ _ _ _) _ _ _ _ else _);refine qA rfl ?_;refine xO (w:=w.drew) rfl (.tmp 22) (.tmp 25) rfl (by go_simp) (by go_simp) v ?_;go_simp)
  all_goals(
   go_wp2_with fail;go_ret;exact⟨rfl,N.o,O.o⟩)
 ·clear Q G
  obtain⟨k,v,l,x⟩:=E ⟨g,j*4,none⟩ (c-j) (.inr rfl) 66;rw[F] at v l
  have K:∃e,Blk k g 65 e/\e.size=c*4:=by
   rcases l.2 with⟨a,_⟩ | ⟨R,S,e,a,T,z,H,I,A,U⟩
   ·cases a
   ·injection a with a _ r
    injection a with a;injection a with a;subst a r;exact⟨e,z,A⟩
  obtain⟨e,y,L⟩:=K;have ad:=λp m=>sD k p g (b*4) m e y (by omega);have N:PH ((k.setCells g (b*4) [.string .empty,int i64 0,int i64 0,slice none 0 0]).ownsRow C 65 4 (slice (some ⟨g,0,none⟩) b c) b (d.take (i*4)++d.drop (j*4))):=ae (fZ (fZ (fZ (fZ l (by omega)) (by omega)) (by omega)) (by omega));have O:PH (Chg (·=g) w (k.setCells g (b*4) [.string .empty,int i64 0,int i64 0,slice none 0 0])):=ae (((((((Chg.of (M:=(·=g)) ((az _ w).drew))).trans (Chg.grown x λag a _=>by injection a with a;exact a.symm)).set ⟨g,b*4,none⟩ _ λ_=>rfl).set ⟨g,b*4+1,none⟩ _ λ_=>rfl).set ⟨g,b*4+2,none⟩ _ λ_=>rfl).set ⟨g,b*4+3,none⟩ _ λ_=>rfl);clear h q E D l y L x J F;go_enter func116,ntmps116;go_upto_region 5 with fail
  go_region_law (
   change (if _=true then Oper.wp _ (Oper.mk (some 26) _ _ _ _ _) _ _ _ _ else _);refine qA rfl ?_;refine xO (w:=w.drew) rfl (.tmp 22) (.tmp 25) rfl (by go_simp) (by go_simp) v ?_;go_simp)
  all_goals(
   go_wp2_with fail;go_ret;exact⟨rfl,N.o,O.o⟩)
theorem Li{F:Nat->Prop}(C g n h c i j:Nat)(L:List cN)(w:World)(D:OwnS w C 65 4 F (slice (some ⟨g,0,none⟩) n c) (L.map bQ))(v:L.length=n)(q:i<n)(E:n<=12)(G:n=h+1)(H:j=i+1):
 Calls prog 116 #[slice (some ⟨g,0,none⟩) n c,int i64 i,int i64 j] w λa m=>a=returned (slice (some ⟨g,0,none⟩) h c)/\OwnS m C 65 4 F (slice (some ⟨g,0,none⟩) h c) ((L.eraseIdx i).map bQ)/\Chg (·=g) w m:=by
 obtain⟨b,r,t⟩:=D;rw[aC,v] at r;have N:b.length=n*4:=r.1
 have I:∀d∈b,d.oneCell'=true:=λd e=>by
  obtain⟨d,J,rfl⟩:=bC e;have q:d/4<L.length:=(by omega);obtain⟨O,Q,a,-⟩:=nI (t (d/4) (bQ (L.getD (d/4) bO)) (by rw[List.getElem?_map,af,ah q];rfl));have k:((b.drop (d/4*4)).take 4)[d%4]? =some b[d]:=(by rw[List.getElem?_take,bg (by omega),List.getElem?_drop,show d/4*4+d%4=d by omega,ah J]);rw[a] at k;have x:=mem_of_getElem? k;simp only[mem_cons,not_mem_nil,or_false] at x;rcases x with a | a | a | a <;> rw[a] <;> rfl
 refine(Lh C g n h c i j b w r I q E G H).mono ?_;rintro a m ⟨rfl,K,y⟩;refine⟨rfl,⟨_,by rw[aC,length_eraseIdx,bg (by omega),v,show n-1=h by omega];exact K,λl R z=> ?_⟩,y⟩;rw[List.getElem?_map,Option.map_eq_some_iff] at z;obtain⟨a,p,rfl⟩:=z;rw[List.getElem?_eraseIdx] at p;have A:∀e,(F e/\some e≠(Value.slice (some ⟨g,0,none⟩) n c).ownBlock)->e<w.heap.size->m.heap[e]? =w.heap[e]? /\(F e/\some e≠(Value.slice (some ⟨g,0,none⟩) h c).ownBlock):=λe u M=>⟨y.block e M λa=>u.2 (by rw[a];rfl),u.1,u.2⟩;split at p
 ·rename_i M
  have k:=t l (bQ a) (by rw[List.getElem?_map,p];rfl)
  have e:((b.take (i*4)++b.drop (j*4)).drop (l*4)).take 4=(b.drop (l*4)).take 4:=by
   have u:(b.take (i*4)).length=i*4:=(by rw[aG];omega);rw[drop_append_of_le_length (by omega),take_append_of_le_length (by rw[length_drop];omega),drop_take,take_take];congr 1;omega
  rw[e];exact(bQ a).keep k A
 ·rename_i M
  have k:=t (l+1) (bQ a) (by rw[List.getElem?_map,p];rfl)
  have e:((b.take (i*4)++b.drop (j*4)).drop (l*4)).take 4=(b.drop ((l+1)*4)).take 4:=by
   have u:(b.take (i*4)).length=i*4:=(by rw[aG];omega);rw[drop_append,drop_eq_nil_of_le (by omega),nil_append,drop_drop,u];congr 2;omega
  rw[e];exact(bQ a).keep k A
end
section
variable {B:Nat}
theorem JH(s o m K H Z ex c g n r q:Nat)(f:Fl)(S:ByteArray)(es:List cN)(R:Nat->List PI)(X:Nat->List (Option cJ×PI))(w:World)(hN:f.n=c)(h:Stq B w g f (df s o K H Z ex c es) R)(hB:B<=g/\B<=w.heap.size)(al:s+1=m)(am:s<=100000)(T:es.length=n)(an:n<=12)(ao:n=r+1)(aA:q<n)(ap:mE (rz S) es=(q:Nat))(aq:∀e∈es,e.tries.length<=1000)(ar:OE f (df s o K H Z ex c es) R X (bI f))(hm:il (df m o K H Z ex c (es.eraseIdx q)))(hp:jV (df m o K H Z ex c (es.eraseIdx q)))
 (au:0<(bI f).length)(U:∀i,i<f.n->f.room i<=512)(av:∀i,i<f.n->i∉bI f->(R i).length<=f.room i):
 Calls prog 53 #[pointer (some ⟨g,0,none⟩),.string S] w λF w'=>((bI f).all (λa=>iq (df s o K H Z ex c es) (X a) (bJ (df m o K H Z ex c (es.eraseIdx q))).length (f.room a))=false/\F=returned (int i64 7)/\Below w.heap.size w w')\/((bI f).all (λa=>iq (df s o K H Z ex c es) (X a) (bJ (df m o K H Z ex c (es.eraseIdx q))).length (f.room a))=true/\F=returned (int i64 0)/\Stq B w' g f (df m o K H Z ex c (es.eraseIdx q)) (gX (lN (df m o K H Z ex c (es.eraseIdx q)) (bI f)) (sU f (df s o K H Z ex c es) R X (λ_=>(bJ (df m o K H Z ex c (es.eraseIdx q))).length) (bI f)))/\Below B w w'/\ChgT w w'):=by
 have k:PH (Sx w w [jW B g f (df s o K H Z ex c es) R]):=ae ((Sx.nil w).add (jW B g f (df s o K H Z ex c es) R) h);have t:=ae λw (h:Stq B w g f (df s o K H Z ex c es) R)=>AK g f (df s o K H Z ex c es) R w h;have b:=λw (h:Stq B w g f (df s o K H Z ex c es) R)=>BV S g f (df s o K H Z ex c es) R w h (by show es.length<=100;omega);rw[show mE (rz S) (df s o K H Z ex c es).objs=(q:Nat) from ap] at b;have u:=ae b;have aK:c<=64:=by rw[<-hN];exact h.n0.2
 have j:=ae λw (A C:PK) (D E:Nat) (d:(rI (range c)).ok w (Fu w) [slice A c D]) (a:(rS 4 (es.map bQ)).ok w (Fu w) [slice C n E])=>KG (df s o K H Z ex c es) A C c D n E (Fu w) w d aZ (by omega) a T an aq;have l:(es.eraseIdx q).length=r:=by rw[length_eraseIdx,bg (by omega),T];omega
 have M:=ae λw (A C:PK) (D E:Nat) (h:Stq B w g f (df s o K H Z ex c es) R) (v:B<=w.heap.size) (d:(rI (range c)).ok w (Fd w) [slice A c D]) (a:(rS 4 ((es.eraseIdx q).map bQ)).ok w (Fd w) [slice C r E])=>Lj (df s o K H Z ex c es) (df m o K H Z ex c (es.eraseIdx q)) g f R X A C c D r E w h ⟨hB.1,v⟩ (by rw[hN];rfl) l ar al am d aZ a hm hp au U av;have aL:IntKind.i64.wrap ((q:Int)+1)=((q+1:Nat):Int):=by rw[IntKind.wrap_i64];omega
 have aM:¬(q:Int)<0:=by omega
 have V:=ae T;have aB:=ae ao;have aD:IntKind.i64.wrap ((s:Int)+1)=(m:Int):=by rw[IntKind.wrap_i64];omega
 have aE:¬(2147483647:Int)<=(s:Int):=by omega
 have HB:=ae hB;have aF:=ae h;clear h hB al am hm hp au U av b hN T aq ar ap l ao;unfold bV at j M;unfold df at j M ⊢;simp only at j M ⊢;go_enter func53,ntmps53;go_wp2_with fail;refine(t.o w (k.o.stq 0 rfl)).mono ?_;rintro e' w1 ⟨rfl,b⟩;have l:=ae (k.o.step b);clear b t k;go_wp2_with fail;refine(u.o w1 (l.o.stq 0 rfl)).mono ?_;rintro e' y ⟨rfl,b⟩;have N:=ae (l.o.step b);clear b u l;obtain⟨-,⟨vd,vo,k,d,a⟩,-⟩:=N.o.stq 0 rfl;obtain⟨A,D,rfl,-⟩:=dI d (n:=c) aZ;obtain⟨C,t,E,rfl⟩:=kO a;obtain rfl:t=n:=by have h:=Cs a;rw[aC] at h;exact h.symm.trans V.o
 obtain⟨z,W,Y,k3,k4,k5,k6,k7,-⟩:=fS k;unfold df at z W Y k3 k4 k5;simp only at z W Y k3 k4 k5;have aa:=ae (j.o y A C D E d a);clear k d a j;generalize a:(s:Int)=G at z aa aD aE;clear a;go_wp2_with fail;refine aa.o.mono ?_;rintro F k ⟨v3,aO,rfl,J,L,Q⟩;obtain⟨v,x,rfl⟩:=J.lenA;rw[aZ] at J ⊢;obtain⟨d6,d,l,-,rfl,-,ak,-⟩:=Eb L (by rw[V.o];omega);rw[V.o] at L ⊢;have j:=(az k.heap.size k).alloc (aj _) (cells #[int i64 G,int i64 o,int i64 K,int i64 H,int i64 Z,int i64 ex,slice v c x,slice (some ⟨d,0,none⟩) t l] 68);have u:=ae (Blk.new k 68 #[int i64 G,int i64 o,int i64 K,int i64 H,int i64 Z,int i64 ex,slice v c x,slice (some ⟨d,0,none⟩) t l])
 have ab:OwnS k y.heap.size 65 4 (λa=>a<k.heap.size/\Ty 3 k a) (slice (some ⟨d,0,none⟩) t l) (es.map bQ):=by
  obtain⟨cs,g1,g2⟩:=L;exact⟨cs,g1,λi R I=>R.more (g2 i R I) λa b I=>⟨⟨I,b.1.1⟩,b.2⟩⟩
 have ac:PH (OwnS (k.alloc (cells #[int i64 G,int i64 o,int i64 K,int i64 H,int i64 Z,int i64 ex,slice v c x,slice (some ⟨d,0,none⟩) t l] 68)) y.heap.size 65 4 (λa=>a<k.heap.size/\Ty 3 k a) (slice (some ⟨d,0,none⟩) t l) (es.map bQ)):=ae (ab.keepAt (λa b=>j.block a (ab.lt a b).2) λa b _ I=>j.block a I);have ad:=ae (J.below j);have aw:=ae (N.o.1.trans ((Q.trans (j.mono Q.size)).mono N.o.1.size));have ag:PH (w.heap.size<=d/\w.heap.size<=k.heap.size):=ae ⟨aP N.o.1.size ak,aP N.o.1.size Q.size⟩;have aR:PH (∀ai,(∀a,a<k.heap.size->Ty 3 k a->ai.heap[a]? =k.heap[a]?)->∀a,a<k.heap.size->Ty 3 k a->Ty 3 ai a):=ae λai hW a O I=>I.keep (hW a O I);clear J L ab Q aa z W Y k3 k4 k5 k6 k7 ak;go_upto_region 9 with fail;have Q:PH (∀a,a<k.heap.size->(k.alloc (cells #[int i64 G,int i64 o,int i64 K,int i64 H,int i64 Z,int i64 ex,slice v c x,slice (some ⟨d,0,none⟩) t l] 68)).heap[a]? =k.heap[a]?):=ae λa b=>j.block a b;clear j;generalize k.alloc (cells #[int i64 G,int i64 o,int i64 K,int i64 H,int i64 Z,int i64 ex,slice v c x,slice (some ⟨d,0,none⟩) t l] 68)=z at*;generalize k.heap.size=j at*;have x0:z.cell? ⟨j,0,none⟩=some (int i64 G):=u.o.cell 0;have Y:=u.o.frozen 0;have L:PH (Blk (z.setCell ⟨j,0,none⟩ (int i64 m)) j 68 #[int i64 m,int i64 o,int i64 K,int i64 H,int i64 Z,int i64 ex,slice v c x,slice (some ⟨d,0,none⟩) t l]):=ae (by simpa using u.o.set 0 (int i64 m));have J:∀a,a≠j->(z.setCell ⟨j,0,none⟩ (int i64 m)).heap[a]? =z.heap[a]? :=λa b=>bE _ _ _ a b;have ab:PH (OwnS (z.setCell ⟨j,0,none⟩ (int i64 m)) y.heap.size 65 4 (λa=>a<j/\Ty 3 k a) (slice (some ⟨d,0,none⟩) t l) (es.map bQ)):=ae (ac.o.keepAt (λa b=>J a ((ac.o.ownTy a b).ne3 (Blk.ty u.o) (by decide))) λa b _ _=>J a (Nat.ne_of_lt b.1));have W:PH (OwnI (z.setCell ⟨j,0,none⟩ (int i64 m)) y.heap.size (slice v c x) (range c)):=ae (ad.o.keepO λa b=>J a λe=>Ty.ne2 e (ad.o.ty a b) (Blk.ty u.o) (by decide));have ai:PH (Below w.heap.size w (z.setCell ⟨j,0,none⟩ (int i64 m))):=ae (aw.o.setCell (p:=⟨j,0,none⟩) ag.o.2 _);have ak:PH (∀a,a<j->(z.setCell ⟨j,0,none⟩ (int i64 m)).heap[a]? =k.heap[a]?):=ae λa b=>(J a (Nat.ne_of_lt b)).trans (Q.o a b);clear J ac ad aw Q;go_upto_region 10 with fail;clear x0 Y u;generalize z.setCell ⟨j,0,none⟩ (int i64 m)=w5 at*
 have Y:w5.cell? ⟨j,7,none⟩=some (slice (some ⟨d,0,none⟩) t l):=L.o.cell 7;have CD:=ae (Li y.heap.size d t r l q (q+1) es w5 ab.o V.o aA an aB.o rfl);have aa:PH (Ty 65 w5 d):=ae (ab.o.ownTy d rfl);go_wp2_with fail;refine CD.o.mono ?_;rintro F u ⟨rfl,aw,Q⟩;have ac:=ae aw;have J:=ae (L.o.chg Q ((Blk.ty L.o).ne3 aa.o (by decide)));have ad:PH (OwnI u y.heap.size (slice v c x) (range c)):=ae (W.o.keepO λa b=>Q.block a (W.o.lt a b).2 ((W.o.ty a b).ne3 aa.o (by decide)));have ax:PH (Below w.heap.size w u):=ae (ai.o.trans (Q.below (by have:=ai.o.size;exact this) λay e=>by rw[e];exact ag.o.1));have ay:PH (∀a,a<j->Ty 3 k a->u.heap[a]? =k.heap[a]?):=ae λa b ht=>(Q.block a (aW b (Nat.le_of_lt L.o.lt)) ((ht.keep (ak.o a b)).ne3 aa.o (by decide))).trans (ak.o a b);clear aw Q CD L ab W ai ak aa Y;have Y:u.cell? ⟨j,7,none⟩=some (slice (some ⟨d,0,none⟩) t l):=J.o.cell 7;have W:=J.o.frozen 7;have aa:PH (Blk (u.setCell ⟨j,7,none⟩ (slice (some ⟨d,0,none⟩) r l)) j 68 #[int i64 m,int i64 o,int i64 K,int i64 H,int i64 Z,int i64 ex,slice v c x,slice (some ⟨d,0,none⟩) r l]):=ae (by simpa using J.o.set 7 (slice (some ⟨d,0,none⟩) r l));have Q:∀a,a≠j->(u.setCell ⟨j,7,none⟩ (slice (some ⟨d,0,none⟩) r l)).heap[a]? =u.heap[a]? :=λa b=>bE _ _ _ a b;have ab:PH (OwnI (u.setCell ⟨j,7,none⟩ (slice (some ⟨d,0,none⟩) r l)) y.heap.size (slice v c x) (range c)):=ae (ad.o.keepO λa b=>Q a λe=>Ty.ne2 e (ad.o.ty a b) (Blk.ty J.o) (by decide))
 have ai:PH (OwnS (u.setCell ⟨j,7,none⟩ (slice (some ⟨d,0,none⟩) r l)) y.heap.size 65 4 (Fu (u.setCell ⟨j,7,none⟩ (slice (some ⟨d,0,none⟩) r l))) (slice (some ⟨d,0,none⟩) r l) ((es.eraseIdx q).map bQ)):=ae (by
  have h:=ac.o.keepAt (w':=u.setCell ⟨j,7,none⟩ (slice (some ⟨d,0,none⟩) r l)) (λa b=>Q a ((ac.o.ownTy a b).ne3 (Blk.ty J.o) (by decide))) λa b _ _=>Q a (Nat.ne_of_lt b.1);exact h.base (aj _) λa b=>Mt.not (b.2.keep ((Q a (Nat.ne_of_lt b.1)).trans (ay.o a b.1 b.2))) (by decide) (by decide) (by decide))
 have L:PH (Below w.heap.size w (u.setCell ⟨j,7,none⟩ (slice (some ⟨d,0,none⟩) r l))):=ae (ax.o.setCell (p:=⟨j,7,none⟩) ag.o.2 _);clear ad ax ac Q ay;go_upto_region 11 with fail;clear Y W J;generalize u.setCell ⟨j,7,none⟩ (slice (some ⟨d,0,none⟩) r l)=Q at*;obtain⟨x0,x1,x2,x3,x4,x5,x6,Y⟩:=bY aa.o;have J:=ae (M.o Q v (some ⟨d,0,none⟩) x l (aF.o.below L.o) (aP HB.o.2 L.o.size) ((rI _).more (qg ab.o) λa b _=>b.fd) ((rS 4 _).more (ai.o.repU (by decide)) λa b _=>b.fd));clear M;go_wp2_with fail;refine J.o.mono ?_;rintro F w8 a;have M:=ae a;clear a J
 obtain⟨J,rfl⟩:∃J,F=returned (int i64 J):=by
  rcases M.o with h | h
  ·exact⟨_,h.2.1⟩
  ·exact⟨_,h.2.1⟩
 go_wp2_with fail;go_ret;rcases M.o with⟨O,I,a⟩ | ⟨O,I,a,W,U⟩
 ·exact .inl ⟨O,I,L.o.trans (a.mono L.o.size)⟩
 ·exact .inr ⟨O,I,a,(L.o.mono HB.o.2).trans W,(ChgT.below L.o).trans U⟩
end
section
variable {B:Nat} {P:PaF}
structure FlF (P:PaF) (f:Fl):Prop where
 hN:f.n=P.N
 hz:∀i,f.Z i=false
 rm:∀i,i<f.n->f.room i=P.r
theorem FlF.live{f:Fl}(a:FlF P f):bI f=range P.N:=by
 unfold bI;rw[a.hN];exact filter_eq_self.2 λb _=>by rw[a.hz];rfl
def Ll(B ga:Nat)(w w':World):Prop:=Below B w w'/\Chg (λa=>Mt w a\/a=ga) w w'
def ArcF(B:Nat)(P:PaF)(f:Fl)(ga s o:Nat)(ps:List ObF)(es:List cN)(w:World):Prop:=
 ∃X a b,InvF P s o ps es X/\Stq B w a f (eO P s o es) (λc=>(X c).map (yf P))/\Blk w ga 80 (iZ f.p a b)/\B<=a/\B<=ga
section
variable {f:Fl} {ga s o:Nat} {ps:List ObF} {es:List cN} {X:Nat->List wW}
theorem ArcF.below{w w':World}(c:ArcF B P f ga s o ps es w)(a:Below w.heap.size w w'):ArcF B P f ga s o ps es w':=by
 obtain⟨X,d,e,g,h,b,i⟩:=c;exact⟨X,d,e,g,h.below a,b.below a b.lt,i⟩
theorem InvF.man(a:InvF P s o ps es X):il (eO P s o es)/\jV (eO P s o es):=by
 have b:=a.hs;have c:=a.ho;exact⟨a.okEs.man a.hP ⟨b.1,by omega⟩ (by omega),(a.okEs.pq a.hP).1⟩
theorem InvF.kpL(a:InvF P s o ps es X){i:Nat}(b:i<P.N):zq (eO P s o es) ((X i).map (vC P ps))=(qJ P s o ps es i).map (yf P):=by
 unfold zq qJ;rw[a.cnt b,aU,map_map,map_map];congr 1;exact(map_id _).symm
theorem InvF.kpF(c:InvF P s o ps es X)(d:FlF P f):OE f (eO P s o es) (λa=>(X a).map (yf P)) (λa=>(X a).map (vC P ps)) (bI f):=by
 have e:=c.man;refine⟨e.1,e.2,λb a=>gZ a,λb a=> ?_,λb a=> ?_⟩
 ·rw[d.live] at a
  exact⟨(AU P ps (X b)).symm,c.okR (bA.1 a)⟩
 ·rw[d.rm b (gZ a).1]
  have:=c.hP.hr;omega
theorem InvF.mkR(c:InvF P s o ps es X)(a:FlF P f)(n:Nat->Nat){i:Nat}(b:i<P.N):sU f (eO P s o es) (λi=>(X i).map (yf P)) (λi=>(X i).map (vC P ps)) n (bI f) i=(xG P s o ps es X n i).map (yf P):=by
 unfold sU xG;rw[a.live,bg (bA.2 b),aC,a.rm i (by rw[a.hN];exact b),c.kpL b];split <;> rfl
theorem InvF.fitX(d:InvF P s o ps es X)(c:FlF P f){n:Nat->Nat}(e:∀i,i<P.N->iq (eO P s o es) ((X i).map (vC P ps)) (n i) (f.room i)=true):Po P s o ps es X n:=by
 intro i a;have b:=e i a;unfold iq at b;rw[Bool.or_eq_true,decide_eq_true_eq,decide_eq_true_eq,d.kpL a,aC,aC,c.rm i (by rw[c.hN];exact a)] at b;exact b
theorem Lm{es:List cN}(b:es.Pairwise λa c=>a.name.toList<c.name.toList):nZ es:=by
 intro a c;rw[pairwise_iff_getElem] at b;have d:=b a (a+1) (by omega) c (by omega);rw[bytesLess_eq,decide_eq_true_eq];simpa[af,c,show a<es.length by omega] using d
theorem pG{a b:ByteArray}(c:a.toList=b.toList):a=b:=by
 rw[ByteArray.toList_eq,ByteArray.toList_eq] at c;exact ByteArray.ext (Array.toList_inj.1 c)
theorem DX{es:List cN}(hs:rW es)(d:(es.map cN.name).Nodup):nZ es:=by
 intro a c;have e:=hs a c;rw[bytesLess_eq,decide_eq_true_eq]
 have g:¬((es.getD (a+1) bO).name.toList<(es.getD a bO).name.toList):=by
  intro b
  have:Sort.ltStr (es.getD (a+1) bO).name.toList (es.getD a bO).name.toList=true:=by
   unfold Sort.ltStr;exact bf b
  rw[e] at this;cases this
 have h:(es.getD a bO).name≠(es.getD (a+1) bO).name:=by
  rw[List.Nodup,pairwise_map,pairwise_iff_getElem] at d;have i:=d a (a+1) (by omega) c (by omega);simpa[af,c,show a<es.length by omega] using i
 by_cases b:(es.getD a bO).name.toList<(es.getD (a+1) bO).name.toList
 ·exact b
 ·exact absurd (pG (List.le_antisymm (List.not_lt.1 g) (List.not_lt.1 b))) h
theorem InvF.idx(d:InvF P s o ps es X){q:ObF}(g:q∈ps):∃a,a<es.length/\es.getD a bO=q.ent/\mE (rz q.nm) es=(a:Nat):=by
 have h:q.ent∈es:=d.pm.mem_iff.2 (aY.2 ⟨q,g,rfl⟩);obtain⟨a,b,c⟩:=bC h;refine⟨a,b,by simpa[af,b] using c,tz b ?_ λi j=> ?_⟩
 ·rw[c]
  unfold rz;exact beq_self_eq_true _
 ·unfold rz
  rw[beq_eq_false_iff_ne];intro k;have e:=d.enm;rw[List.Nodup,pairwise_map,pairwise_iff_getElem] at e;refine e i a (by omega) b j ?_;rw[c];exact pG k
theorem InvF.noNm(b:InvF P s o ps es X){a:ByteArray}(c:∀q∈ps,q.nm≠a):∀e∈es,rz a e=false:=by
 intro e d;obtain⟨q,g,rfl⟩:=b.emem d;unfold rz;rw[beq_eq_false_iff_ne];exact λh=>c q g (pG h)
theorem vY:∀ {ps:List ObF},(ps.Pairwise λa b=>a.o<b.o)->∀ {q:ObF},q∈ps->ps.Perm (q :: ps.filter λb=> !(b.o == q.o))
 | a :: ps,ri,q,hq=>by
   obtain⟨c,d⟩:=pairwise_cons.1 ri;rcases mem_cons.1 hq with rfl | hq
   ·rw[filter_cons_of_neg (by simp),filter_all λb e=>by
     have:=c b e;rw[Bool.not_eq_true',beq_eq_false_iff_ne];omega]
   ·have:=c q hq
    rw[filter_cons_of_pos (by rw[Bool.not_eq_true',beq_eq_false_iff_ne];omega)];exact((vY d hq).cons a).trans (List.Perm.swap q a _)
theorem InvF.eraseP(d:InvF P s o ps es X){q:ObF}(h:q∈ps){b:Nat}(e:b<es.length)(i:es.getD b bO=q.ent):(es.eraseIdx b).Perm ((ps.filter λc=> !(c.o == q.o)).map ObF.ent)/\nZ (es.eraseIdx b):=by
 constructor
 ·have g:(es[b] :: es.eraseIdx b).Perm es:=by
   have c:=(perm_middle (a:=es[b]) (l₁:=es.take b) (l₂:=es.drop (b+1))).symm;rw[<-drop_eq_getElem_cons e,take_append_drop] at c;rw[eraseIdx_eq_take_drop_succ];exact c
  have j:es[b]=q.ent:=(by simpa[af,e] using i);rw[j] at g;have c:=(vY d.ri h).map ObF.ent;rw[map_cons] at c;exact(g.trans (d.pm.trans c)).cons_inv
 ·exact Lm ((zV d.re).sublist (eraseIdx_sublist _ _))
end
end
