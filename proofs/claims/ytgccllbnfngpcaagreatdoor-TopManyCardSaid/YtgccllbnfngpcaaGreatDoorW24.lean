import Derived.Test.YtgccllbnfngpcaaGreatDoorW23
set_option linter.unusedVariables false
set_option maxRecDepth 100000
set_option maxHeartbeats 400000000
namespace Go.Proofs.YtgccllbnfngpcaaGreatDoor
open Go.RowKit _root_.Go.Proofs.Tryz List
open Value (int slice pointer bool)
open IntKind (i64)
open Ending (returned)
open Obj (cells)
section
variable {B:Nat}
theorem JL{K H Z ex nb:Nat}{T l:List Nat}{f:Fl}{ords:Nat->List Nat}(hk:eD K H Z=true)(hb:By l)(hT:wI K H Z 0 nb T)(hp:∀i,i<nb->(ords i).Perm (bH f))(hlv:0<(bH f).length):∀x∈eC K H Z ex 0 T l ords nb,(x.1<f.n/\f.Z x.1=false)/\x.2.length=64:=by
 intro x hx;have hok:=aZ hk;obtain⟨y,hy,hxy⟩:=mem_flatten.1 hx;obtain⟨i,hi,rfl⟩:=aW.1 hy;have hi:=bA.1 hi;obtain⟨id,_,rfl⟩:=aW.1 hxy;refine⟨?_,?_⟩
 ·have h0:0<(ords i).length:=by rw[(hp i hi).length_eq];exact hlv
  have h1:id%(ords i).length<(ords i).length:=Nat.mod_lt _ h0
  have h2:(ords i).getD (id%(ords i).length) 0∈bH f:=by
   rw[af,ag h1];exact(hp i hi).mem_iff.1 (aP h1)
  exact ek h2
 ·have hm:MidOK K H Z (ky 0 T i:Nat) (nW K H Z 0 T l i):=(mO hk (fR (q:=K*Z) i hb).2 (fR i hb).1 (hT.2 i hi).2.1).2.1
  exact je (by rw[kX,jX hk hm id];omega)
theorem q_put(K H Z ex N g:Nat)(f:Fl)(nm:ByteArray)(R:Nat->List (List Nat))(l:List Nat)(a:Option Addr)(n nb c:Nat)(w:World)(hN:f.n=N)(h:Stq B w g f (bX K H Z ex N) R)(hvo:w.cell? ⟨g,7,none⟩=some (slice none 0 0))(hB:B<=g/\B<=w.heap.size)(hk:eD K H Z=true)(hex:ex<=16)(hnm:kP nm)(hlv:0<(bH f).length)
 (hx:Rd w w.heap.size a n (bF l))(hb:By l)(hn:n<=1000)(hn8:n<=K*Z*8)(hnc:n<=c/\c<=maxLen)(hnb:iB (K*Z) n=nb)(hnb8:1<=nb/\nb<=8)(hm:∀T,wI K H Z 0 nb T->lf (dM K H Z ex N ⟨nm,0,n,T⟩)/\lT (dM K H Z ex N ⟨nm,0,n,T⟩))
 (hroom:∀T ords,wI K H Z 0 nb T->(∀i,i<nb->(ords i).Perm (bH f))->∀i,i<f.n->(R i).length+(jE (eC K H Z ex 0 T l ords nb) i).length+(bM (dM K H Z ex N ⟨nm,0,n,T⟩)).length<=f.room i/\f.room i<=512):
 Calls prog 51 #[pointer (some ⟨g,0,none⟩),.string nm,slice a n c] w fun e w'=>(e=returned (int i64 8)/\(∃b,b<nb/\noT K H Z 0 b)/\Below w.heap.size w w')\/(e=returned (int i64 0)/\∃T ords,wI K H Z 0 nb T/\(∀i,i<nb->(ords i).Perm (bH f))/\Stq B w' g f (dM K H Z ex N ⟨nm,0,n,T⟩) (iA (nY (dM K H Z ex N ⟨nm,0,n,T⟩) (bH f)) (iA (eC K H Z ex 0 T l ords nb) R))/\Below B w w'/\ChgT w w'):=by
 have S0:Hid (Sx w w [jI B g f (bX K H Z ex N) R,kT a n (bF l)]):=ae (((Sx.nil w).add (kT a n (bF l)) hx).add (jI B g f (bX K H Z ex N) R) h);have CR:=ae (FY nm g f (bX K H Z ex N) R a n c w h hnm (by intro e he;simp[bX] at he) (by show(0:Nat)<12;omega) hlv hk hn8 (by show(0:Nat)<=16777215;omega) (by show(1:Nat)<2147483647;omega));have CC:=ae fun w=>kN K H Z n w hk (by omega);rw[hnb] at CC;have CT:=ae fun w=>NS K H Z 0 nb w hk (by omega) hnb8.2;have CRC:=ae fun (T:List Nat) (hT:wI K H Z 0 nb T) (at_:Option Addr) (ct:Nat) (w:World) (h:Stq B w g f (bX K H Z ex N) R) (hx:Rd w w.heap.size a n (bF l)) (htr:(rI T).ok w (Fu w) [slice at_ nb ct])=>Gu (bX K H Z ex N) 0 g f R nm T l a at_ n nb c ct w h hk hex (by omega) hT hnb hnb8.2 hlv hx hb hn hnc htr;have CW:=ae fun (T:List Nat) (hT:T.length=nb) (a1 at_:Option Addr) (c1 ct:Nat) (F:Nat->Prop) (w:World) (hd:(rI (range N)).ok w F [slice a1 N c1]) (htr:(rI T).ok w (Fm w) [slice at_ nb ct])=>Oo K H Z ex N ⟨nm,0,n,T⟩ a1 at_ c1 ct F w (by have:=h.n0.2;omega) hd (by rw[hT];exact htr);have CL:=ae fun w (h:Stq B w g f (bX K H Z ex N) R)=>kR g f (bX K H Z ex N) R w h;have HK:=ae hk;have HVO:Hid (w.cell? ⟨g,7,none⟩=some (slice none 0 0)/\g<w.heap.size):=ae ⟨hvo,by obtain⟨-,⟨_,_,hst,-⟩,-⟩:=h;exact hst.lt⟩;have HM:=ae hm;have HRM:=ae hroom;have HB:=ae hB;have HN:=ae hN;have hok0:=aZ hk;have hl0:l.length=n:=by have:=hx.len;rwa [bI] at this
 have HPI:Hid (∀T ords,wI K H Z 0 nb T->(∀i,i<nb->(ords i).Perm (bH f))->∀x∈eC K H Z ex 0 T l ords nb,(x.1<f.n/\f.Z x.1=false)/\x.2.length=64):=ae fun T ords hT hp=>JL hk hb hT hp hlv;have HPL:Hid (∀T ords,(eC K H Z ex 0 T l ords nb).length=nb*(K+ex)/\1<=nb*(K+ex)/\nb*(K+ex)<=256):=ae fun T ords=>⟨xw _ _ _ _ _ _ _ _ _,bn hnb8.1 (show 1<=K+ex by omega),bn hnb8.2 (show K+ex<=32 by omega)⟩;have HLN:Hid (0<(bH f).length/\(bH f).length<=64):=ae ⟨hlv,jd h.n0.2⟩;clear hok0 hl0;unfold cE at CC CT;unfold gK at CRC CW;clear h hvo hx hk hnm hn8 hnb hm hroom hB hb hnc hN hnb8 hlv hex;go_enter func51,ntmps51;go_wp2_with fail;refine CR.out.mono ?_;rintro e w1 ⟨rfl,hb1⟩;have S1:=ae (S0.out.step hb1);clear hb1 S0 CR;obtain⟨-,⟨vd,vo,hst,hd1,-⟩,-⟩:=S1.out.stq 0 rfl;obtain⟨k0,k1,k2,k3,k4,k5,k6,k7,-⟩:=gM hst;unfold bX at k1;simp only at k1;have S2:=ae ((S1.out.alloc (cells #[.string nm,int i64 0,int i64 n,slice none 0 0] 65)).add (bQ _ _ _) (Blk.new w1 65 #[.string nm,int i64 0,int i64 n,slice none 0 0]));clear hst k0 k2 k3 k4 k5 k6 k7 hd1;go_upto_region 5 with fail;clear k1;obtain⟨G8,hG8⟩:∃G8,G8=w1.heap.size:=⟨_,rfl⟩;rw[<-hG8] at S2 ⊢;have HG8:Hid (B<=G8):=ae (by rw[hG8];exact aO HB.out.2 S1.out.1.size);have HGE:=ae hG8;have HB2:Hid (Below w1.heap.size w1 (w1.alloc (cells #[.string nm,int i64 0,int i64 n,slice none 0 0] 65))):=ae ((az _ _).alloc (ah _) _);clear hG8;generalize w1.alloc (cells #[.string nm,int i64 0,int i64 n,slice none 0 0] 65)=w2 at*;go_cut [9,10] (fun v ok wx=>∃b:Bool,∃a4 n4 c4,v=slice a4 n4 c4/\ok=.bool b/\Hid ((b=false/\∃b,b<nb/\noT K H Z 0 b)\/(b=true/\n4=nb/\∃T,OwnI wx w2.heap.size v T/\wI K H Z 0 nb T))/\Hid (Below w2.heap.size w2 wx))
 case first=>
  obtain⟨-,⟨vd1,vo1,hst,-⟩,-⟩:=S2.out.stq 1 rfl;obtain⟨k0,k1,k2,k3,k4,k5,k6,k7,-⟩:=gM hst;unfold bX at k2 k3 k4;simp only at k2 k3 k4;obtain⟨e0,e1,e2',e3⟩:=eY (S2.out.blk 0 rfl);clear hst k0 k1 k5 k6 k7
  go_region_law (first
   | (go_simp
      go_at_call 103;refine(CC.out w2.drew).mono ?_;rintro r w3 ⟨rfl,hb3⟩;replace hb3:=bR hb3;have S3:=ae (S2.out.step hb3);obtain⟨-,⟨vd1',vo1',hst',-⟩,-⟩:=S3.out.stq 1 rfl;obtain⟨k0',k1',k2',k3',k4',k5',k6',k7',-⟩:=gM hst';unfold bX at k2' k3' k4';simp only at k2' k3' k4';obtain⟨e0',e1',e2'',e3'⟩:=eY (S3.out.blk 0 rfl);have HB3:=ae hb3;clear hst' k0' k1' k5' k6' k7' hb3;go_simp)
   | (go_simp
      go_at_call 102;refine(CT.out w3).mono ?_;rintro r w4 ⟨hb4,hor4⟩;have HB4:=ae (HB3.out.trans (hb4.mono HB3.out.size))
      obtain⟨ok4,a4,n4,c4,rfl,HO4⟩:∃ok4:Bool,∃a4 n4 c4,r=returned (.tuple #[slice a4 n4 c4,.bool ok4])/\Hid ((ok4=false/\∃b,b<nb/\noT K H Z 0 b)\/(ok4=true/\n4=nb/\∃T,OwnI w4 w2.heap.size (slice a4 n4 c4) T/\wI K H Z 0 nb T)):=by
       rcases hor4 with⟨v4,T4,rfl,ho4,ht4⟩ | ⟨rfl,hno4⟩
       ·obtain⟨a4,c4,rfl⟩:=ho4.lenA
        exact⟨true,a4,_,c4,rfl,ae (.inr ⟨rfl,ht4.1,T4,ho4.base HB3.out.size,ht4⟩)⟩
       ·exact⟨false,none,0,0,rfl,ae (.inl ⟨rfl,hno4⟩)⟩
      clear hor4 hb4;go_simp))
  all_goals(
   go_simp;refine ‹∀(a':Act) (w':World),Met _ a' w'->_› _ _ ?_;go_meet;exact⟨ok4,a4,n4,c4,rfl,rfl,HO4,HB4⟩)
 case rest=>
  obtain⟨ok4,a4,n4,c4,rfl,rfl,HO4,HB4⟩:=hcut;obtain⟨rfl,hno⟩ | ⟨rfl,rfl,T,ho4,ht4⟩:=HO4.out
  ·have HNO:=ae hno
   have S3:=ae (S2.out.step HB4.out);have HB5:=ae (S1.out.1.trans ((HB2.out.trans (HB4.out.mono HB2.out.size)).mono S1.out.1.size));clear hno HO4 HB4 S2;go_wp2_with fail;go_ret;exact .inl ⟨rfl,HNO.out,HB5.out⟩
  have HO4:=ae ho4;have HTT:=ae ht4;clear ho4 ht4;have HX3:=ae ((S2.out.step HB4.out).blk 0 rfl);have hGl:G8<w2.heap.size:=(S2.out.blk 0 rfl).lt;have f3:wc.frozen? ⟨G8,3,none⟩=false:=HX3.out.frozen 3;have c3:wc.cell? ⟨G8,3,none⟩=some (slice none 0 0):=HX3.out.cell 3;have HX5:Hid (Blk (wc.setCell ⟨G8,3,none⟩ (slice a4 n4 c4)) G8 65 #[.string nm,int i64 0,int i64 n,slice a4 n4 c4]):=ae (HX3.out.set 3 (slice a4 n4 c4));have HO5:Hid (OwnI (wc.setCell ⟨G8,3,none⟩ (slice a4 n4 c4)) w2.heap.size (slice a4 n4 c4) T):=ae (HO4.out.far hGl 3 _);have hb5:Below w1.heap.size w1 (wc.setCell ⟨G8,3,none⟩ (slice a4 n4 c4)):=(HB2.out.trans (HB4.out.mono HB2.out.size)).setCell (p:=⟨G8,3,none⟩) (by rw[HGE.out];exact ah _) _;have S5:=ae (S1.out.step hb5);clear HX3 HO4 HB4 S2 hb5 hGl;go_upto_region 9 with fail;clear f3 c3;generalize wc.setCell ⟨G8,3,none⟩ (slice a4 n4 c4)=w5 at*;obtain⟨e0,e1,e2',e3⟩:=eY HX5.out;go_wp2_with fail;refine(CRC.out T HTT.out a4 c4 w5 (S5.out.stq 0 rfl) (S5.out.rd 1 rfl) (yE HO5.out)).mono ?_;rintro e w6 ⟨v6,ords,rfl,hpm,hr6,hb6⟩;replace hr6:(rS 2 ((eC K H Z ex 0 T l ords n4).map cW)).ok w6 (Fu w6) [v6]:=hr6;have HPM:=ae hpm;obtain⟨a6,n6,c6,rfl⟩:=oz hr6
  have hn6:(eC K H Z ex 0 T l ords n4).length=n6:=by
   obtain⟨a',n',c',e',_,_,_,h4,_⟩:=hr6;injection e' with e' _;injection e' with _ e2 _;rw[aC] at h4;exact h4.trans e2.symm
  have HN6:=ae hn6;have S6:=ae (S5.out.step hb6);have HX6:=ae (HX5.out.below hb6 HX5.out.lt);have HO6:=ae (HO5.out.below hb6);have hba:=(az w6.heap.size w6).alloc (ah _) (cells #[slice a6 n6 c6] 120);have S7:=ae (S6.out.step hba);have HX7:=ae (HX6.out.below hba HX6.out.lt);have HO7:=ae (HO6.out.below hba);have HR7:=ae ((rS 2 _).fu hr6 hba);have HL7:=ae (Blk.new w6 120 #[slice a6 n6 c6]);have HKV:Hid (Below w.heap.size w (w6.alloc (cells #[slice a6 n6 c6] 120))):=ae S7.out.1;clear hr6 hn6 hpm hb6 hba S5 S6 HX5 HX6 HO5 HO6 CRC e0 e1 e2' e3 CC CT;go_upto_region 12 with fail;generalize w6.alloc (cells #[slice a6 n6 c6] 120)=w7 at*;generalize w6.heap.size=GL at*;obtain⟨-,⟨vd,vo,hst,hd7,-⟩,-⟩:=S7.out.stq 0 rfl;obtain⟨a1,c1,rfl,-⟩:=dA hd7 (n:=N) aY;have hvo7:w7.cell? ⟨g,7,none⟩=some (slice none 0 0):=(HKV.out.cell (p:=⟨g,7,none⟩) HVO.out.2).trans HVO.out.1;have hvo8:some vo=some (slice none 0 0):=(by rw[<-(gM hst).2.2.2.2.2.2.2.1,hvo7]);injection hvo8 with hvo8;subst hvo8;obtain⟨k0,k1,k2,k3,k4,k5,k6,k7,-⟩:=gM hst;unfold bX at k0 k1 k2 k3 k4 k5;simp only at k0 k1 k2 k3 k4 k5;obtain⟨e0,e1,e2',e3⟩:=eY HX7.out;have HST:=ae hst;have HD7:=ae hd7;have hbz:=((az w7.heap.size w7).alloc (ah _) (cells #[int i64 0,int i64 0,int i64 0,int i64 0,int i64 0,int i64 0,slice none 0 0,slice none 0 0] 68)).drew;have HBZ:=ae hbz;have HZ0:=ae (Blk.drew (Blk.new w7 68 #[int i64 0,int i64 0,int i64 0,int i64 0,int i64 0,int i64 0,slice none 0 0,slice none 0 0]));obtain⟨z0,z1,z2,z3,z4,z5,z6,z7,-⟩:=gM (Blk.below hst hbz (Blk.lt hst));unfold bX at z0 z1 z2 z3 z4 z5;simp only at z0 z1 z2 z3 z4 z5;obtain⟨y0,y1,y2,y3⟩:=eY (HX7.out.below hbz HX7.out.lt)
  have CWV:Hid (∀W,Below w7.heap.size w7 W->Calls prog 105 #[.agg #[int i64 1,int i64 0,int i64 K,int i64 H,int i64 Z,int i64 ex,slice a1 N c1,slice none 0 0],.agg #[.string nm,int i64 0,int i64 n,slice a4 n4 c4]] W fun r w'=>∃v a c,r=returned (.agg #[int i64 2,int i64 1,int i64 K,int i64 H,int i64 Z,int i64 ex,v,slice a 1 c])/\OwnI w' W.heap.size v (range N)/\(rS 4 ([(⟨nm,0,n,T⟩:dN)].map cN)).ok w' (Fm w') [slice a 1 c]/\Below W.heap.size W w'):=ae fun W hW=>by
   have h:=CW.out T HTT.out.1 a1 a4 c1 c4 (Fu w7) W ((rI _).new HD7.out hW) ((rI _).fm (pO HO7.out) hW);rw[HTT.out.1] at h;exact h
  have CLV:Hid (∀W,Below w7.heap.size w7 W->Calls prog 22 #[pointer (some ⟨g,0,none⟩)] W fun e w'=>∃v,e=returned v/\OwnI w' W.heap.size v (bH f)/\Below W.heap.size W w'):=ae fun W hW=>CL.out W ((S7.out.step hW).stq 0 rfl);obtain⟨nl,hnl⟩:∃nl,(bH f).length=nl:=⟨_,rfl⟩;have HNL:=ae hnl;clear hnl;clear hst hd7 hbz hvo7;go_cut [12,13] (fun v12 v13 wx=>∃G9 a9 c9 ad cd ao co,v12=pointer (some ⟨G9,0,none⟩)/\v13=slice a9 nl c9/\Hid (Blk wx G9 68 #[int i64 2,int i64 1,int i64 K,int i64 H,int i64 Z,int i64 ex,slice ad N cd,slice ao 1 co])/\Hid ((rI (bH f)).ok wx (Fu wx) [slice a9 nl c9])/\Hid ((rI (range N)).ok wx (Fu wx) [slice ad N cd])/\Hid ((rS 4 ([(⟨nm,0,n,T⟩:dN)].map cN)).ok wx (Fu wx) [slice ao 1 co])/\Hid (Below w7.heap.size w7 wx))
  case first=>
   go_region_law (first
    | (go_simp
       go_at_call 105;refine(CWV.out w7.drew (az _ _).drew).mono ?_;rintro r w8 ⟨v8,ao,co,rfl,ho8,hr8,hb8⟩;replace hb8:=bR hb8;obtain⟨ad,cd,rfl⟩:=ho8.lenA;rw[aY] at ho8 ⊢;have HI8:=ae (pO ho8);have HE8:=ae hr8;have HB8:=ae hb8;have HZ8:=ae (Blk.new w8 68 #[int i64 0,int i64 0,int i64 0,int i64 0,int i64 0,int i64 0,slice none 0 0,slice none 0 0]);have HA8:=ae ((az w8.heap.size w8).alloc (ah _) (cells #[int i64 0,int i64 0,int i64 0,int i64 0,int i64 0,int i64 0,slice none 0 0,slice none 0 0] 68));clear ho8 hr8 hb8;go_simp)
    | (go_simp
       go_at_call 105;refine(CWV.out _ HBZ.out).mono ?_;rintro r w8 ⟨v8,ao,co,rfl,ho8,hr8,hb8⟩;have HZC8:=ae (HZ0.out.below hb8 HZ0.out.lt);obtain⟨ad,cd,rfl⟩:=ho8.lenA;rw[aY] at ho8 ⊢;have HI8:=ae (pO ho8);have HE8:=ae hr8;have HB8:=ae (HBZ.out.trans (hb8.mono HBZ.out.size));have HZG8:=ae (ah w7.heap.size);clear ho8 hr8 hb8;go_simp)
    | (go_simp
       go_at_call 22;refine(CLV.out w8 HB8.out).mono ?_;rintro r w9 ⟨v9,rfl,ho9,hb9⟩;obtain⟨a9,c9,rfl⟩:=ho9.lenA;rw[HNL.out] at ho9 ⊢;have HL9:=ae (pO ho9);have HI9:=ae ((rI _).fm HI8.out hb9);have HE9:=ae ((rS 4 _).fm HE8.out hb9);have HB9:=ae (HB8.out.trans (hb9.mono HB8.out.size))
       first
       | (have HZ9:=ae (HZC8.out.below hb9 HZC8.out.lt)
          have f0:=HZ9.out.frozen 0;have f1:=HZ9.out.frozen 1;have f2:=HZ9.out.frozen 2;have f3:=HZ9.out.frozen 3;have f4:=HZ9.out.frozen 4;have f5:=HZ9.out.frozen 5;have f6:=HZ9.out.frozen 6;have f7:=HZ9.out.frozen 7;obtain⟨q0,q1,q2,q3,q4,q5,q6,q7⟩:=cZ HZ9.out;have HZG9:=HZG8)
       | skip
       clear ho9 hb9;go_simp)
    | (go_simp
       go_at_call 22;refine(CLV.out _ (HB8.out.trans (HA8.out.mono HB8.out.size))).mono ?_;rintro r w9 ⟨v9,rfl,ho9,hb9⟩;obtain⟨a9,c9,rfl⟩:=ho9.lenA;rw[HNL.out] at ho9 ⊢;have HL9:=ae (pO ho9);have HI9:=ae ((rI _).fm ((rI _).fm HI8.out HA8.out) hb9);have HE9:=ae ((rS 4 _).fm ((rS 4 _).fm HE8.out HA8.out) hb9);have HZ9:=ae (HZ8.out.below hb9 HZ8.out.lt);have HB9:=ae ((HB8.out.trans (HA8.out.mono HB8.out.size)).trans (hb9.mono (HB8.out.trans (HA8.out.mono HB8.out.size)).size));have f0:=HZ9.out.frozen 0;have f1:=HZ9.out.frozen 1;have f2:=HZ9.out.frozen 2;have f3:=HZ9.out.frozen 3;have f4:=HZ9.out.frozen 4;have f5:=HZ9.out.frozen 5;have f6:=HZ9.out.frozen 6;have f7:=HZ9.out.frozen 7;obtain⟨q0,q1,q2,q3,q4,q5,q6,q7⟩:=cZ HZ9.out;have HZG9:=ae HB8.out.size;clear ho9 hb9;go_simp))
   all_goals(
    go_simp;refine ‹∀(a':Act) (w':World),Met _ a' w'->_› _ _ ?_;go_meet
    first
    | (have HZ10:=HZ9
       exact⟨_,a9,c9,ad,cd,ao,co,rfl,rfl,ae (Bi HZ10.out _ _ _ _ _ _ _ _),ae ((rI _).fmU ((rI _).put8m HZ10.out HL9.out _ _ _ _ _ _ _ _)),ae ((rI _).fmU ((rI _).put8m HZ10.out HI9.out _ _ _ _ _ _ _ _)),ae ((rS 4 _).fmU ((rS 4 _).put8m HZ10.out HE9.out _ _ _ _ _ _ _ _)),ae (vN HB9.out HZG9.out _ _ _ _ _ _ _ _)⟩)
    | exact⟨_,a9,c9,ad,cd,ao,co,rfl,rfl,ae (Blk.new w9 _ _),ae ((rI _).fmU ((rI _).fmA HL9.out)),ae ((rI _).fmU ((rI _).fmA HI9.out)),ae ((rS 4 _).fmU ((rS 4 _).fmA HE9.out)),ae (HB9.out.alloc HB9.out.size _)⟩)
  case rest=>
   obtain⟨G9,a9,c9,ad,cd,ao,co,rfl,rfl,HG9,HL9,HI9,HE9,HB9⟩:=hcut;rename World=>w9;have S9:=ae (S7.out.step HB9.out);have HL79:=ae (HL7.out.below HB9.out HL7.out.lt);have HR9:=ae ((rS 2 _).fu HR7.out HB9.out);have CPS:=ae (tv (dM K H Z ex N ⟨nm,0,n,T⟩) (by show(1:Nat)<=1;omega) ad ao N cd 1 co (Fu w9) w9 HI9.out aY HE9.out rfl (HM.out T HTT.out).1 (HM.out T HTT.out).2);unfold cH dM at CPS;simp only at CPS;have HQV:=ae (S9.out.1);clear CWV CLV k0 k1 k2 k3 k4 k5 k6 k7 e0 e1 e2' e3 HST HD7 HBZ HZ0 z0 z1 z2 z3 z4 z5 z6 z7 y0 y1 y2 y3 S7 HX7 HO7 HR7 HL7 HKV HVO CW CL;obtain⟨x0,x1,x2,x3,x4,x5,x6,x7⟩:=cZ HG9.out;go_wp2_with fail;refine CPS.out.mono ?_;rintro e w10 ⟨v10,rfl,ho10,hb10⟩;obtain⟨a10,c10,rfl,-⟩:=ho10.val;rw[aC];obtain⟨pg,hpg⟩:∃pg,(bM (dM K H Z ex N ⟨nm,0,n,T⟩)).length=pg:=⟨_,rfl⟩;have hpg1:pg<=250:=(by rw[<-hpg,dW];exact(kM (HM.out T HTT.out).2).2);have HPGE:=ae hpg;rw[show(bM { seq:=2,next:=1,K:=K,H:=H,Z:=Z,extra:=ex,drives:=range N,objs:=[⟨nm,0,n,T⟩] }).length=pg from hpg];clear ho10 hpg;have hba:=(az w10.heap.size w10).alloc (ah _) (cells #[int i64 pg] 3);have hb11:=hb10.trans (hba.mono hb10.size);have HP11:=ae (Blk.new w10 3 #[int i64 pg]);have S11:=ae (S9.out.step hb11);have HG11:=ae (HG9.out.below hb11 HG9.out.lt);have HL11:=ae ((rI _).fu HL9.out hb11);have HI11:=ae ((rI _).fu HI9.out hb11);have HE11:=ae ((rS 4 _).fu HE9.out hb11);have HP79:=ae (HL79.out.below hb11 HL79.out.lt);have HR11:=ae ((rS 2 _).fu HR9.out hb11);clear hba hb10 hb11 CPS S9 HG9 HL9 HI9 HE9 HL79 HR9 HB9 x0 x1 x2 x3 x4 x5 x6 x7;go_upto_region 15 with fail;generalize w10.alloc (cells #[int i64 pg] 3)=w11 at*;generalize w10.heap.size=GP at*;have hn6:=HN6.out;have hPL:=(HPL.out T ords).1;have hPB:n6<=256:=(by rw[<-hn6,hPL];exact(HPL.out T ords).2.2);have hP1:1<=n6:=(by rw[<-hn6,hPL];exact(HPL.out T ords).2.1);have HRC:Hid (∀i,i<f.n->(R i).length+(jE (eC K H Z ex 0 T l ords n4) i).length+pg<=f.room i/\f.room i<=512):=ae fun i hi=>(by have:=HRM.out T ords HTT.out HPM.out i hi;rw[HPGE.out] at this;exact this);have HPIN:=ae (HPI.out T ords HTT.out HPM.out);clear hPL HPL HRM HPI;generalize hPE:eC K H Z ex 0 T l ords n4=P at*;have HPE:=ae hPE;clear hPE
   have HGE:Hid (ER f.n w11 106 #[pointer (some ⟨GP,0,none⟩),pointer (some ⟨GL,0,none⟩)] (fun x=>pg+kV P x)):=ae fun x _ W hW=>
    IL P pg x GP GL n6 c6 a6 W (HP11.out.below hW HP11.out.lt) (HP79.out.below hW HP79.out.lt) ((rS 2 _).fu HR11.out hW) hn6 (by omega) (by omega)
   have HRG:Hid (∀x,x<f.n->(R x).length+(pg+kV P x)<=f.room x/\f.room x<=512):=ae fun x hx=>by
    have h:=HRC.out x hx;unfold jE at h;rw[aC] at h;unfold kV;exact⟨by omega,h.2⟩
   have HLM:Hid (∀x∈bH f,x<f.n/\f.Z x=false):=ae fun x hx=>ek hx;have HEG:Hid (∀args w,(callFunc 106 args).run prog w=.ok (.enter 106 args) w):=ae (enters_of func106 (by kernel_rfl) rfl);have hnl64:nl<=64:=(by rw[<-HNL.out];exact HLN.out.2);have hnl0:0<nl:=(by rw[<-HNL.out];exact HLN.out.1);have CFI:=ae (OZ (bH f) (Fu w11) a9 nl c9 g f (bX K H Z ex N) R 106 #[pointer (some ⟨GP,0,none⟩),pointer (some ⟨GL,0,none⟩)] (fun x=>pg+kV P x) w11 (S11.out.stq 0 rfl) HL11.out HNL.out HLM.out (by omega) HEG.out HGE.out HRG.out);have CMK:=ae fun (W:World) (hW:Below w11.heap.size w11 W)=>MW (bH f) (Fu W) a9 nl c9 g f (bX K H Z ex N) R 106 #[pointer (some ⟨GP,0,none⟩),pointer (some ⟨GL,0,none⟩)] (fun x=>pg+kV P x) W ((S11.out.step hW).stq 0 rfl) ((rI _).fu HL11.out hW) HNL.out HLM.out (by omega) HEG.out (fun x hx V hV=>HGE.out x hx V (hW.trans (hV.mono hW.size))) HRG.out;clear HGE HRG HEG HP11;go_wp2_with fail;refine CFI.out.mono ?_;rintro e w12 ⟨rfl,hb12⟩;have CMK2:=ae (CMK.out w12 hb12);have HB12:=ae hb12;clear CFI CMK hb12;go_wp2_with fail;refine CMK2.out.mono ?_;rintro e w13 ⟨rfl,hb13⟩;have hb:=HB12.out.trans (hb13.mono HB12.out.size);have S13:=ae (S11.out.step hb);have HG13:=ae (HG11.out.below hb HG11.out.lt);have HL13:=ae ((rI _).fu HL11.out hb);have HI13:=ae ((rI _).fu HI11.out hb);have HE13:=ae ((rS 4 _).fu HE11.out hb);have HP13:=ae (HP79.out.below hb HP79.out.lt);have HR13:=ae ((rS 2 _).fu HR11.out hb);clear hb hb13 CMK2 HB12 S11 HG11 HL11 HI11 HE11 HP79 HR11;have CLA:=ae (KT (B:=B) P a6 n6 c6 g f (bX K H Z ex N) R w13 (S13.out.stq 0 rfl) ((rS 2 _).more HR13.out fun b hb _=>hb.fd) hn6 (by omega) (by omega) HPIN.out (fun i hi=>by have:=HRC.out i hi;exact⟨by omega,this.2⟩));have HTW:Hid (ChgT w w13):=ae (ChgT.below S13.out.1);have HBW:Hid (Below B w w13):=ae (S13.out.1.mono HB.out.2);have hB13:B<=w13.heap.size:=aO HB.out.2 S13.out.1.size;have p0:=HP13.out.cell 0;have HD13:=ae ((rI _).more HI13.out fun b hb _=>hb.fd);have HE13':=ae ((rS 4 _).more HE13.out fun b hb _=>hb.fd);have HL13':=ae ((rI _).more HL13.out fun b hb _=>hb.fd);clear HI13 HE13 HL13 HR13 HP13 S13;go_wp2_with fail;refine CLA.out.mono ?_;rintro e w14 ⟨rfl,hs14,hc14⟩;have HS14:=ae hs14;have HG14:=ae (HG13.out.chg hc14 fun hm=>Md.not (Blk.ty HG13.out) (by decide) (by decide) hm.2);have HD14:=ae ((rI _).chgD HD13.out hc14);have HE14:=ae ((rS 4 _).chgD HE13'.out hc14);have HL14:=ae ((rI _).chgD HL13'.out hc14);have HB14:=ae (HBW.out.trans (hc14.lo hB13));have HT14:=ae (HTW.out.trans (ChgT.ofD hc14))
   clear hs14 hc14 CLA HG13 HD13 HE13' HL13' HBW p0;obtain⟨x0,x1,x2,x3,x4,x5,x6,x7⟩:=cZ HG14.out
   have CTU:=ae (Pj (B:=B) ⟨nm,0,n,T⟩ (bX K H Z ex N) (dM K H Z ex N ⟨nm,0,n,T⟩) g f (iA P R) ad ao N cd co (bH f) a9 nl c9 w14 HS14.out ⟨HB.out.1,aO HB.out.2 (aO (ah _) HB14.out.size)⟩ (by rw[HN.out];rfl) rfl HD14.out aY HE14.out (HM.out T HTT.out).1 (HM.out T HTT.out).2 HL14.out HNL.out hnl0 hnl64 HLM.out (fun i hi=>by
    have h:=HRC.out i hi;rw[tu _ (gD f)];unfold iA;rw[aH];have h2:=HPGE.out;refine⟨?_,h.2⟩;split
    ·omega
    ·simp only[length_nil];omega))
   unfold cH at CTU;generalize hq0:iA (nY (dM K H Z ex N ⟨nm,0,n,T⟩) (bH f)) (iA P R)=Q0 at*;have HQ0:=ae hq0;clear hq0;go_wp2_with fail;refine CTU.out.mono ?_;rintro e w15 ⟨rfl,hs15,hb15,ht15⟩;have HS15:=ae hs15;have HB15:=ae (HB14.out.trans hb15);have HT15:=ae (HT14.out.trans ht15);clear hs15 hb15 ht15 CTU;go_wp2_with fail;go_ret;refine .inr ⟨rfl,T,ords,HTT.out,HPM.out,?_,HB15.out,HT15.out⟩;rw[HPE.out,HQ0.out];exact HS15.out
end
structure dK where
 o:Nat
 b:Nat
 i:Nat
 t:Nat
 d:List Nat
def zy:dK:=⟨0,0,0,0,[]⟩
def fN(K H Z:Nat)(r:dK)(v:Value):Array Value:=#[int i64 r.o,int i64 r.b,int i64 r.i,int i64 K,int i64 H,int i64 Z,.int .u32 (r.t:Nat),v]
theorem recYV(K H Z:Nat)(r:dK)(v:Value):wM r.o r.b r.i K H Z r.t v=.agg (fN K H Z r v):=rfl
def wH(K H Z:Nat)(r:dK):Rp:=rP (rVs [int i64 r.o,int i64 r.b,int i64 r.i,int i64 K,int i64 H,int i64 Z,.int .u32 (r.t:Nat)]) (rB r.d)
def RecY8(w:World)(b o:Nat)(K H Z:Nat)(r:dK)(v:Value):Prop:=b<w.heap.size/\∀j,j<8->w.cell? ⟨b,o+j,none⟩=(fN K H Z r v)[j]?
theorem RecY8.below{w w':World}{b o K H Z:Nat}{r:dK}{v:Value}(h:RecY8 w b o K H Z r v)(hb:Below w.heap.size w w'):RecY8 w' b o K H Z r v:=
 ⟨aU h.1 hb.size,fun j hj=>(hb.cell (p:=⟨b,o+j,none⟩) h.1).trans (h.2 j hj)⟩
theorem RecY8.c{w:World}{b o K H Z:Nat}{r:dK}{v:Value}(h:RecY8 w b o K H Z r v):w.cell? ⟨b,o,none⟩=some (int i64 r.o)/\w.cell? ⟨b,o+1,none⟩=some (int i64 r.b)/\w.cell? ⟨b,o+2,none⟩=some (int i64 r.i)/\w.cell? ⟨b,o+3,none⟩=some (int i64 K)/\
 w.cell? ⟨b,o+4,none⟩=some (int i64 H)/\w.cell? ⟨b,o+5,none⟩=some (int i64 Z)/\w.cell? ⟨b,o+6,none⟩=some (.int .u32 (r.t:Nat))/\w.cell? ⟨b,o+7,none⟩=some v:=
 ⟨h.2 0 (by omega),h.2 1 (by omega),h.2 2 (by omega),h.2 3 (by omega),h.2 4 (by omega),h.2 5 (by omega),h.2 6 (by omega),h.2 7 (by omega)⟩
theorem AA{K H Z:Nat}{L:List dK}{w:World}{F:Nat->Prop}{a:Option Addr}{n c i:Nat}(h:(rS 8 (L.map (wH K H Z))).ok w F [slice a n c])(hl:L.length=n)(hi:i<n):
 ∃b o a2 c2,a=some ⟨b,o,none⟩/\F b/\RecY8 w b (o+i*8) K H Z (L.getD i zy) (slice a2 (L.getD i zy).d.length c2)/\(rB (L.getD i zy).d).ok w F [slice a2 (L.getD i zy).d.length c2]:=by
 have hiL:i<L.length:=by omega
 have hR:(L.map (wH K H Z))[i]? =some (wH K H Z (L.getD i zy)):=by rw[List.getElem?_map,af,ag hiL];rfl
 obtain⟨b,o,ds,rfl,hF,hb,hok,hlen,hc⟩:=rY h (by decide) hi hR;obtain⟨x,y,rfl,h1,h2⟩:=hok;have hx:=h1.1;subst hx;have l2:=(rB (L.getD i zy).d).len h2;obtain⟨u2,rfl⟩:=length_eq_one_iff.1 l2;obtain⟨a2,c2,e,-⟩:=gP h2 rfl;subst e;refine⟨b,o,a2,c2,rfl,hF,⟨hb,fun j hj=> ?_⟩,h2⟩;have hj8:j=0\/j=1\/j=2\/j=3\/j=4\/j=5\/j=6\/j=7:=by omega
 rcases hj8 with rfl | rfl | rfl | rfl | rfl | rfl | rfl | rfl
 ·exact hc 0 _ rfl
 ·exact hc 1 _ rfl
 ·exact hc 2 _ rfl
 ·exact hc 3 _ rfl
 ·exact hc 4 _ rfl
 ·exact hc 5 _ rfl
 ·exact hc 6 _ rfl
 ·exact hc 7 _ rfl
theorem rn_ok{K H Z:Nat}{r:dK}{w:World}{F:Nat->Prop}{v:Value}(h:(rB r.d).ok w F [v]):(wH K H Z r).ok w F (fN K H Z r v).toList:=
 rX (x:=[int i64 r.o,int i64 r.b,int i64 r.i,int i64 K,int i64 H,int i64 Z,.int .u32 (r.t:Nat)]) (yR (by intro u hu;simp at hu;rcases hu with rfl | rfl | rfl | rfl | rfl | rfl | rfl <;> rfl)) h
def Ob(x y z:Int):Int:=if x=0 then (if y=0 then z else y) else x
theorem J7(x y z:Int)(b o c:Nat)(w:World)(c0:w.cell? ⟨b,o,none⟩=some (int i64 x))(c1:w.cell? ⟨b,o+1,none⟩=some (int i64 y))(c2:w.cell? ⟨b,o+2,none⟩=some (int i64 z))(h:Ob x y z≠0):Calls prog 223 #[slice (some ⟨b,o,none⟩) 3 c] w fun e w'=>e=returned (int i64 (Ob x y z))/\w'=w:=by
 obtain⟨n,hn⟩:∃n:Nat,n=if x=0 then (if y=0 then 2 else 1) else 0:=⟨_,rfl⟩
 have hcases:(n=0/\x≠0)\/(n=1/\x=0/\y≠0)\/(n=2/\x=0/\y=0/\z≠0):=by
  unfold Ob at h;by_cases hx:x=0
  ·rw[bf hx] at hn h
   by_cases hy:y=0
   ·rw[bf hy] at hn h;exact .inr (.inr ⟨hn,hx,hy,h⟩)
   ·rw[bg hy] at hn;exact .inr (.inl ⟨hn,hx,hy⟩)
  ·rw[bg hx] at hn;exact .inl ⟨hn,hx⟩
 clear hn;go_enter func223,ntmps223;go_wp2_with fail;go_loopw [8] (fun i wr=>∃k:Nat,k<=n/\i=int i64 k/\Hid (wr=w)) (fun i _=>2-(intOf i).toNat)
 case atStart=>exact⟨0,by omega,rfl,ae rfl⟩
 case round=>
  obtain⟨k,hk,rfl,HW⟩:=hrel;obtain rfl:=HW.out;rcases hcases with⟨rfl,hx⟩ | ⟨rfl,rfl,hy⟩ | ⟨rfl,rfl,rfl,hz⟩
  ·obtain rfl:k=0:=by omega
   have hxB:(x == 0)=false:=(by rw[beq_eq_false_iff_ne];exact hx);go_wp2_with fail;go_ret;exact⟨by unfold Ob;rw[bg hx];rfl,rfl⟩
  ·have hyB:(y == 0)=false:=by rw[beq_eq_false_iff_ne];exact hy
   have hk2:k=0\/k=1:=(by omega);rcases hk2 with rfl | rfl
   ·go_wp2_with fail
    go_roundw
    case rel=>exact⟨1,by omega,by first | rfl | go_num,ae (by first | rfl | trivial)⟩
    case measure=>simp[intOf]
   ·go_wp2_with fail
    go_ret;exact⟨by unfold Ob;rw[bf rfl,bg hy];rfl,rfl⟩
  ·have hzB:(z == 0)=false:=by rw[beq_eq_false_iff_ne];exact hz
   have hk3:k=0\/k=1\/k=2:=(by omega);rcases hk3 with rfl | rfl | rfl
   ·go_wp2_with fail
    go_roundw
    case rel=>exact⟨1,by omega,by first | rfl | go_num,ae (by first | rfl | trivial)⟩
    case measure=>simp[intOf]
   ·go_wp2_with fail
    go_roundw
    case rel=>exact⟨2,by omega,by first | rfl | go_num,ae (by first | rfl | trivial)⟩
    case measure=>simp[intOf]
   ·go_wp2_with fail
    go_ret;exact⟨by unfold Ob;rw[bf rfl,bf rfl];rfl,rfl⟩
def ltN(x y:dK):Prop:=x.o<y.o\/(x.o=y.o/\(x.b<y.b\/(x.b=y.b/\x.i<y.i)))
theorem ordN{x y:dK}(h:ltN y x):Ob (Lib.compareInt x.o y.o) (Lib.compareInt x.b y.b) (Lib.compareInt x.i y.i)=1:=by
 unfold ltN at h;unfold Ob Lib.compareInt;rcases h with h | ⟨h1,h | ⟨h2,h⟩⟩
 ·rw[bg (show ¬((x.o:Int)<(y.o:Int)) by omega),bf (show(y.o:Int)<(x.o:Int) by omega)];rfl
 ·rw[h1,bg (show ¬((x.o:Int)<(x.o:Int)) by omega),bg (show ¬((x.o:Int)<(x.o:Int)) by omega),bg (show ¬((x.b:Int)<(y.b:Int)) by omega),bf (show(y.b:Int)<(x.b:Int) by omega)];rfl
 ·rw[h1,h2,bg (show ¬((x.o:Int)<(x.o:Int)) by omega),bg (show ¬((x.o:Int)<(x.o:Int)) by omega),bg (show ¬((x.b:Int)<(x.b:Int)) by omega),bg (show ¬((x.b:Int)<(x.b:Int)) by omega),bg (show ¬((x.i:Int)<(y.i:Int)) by omega),bf (show(y.i:Int)<(x.i:Int) by omega)];rfl
theorem AB(K H Z:Nat)(x y:dK)(v1 v2:Value)(w:World)(h:ltN y x):Calls prog 181 #[.agg (fN K H Z x v1),.agg (fN K H Z y v2)] w fun e w'=>e=returned (int i64 1)/\Below w.heap.size w w':=by
 have CI:=ae fun (p q:Int) w=>Tryz.cmp_Compare_int p q w;have HO:=ae (ordN h);have hsz1:(w.alloc (cells (fN K H Z x v1) 178)).heap.size=w.heap.size+1:=by simp
 have HX:=ae ((Blk.new w 178 (fN K H Z x v1)).alloc (cells (fN K H Z y v2) 178));have HY:Hid (Blk ((w.alloc (cells (fN K H Z x v1) 178)).alloc (cells (fN K H Z y v2) 178)) (w.heap.size+1) 178 (fN K H Z y v2)):=ae (by rw[<-hsz1];exact Blk.new _ _ _);have HB:Hid (Below w.heap.size w ((w.alloc (cells (fN K H Z x v1) 178)).alloc (cells (fN K H Z y v2) 178))):=ae (((az _ _).alloc (ah _) _).alloc (by simp) _);clear hsz1 h;obtain⟨xo,xb,xi,xt,xd⟩:=x;obtain⟨yo,yb,yi,yt,yd⟩:=y;unfold fN at*;simp only at*;go_enter func181,ntmps181;go_upto_region 1 with fail;generalize (w.alloc (cells #[int i64 xo,int i64 xb,int i64 xi,int i64 K,int i64 H,int i64 Z,.int .u32 (xt:Nat),v1] 178)).alloc (cells #[int i64 yo,int i64 yb,int i64 yi,int i64 K,int i64 H,int i64 Z,.int .u32 (yt:Nat),v2] 178)=w0 at*;have x0:w0.cell? ⟨w.heap.size,0,none⟩=some (int i64 xo):=HX.out.cell 0;have x1:w0.cell? ⟨w.heap.size,1,none⟩=some (int i64 xb):=HX.out.cell 1;have x2:w0.cell? ⟨w.heap.size,2,none⟩=some (int i64 xi):=HX.out.cell 2;have y0:w0.cell? ⟨w.heap.size+1,0,none⟩=some (int i64 yo):=HY.out.cell 0;have y1:w0.cell? ⟨w.heap.size+1,1,none⟩=some (int i64 yb):=HY.out.cell 1;have y2:w0.cell? ⟨w.heap.size+1,2,none⟩=some (int i64 yi):=HY.out.cell 2
 go_region_held3 (fun w'=>(w'.cell? ⟨w.heap.size,0,none⟩=some (int i64 xo)/\w'.cell? ⟨w.heap.size,1,none⟩=some (int i64 xb)/\w'.cell? ⟨w.heap.size,2,none⟩=some (int i64 xi))/\w'.cell? ⟨w.heap.size+1,0,none⟩=some (int i64 yo)/\w'.cell? ⟨w.heap.size+1,1,none⟩=some (int i64 yb)/\w'.cell? ⟨w.heap.size+1,2,none⟩=some (int i64 yi)) (go_keep) (first
  | (go_at_call 225;refine(CI.out _ _ _).mono ?_;rintro e wx ⟨rfl,rfl⟩;go_simp)
  | (go_at_call 223;refine(J7 _ _ _ _ _ _ _ (by first | exact dZ _ _ _ 0 | (go_simp;done)) (by first | exact dZ _ _ _ 1 | (go_simp;done)) (by first | exact dZ _ _ _ 2 | (go_simp;done)) (by rw[HO.out];decide)).mono ?_;rintro e wx ⟨rfl,rfl⟩;go_simp))
 all_goals(
  go_simp;go_wp2_with fail;go_ret;exact⟨congrArg (fun z=>Ending.returned (Value.int .i64 z)) HO.out,(HB.out.alloc HB.out.size _).drew⟩)
theorem Mx(K H Z:Nat)(x y:dK)(v1 v2:Value)(w:World)(h:ltN y x):Calls prog 183 #[.agg (fN K H Z x v1),.agg (fN K H Z y v2)] w fun e w'=>e=returned (bool false)/\Below w.heap.size w w':=by
 have CO:=ae fun w=>AB K H Z x y v1 v2 w h;have hsz1:(w.alloc (cells (fN K H Z x v1) 178)).heap.size=w.heap.size+1:=by simp
 have HX:=ae ((Blk.new w 178 (fN K H Z x v1)).alloc (cells (fN K H Z y v2) 178));have HY:Hid (Blk ((w.alloc (cells (fN K H Z x v1) 178)).alloc (cells (fN K H Z y v2) 178)) (w.heap.size+1) 178 (fN K H Z y v2)):=ae (by rw[<-hsz1];exact Blk.new _ _ _);have HB:Hid (Below w.heap.size w ((w.alloc (cells (fN K H Z x v1) 178)).alloc (cells (fN K H Z y v2) 178))):=ae (((az _ _).alloc (ah _) _).alloc (by simp) _);clear hsz1 h;obtain⟨xo,xb,xi,xt,xd⟩:=x;obtain⟨yo,yb,yi,yt,yd⟩:=y;unfold fN at*;simp only at*;go_enter func183,ntmps183;go_upto_region 1 with fail;generalize (w.alloc (cells #[int i64 xo,int i64 xb,int i64 xi,int i64 K,int i64 H,int i64 Z,.int .u32 (xt:Nat),v1] 178)).alloc (cells #[int i64 yo,int i64 yb,int i64 yi,int i64 K,int i64 H,int i64 Z,.int .u32 (yt:Nat),v2] 178)=w0 at*;obtain⟨x0,x1,x2,x3,x4,x5,x6,x7⟩:=cZ HX.out;obtain⟨y0,y1,y2,y3,y4,y5,y6,y7⟩:=cZ HY.out;go_wp2_with fail;refine(CO.out w0).mono ?_;rintro e w1 ⟨rfl,hb⟩;have HB1:=ae (HB.out.trans (hb.mono HB.out.size));clear hb;go_wp2_with fail;go_ret;exact⟨rfl,HB1.out⟩
def r9(L:List dK):Prop:=∀i,i+1<L.length->ltN (L.getD i zy) (L.getD (i+1) zy)
theorem OT(K H Z:Nat)(L:List dK)(F:Nat->Prop)(a:Option Addr)(n c:Nat)(w:World)(hx:(rS 8 (L.map (wH K H Z))).ok w F [slice a n c])(hl:L.length=n)(hn:n<=1000)(hs:r9 L):
 Calls prog 311 #[slice a n c,int i64 0,int i64 n,.func (.func 181) #[] #[]] w fun e w'=>e=returned (.tuple #[])/\Below w.heap.size w w':=by
 have HX:=ae hx;have HL:=ae hl;have HS:=ae hs;have HB0:=ae (az w.heap.size w);clear hx hl hs;go_enter func311,ntmps311;go_wp2_with fail;go_loopw [8] (fun i wr=>∃k:Nat,k<=n+1/\1<=k/\i=int i64 k/\Hid (Below w.heap.size w wr)) (fun i _=>n-(intOf i).toNat)
 case atStart=>exact⟨1,by omega,by omega,rfl,HB0⟩
 case round=>
  clear HB0;obtain⟨k,hkn,hk1,rfl,HB⟩:=hrel;by_cases hlt:k<n
  ·have hltI:(k:Int)<(n:Int):=by omega
   have hkI:(0:Int)<(k:Int):=(by omega);have hk0:0<k:=(by omega);have hkD:decide (0<k)=true:=ba hk0;have hkI1:(1:Int)<=(k:Int):=(by omega);obtain⟨q,hq⟩:∃q,q=k-1:=⟨_,rfl⟩;have hw1:IntKind.i64.wrap ((k:Int)-1)=(q:Int):=(by rw[IntKind.wrap_i64];omega);have hqI:(q:Int)<(n:Int):=(by omega);have HR:=ae ((rS 8 _).new HX.out HB.out);obtain⟨b,o,a3,c3,rfl,-,HP,-⟩:=AA HR.out HL.out hlt;obtain⟨b',o',a4,c4,e,-,HQ,-⟩:=AA (i:=q) HR.out HL.out (by omega);injection e with e;injection e with e1 e2 _;subst e1 e2;have hlt2:=HS.out q (by rw[HL.out];omega);rw[show q+1=k by omega] at hlt2;have CC:=ae fun v1 v2 w=>AB K H Z (L.getD k zy) (L.getD q zy) v1 v2 w hlt2;have HP:=ae HP;have HQ:=ae HQ;clear hlt2 hq;generalize L.getD k zy=x at*;generalize L.getD q zy=y at*;unfold fN at CC;go_wp2_with fail;rename World=>wo;go_loopw [9] (fun j wr=>j=int i64 k/\Hid (wr=wo)) (fun _ _=>0)
   case atStart=>exact⟨rfl,ae rfl⟩
   case round=>
    obtain⟨rfl,HW⟩:=hrel;obtain rfl:=HW.out;go_upto_region 4 with fail;refine bO (by kernel_rfl) (by kernel_rfl) ?_
    iterate 17 (
     with_reducible refine wpQuiet_step (fun Kq hKq=> ?_)
     go_simp
     first
     | refine hKq _ ?_
     | refine⟨_,fun _ _=>rfl,hKq _ ?_⟩
     | (apply Exists.intro
        refine⟨fun w' hw'=> ?_,hKq _ ?_⟩
        ·obtain⟨p0',p1',p2',p3',p4',p5',p6',p7'⟩:=(HP.out.below hw').c
         obtain⟨q0',q1',q2',q3',q4',q5',q6',q7'⟩:=(HQ.out.below hw').c
         first
         | (go_simp
            first | exact rfl | exact⟨rfl,rfl⟩)
         | (go_at_call 181
            refine(CC.out _ _ w').mono ?_;rintro r w5 ⟨rfl,hb5⟩;exact⟨rfl,hw'.trans (hb5.mono hw'.size)⟩))
     clear hKq Kq)
    with_reducible refine wpQuiet_nil ?_
    intro w5 hw5;have HB5:=ae (HB.out.trans (hw5.mono HB.out.size));clear hw5;go_wp2_with fail;go_roundw
    case rel=>exact⟨k+1,by omega,by omega,by go_num,HB5⟩
    case measure=>simp[intOf];omega
  ·have hltI:¬(k:Int)<(n:Int):=by omega
   go_wp2_with fail
   (try simp only[Exit.inBlock,Exit.then])
   refine bodyPost_end (results_none rfl _ _ _) rfl ?_;exact⟨rfl,HB.out⟩
theorem GG(K H Z:Nat)(L:List dK)(F:Nat->Prop)(a:Option Addr)(n c:Nat)(w:World)(hx:(rS 8 (L.map (wH K H Z))).ok w F [slice a n c])(hl:L.length=n)(hn:n<=19)(hs:r9 L):
 Calls prog 247 #[slice a n c,int i64 n,.func (.func 181) #[] #[]] w fun e w'=>e=returned (.tuple #[])/\Below w.heap.size w w':=by
 have CI:=ae (OT K H Z L F a n c w hx hl (by omega) hs);have hnI:¬(20:Int)<=(n:Int):=by omega
 have hnJ:¬(20:Int)<(n:Int):=by omega
 clear hx hl hs;go_enter func247,ntmps247;go_wp2_with fail;go_loopw [7,8] (fun i j wr=>i=int i64 0/\j=int i64 20/\Hid (wr=w)) (fun _ _ _=>0)
 case atStart=>exact⟨rfl,rfl,ae rfl⟩
 case round=>
  obtain⟨rfl,rfl,HW⟩:=hrel;obtain rfl:=HW.out;go_wp2_with fail;refine CI.out.mono ?_;rintro e w1 ⟨rfl,hb⟩;have HB:=ae hb;clear hb CI;go_wp2_with fail;rename World=>wo;go_loopw [6] (fun i wr=>i=int i64 20/\Hid (wr=wo)) (fun _ _=>0)
  case atStart=>exact⟨rfl,ae rfl⟩
  case round=>
   obtain⟨rfl,HW⟩:=hrel;obtain rfl:=HW.out;go_wp2_with fail
   (try simp only[Exit.inBlock,Exit.then])
   refine bodyPost_end (results_none rfl _ _ _) rfl ?_;exact⟨rfl,HB.out⟩
theorem wO(K H Z:Nat)(L:List dK)(F:Nat->Prop)(a:Option Addr)(n c:Nat)(w:World)(hx:(rS 8 (L.map (wH K H Z))).ok w F [slice a n c])(hl:L.length=n)(hn:n<=19)(hs:r9 L):
 Calls prog 180 #[slice a n c,.func (.func 181) #[] #[]] w fun e w'=>e=returned (.tuple #[])/\Below w.heap.size w w':=by
 have CI:=ae (GG K H Z L F a n c w hx hl hn hs);clear hx hl hs;go_enter func180,ntmps180;go_wp2_with fail;refine CI.out.mono ?_;rintro e w1 ⟨rfl,hb⟩;have HB:=ae hb;clear hb CI;go_wp2_with fail
 (try simp only[Exit.inBlock,Exit.then])
 refine bodyPost_end (results_none rfl _ _ _) rfl ?_;exact⟨rfl,HB.out⟩
theorem Dh(K H Z:Nat)(L:List dK)(F:Nat->Prop)(a:Option Addr)(n c:Nat)(w:World)(hx:(rS 8 (L.map (wH K H Z))).ok w F [slice a n c])(hl:L.length=n)(hn:n<=1000)(hs:r9 L):
 Calls prog 182 #[slice a n c,.func (.func 183) #[] #[]] w fun e w'=>e=returned (slice a n c)/\Below w.heap.size w w':=by
 have HX:=ae hx;have HL:=ae hl;have HS:=ae hs;have HB0:=ae (az w.heap.size w);clear hx hl hs;by_cases h2:n<2
 ·have h2I:(n:Int)<2:=by omega
  go_enter func182,ntmps182;go_wp2_with fail;go_ret;exact⟨rfl,HB0.out⟩
 have h2I:¬(n:Int)<2:=by omega
 go_enter func182,ntmps182;go_wp2_with fail;go_loopw [5] (fun i wr=>∃k:Nat,k<=n/\1<=k/\i=int i64 k/\Hid (Below w.heap.size w wr)) (fun i _=>n-(intOf i).toNat)
 case atStart=>exact⟨1,by omega,by omega,rfl,HB0⟩
 case round=>
  clear HB0;obtain⟨k,hkn,hk1,rfl,HB⟩:=hrel;by_cases hlt:k<n
  ·have hltI:(k:Int)<(n:Int):=by omega
   have hkI1:(1:Int)<=(k:Int):=(by omega);obtain⟨q,hq⟩:∃q,q=k-1:=⟨_,rfl⟩;have hw1:IntKind.i64.wrap ((k:Int)-1)=(q:Int):=(by rw[IntKind.wrap_i64];omega);have hqI:(q:Int)<(n:Int):=(by omega);have HR:=ae ((rS 8 _).new HX.out HB.out);obtain⟨b,o,a3,c3,rfl,-,HP,-⟩:=AA HR.out HL.out hlt;obtain⟨b',o',a4,c4,e,-,HQ,-⟩:=AA (i:=q) HR.out HL.out (by omega);injection e with e;injection e with e1 e2 _;subst e1 e2;have hlt2:=HS.out q (by rw[HL.out];omega);rw[show q+1=k by omega] at hlt2;have CC:=ae fun v1 v2 w=>Mx K H Z (L.getD k zy) (L.getD q zy) v1 v2 w hlt2;have HP:=ae HP;have HQ:=ae HQ;clear hlt2 hq;generalize L.getD k zy=x at*;generalize L.getD q zy=y at*;unfold fN at CC;go_upto_region 6 with fail;refine bO (by kernel_rfl) (by kernel_rfl) ?_
   iterate 11 (
    with_reducible refine wpQuiet_step (fun Kq hKq=> ?_)
    go_simp
    first
    | refine hKq _ ?_
    | refine⟨_,fun _ _=>rfl,hKq _ ?_⟩
    | (apply Exists.intro
       refine⟨fun w' hw'=> ?_,hKq _ ?_⟩
       ·obtain⟨p0',p1',p2',p3',p4',p5',p6',p7'⟩:=(HP.out.below hw').c
        obtain⟨q0',q1',q2',q3',q4',q5',q6',q7'⟩:=(HQ.out.below hw').c
        first
        | (go_simp
           first | exact rfl | exact⟨rfl,rfl⟩)
        | (go_at_call 183
           refine(CC.out _ _ w').mono ?_;rintro r w5 ⟨rfl,hb5⟩;exact⟨rfl,hw'.trans (hb5.mono hw'.size)⟩))
    clear hKq Kq)
   with_reducible refine wpQuiet_nil ?_
   intro w5 hw5;have HB5:=ae (HB.out.trans (hw5.mono HB.out.size));clear hw5;go_wp2_with fail;go_roundw
   case rel=>exact⟨k+1,by omega,by omega,by go_num,HB5⟩
   case measure=>simp[intOf];omega
  ·obtain rfl:k=n:=by omega
   go_wp2_with fail;go_ret;exact⟨rfl,HB.out⟩
theorem Jv:(prog.info? 178).map (fun i=>(i.zero,i.size,i.bytes))=some (some (.agg #[int i64 0,int i64 0,int i64 0,int i64 0,int i64 0,int i64 0,.int .u32 0,slice none 0 0]),8,80):=by kernel_rfl
section
variable {B:Nat}
end
section
variable {B:Nat}
def Ns(e:dN)(r:dK):Prop:=e.obj=r.o/\r.b<e.tries.length/\r.t=ig r.o r.b (e.tries.getD r.b 0)/\r.o<=16777215/\e.tries.getD r.b 0<=16/\r.b<8
theorem DL(K H Z ln gr:Nat)(r:dK)(nm:ByteArray)(T:List Nat)(v:Value)(a2:Option Addr)(nT c2:Nat)(F:Nat->Prop)(w:World)(hr:Blk w gr 178 (fN K H Z r v))(htr:(rI T).ok w F [slice a2 nT c2])(hT:T.length=nT)(hok:Ns ⟨nm,r.o,ln,T⟩ r):
 Calls prog 246 (#[.agg (gK ⟨nm,r.o,ln,T⟩ (slice a2 nT c2))]++#[pointer (some ⟨gr,0,none⟩)]) w fun e w'=>e=returned (bool true)/\Below w.heap.size w w':=by
 show Calls prog 246 #[.agg (gK ⟨nm,r.o,ln,T⟩ (slice a2 nT c2)),pointer (some ⟨gr,0,none⟩)] w _
 have S0:Hid (Sx w (w.alloc (cells (gK ⟨nm,r.o,ln,T⟩ (slice a2 nT c2)) 65)) [bQ w.heap.size 65 (gK ⟨nm,r.o,ln,T⟩ (slice a2 nT c2)),bQ gr 178 (fN K H Z r v),eR F (slice a2 nT c2) (rI T)]):=
  ae (((((Sx.nil w).add (eR F (slice a2 nT c2) (rI T)) htr).add (bQ gr _ _) hr).alloc _).add (bQ _ _ _) (Blk.new w _ _))
 obtain⟨ro,rb,ri,rt,rd⟩:=r;obtain⟨-,hbT,hseed,hto,ht16,ht8⟩:=hok;simp only at*;have cd:=fun w=>lC ro rb (T.getD rb 0) w hto (Nat.le_of_lt ht8) ht16;rw[show 128*ro+16*rb+T.getD rb 0=rt from hseed.symm] at cd;have CD:=ae cd;have HT:=ae hT;have hbN:rb<nT:=by omega
 have hbI:(rb:Int)<(nT:Int):=by omega
 clear cd hr htr hseed hto ht16 ht8 hT;unfold fN gK at*;go_enter func246,ntmps246;generalize hw0:w.alloc (cells #[.string nm,int i64 ro,int i64 ln,slice a2 nT c2] 65)=w0 at*;obtain⟨at1,ct1,et1,hrt1,-⟩:=dA (S0.out.rep 2 rfl) HT.out;injection et1 with et1 _ et3;subst et1 et3;obtain⟨bt,ot,rfl,hbt,hct⟩:=hrt1.2 (by omega);have ct0:w0.cell? ⟨bt,ot+rb,none⟩=some (int i64 (T.getD rb 0:Nat)):=hct rb _ (bL (by rw[HT.out];exact hbN));clear hrt1 hct;generalize T.getD rb 0=tb at*;go_upto_region 1 with fail
 (try rw[hw0])
 clear hw0;refine bO (by kernel_rfl) (by kernel_rfl) ?_
 iterate 30 (
  with_reducible refine wpQuiet_step (fun Kq hKq=> ?_)
  go_simp
  first
  | refine hKq _ ?_
  | refine⟨_,fun _ _=>rfl,hKq _ ?_⟩
  | (apply Exists.intro
     refine⟨fun w' hw'=> ?_,hKq _ ?_⟩
     ·obtain⟨e0',e1',e2',e3'⟩:=eY ((S0.out.step hw').blk 0 rfl)
      obtain⟨r0',r1',r2',r3',r4',r5',r6',r7'⟩:=cZ ((S0.out.step hw').blk 1 rfl);have ct0':w'.cell? ⟨bt,ot+rb,none⟩=some (int i64 tb):=(hw'.cell (p:=⟨bt,ot+rb,none⟩) hbt).trans ct0
      first
      | (go_simp
         first | exact rfl | exact⟨rfl,rfl⟩)
      | (go_at_call 114
         refine(CD.out w').mono ?_;rintro r w5 ⟨rfl,rfl⟩;exact⟨rfl,hw'⟩))
  clear hKq Kq)
 with_reducible refine wpQuiet_nil ?_
 intro w3 hw3;have S1:=ae (S0.out.step hw3);clear hw3;go_wp2_with fail;go_ret;exact⟨rfl,S1.out.1⟩
theorem Hr(m:cQ)(e:dN)(r:dK)(v1:Value)(a2 a3:Option Addr)(c2 c3:Nat)(F:Nat->Prop)(w:World)(hme:m.objs=[e])(ho:(rS 4 ([e].map cN)).ok w F [slice a2 1 c2])(hk:eD m.K m.H m.Z=true)(hi:r.i<=65535)(hok:Ns e r):
 Calls prog 179 #[.agg (cH m v1 (slice a2 1 c2)),.agg (fN m.K m.H m.Z r (slice a3 m.Z c3))] w fun e w'=>e=returned (bool true)/\Below w.heap.size w w':=by
 obtain⟨nm,ob,ln,T⟩:=e;have hro:r.o=ob:=hok.1.symm;subst hro;obtain⟨sq,nx,K,H,Z,ex,dr,os⟩:=m;simp only at*;subst hme;have hok5:=hok;obtain⟨-,hbT,hseed,hto,ht16,ht8⟩:=hok;obtain⟨w0,hw0⟩:∃w0,w0=(w.alloc (cells (cH ⟨sq,nx,K,H,Z,ex,dr,[⟨nm,r.o,ln,T⟩]⟩ v1 (slice a2 1 c2)) 68)).alloc (cells (fN K H Z r (slice a3 Z c3)) 178):=⟨_,rfl⟩;have hsz1:(w.alloc (cells (cH ⟨sq,nx,K,H,Z,ex,dr,[⟨nm,r.o,ln,T⟩]⟩ v1 (slice a2 1 c2)) 68)).heap.size=w.heap.size+1:=by simp
 have HB0:Hid (Below w.heap.size w w0):=ae (by rw[hw0];exact((az _ _).alloc (ah _) _).alloc (by simp) _)
 have S0:Hid (Sx w w0 [bQ (w.heap.size+1) 178 (fN K H Z r (slice a3 Z c3)),bQ w.heap.size 68 (cH ⟨sq,nx,K,H,Z,ex,dr,[⟨nm,r.o,ln,T⟩]⟩ v1 (slice a2 1 c2)),eR F (slice a2 1 c2) (rS 4 ([(⟨nm,r.o,ln,T⟩:dN)].map cN))]):=
  ae (((((Sx.nil w).add (eR F (slice a2 1 c2) (rS 4 ([(⟨nm,r.o,ln,T⟩:dN)].map cN))) ho).step HB0.out).add (bQ w.heap.size _ _) (by rw[hw0];exact(Blk.new w _ _).alloc _)).add (bQ _ _ _) (by rw[hw0,<-hsz1];exact Blk.new _ _ _))
 have hb8:decide (r.b<8)=true:=ba ht8;have CM:=ae fun w=>uM r.o r.b r.i K H Z r.t a3 c3 w hto (by omega) hi hk;rw[hb8] at CM;clear hb8
 have CA:=ae fun w (ho:(rS 4 ([(⟨nm,r.o,ln,T⟩:dN)].map cN)).ok w F [slice a2 1 c2]) (hr:Blk w (w0.heap.size-1) 178 (fN K H Z r (slice a3 Z c3)))=>En (fun _=>true) 246 #[pointer (some ⟨w0.heap.size-1,0,none⟩)] [(⟨nm,r.o,ln,T⟩:dN)] F a2 1 c2 w ho rfl (by omega) (enters_of func246 (by kernel_rfl) rfl) (fun x hx W hW a4 c4 hr4=>by
  obtain rfl:=mem_singleton.1 hx;exact DL K H Z ln (w0.heap.size-1) r nm T (slice a3 Z c3) a4 T.length c4 F W (hr.below hW hr.lt) hr4 rfl hok5)
 have hs1:w0.heap.size-1=w.heap.size+1:=by rw[hw0];simp
 rw[hs1] at CA;clear hs1;rw[show([(⟨nm,r.o,ln,T⟩:dN)].any fun _=>true)=true from rfl] at CA;have hpg:=GR;have hpn:=MN K H Z;clear ho hsz1 hok5 hbT hseed hto ht16 ht8 hi hk;obtain⟨ro,rb,ri,rt,rd⟩:=r;simp only[wM] at CM;unfold fN cH at*;simp only at*;go_enter func179,ntmps179;go_upto_region 1 with fail
 (try rw[<-hw0])
 have HW0:=ae hw0;clear hw0;obtain⟨r0,r1,r2,r3,r4,r5,r6,r7⟩:=cZ (S0.out.blk 0 rfl);go_wp2_with fail;refine(CM.out w0).mono ?_;rintro e w1 ⟨rfl,hb1⟩;have S1:=ae (S0.out.step hb1);clear hb1 CM S0 HB0 r0 r1 r2 r3 r4 r5 r6 r7;obtain⟨r0,r1,r2,r3,r4,r5,r6,r7⟩:=cZ (S1.out.blk 0 rfl);obtain⟨m0,m1,m2,m3,m4,m5,m6,m7⟩:=cZ (S1.out.blk 1 rfl)
 go_wp2_with (simp only[])
 refine(CA.out w1 (S1.out.rep 2 rfl) (S1.out.blk 0 rfl)).mono ?_;rintro e w2 ⟨rfl,hb2⟩;have S2:=ae (S1.out.step hb2);clear hb2 CA S1;go_wp2_with fail;go_ret;exact⟨rfl,S2.out.1⟩
def Ht(K H Z:Nat)(e:dN)(x:Option dK×List Nat):Prop:=
 x.2.length=64/\By x.2/\(∀y,x.1=some y->x.2=cellL 1 (jH y.o y.b y.i K H Z y.t y.d)/\y.d.length=Z/\By y.d/\y.i<=65535/\Ns e y)/\(x.1=none->¬(kx x.2/\x.2.getD 3 0=1))
def iT(X:List (Option dK×List Nat)):List (List Nat):=X.map (·.2)
theorem nJ(X:List (Option dK×List Nat)):(iT X).length=X.length:=aC _
theorem Hu(X:List (Option dK×List Nat)){k:Nat}(hk:k<X.length):(iT X).getD k []=(X.getD k (none,[])).2:=by
 unfold iT;rw[af,af,List.getElem?_map,ag hk];rfl
def fB(X:List (Option dK×List Nat)):List dK:=X.filterMap (·.1)
theorem Hv{X:List (Option dK×List Nat)}{k:Nat}(hk:k<X.length):fB (X.take (k+1))=fB (X.take k)++(match (X.getD k (none,[])).1 with | some y=>[y] | none=>[]):=by
 unfold fB;rw[aN hk,filterMap_append];congr 1;have e:X.getD k (none,[])=X[k]:=by rw[af,ag hk];rfl
 rw[e];cases h:X[k].1 with
 | none=>rw[filterMap_cons_none h];rfl
 | some y=>rw[filterMap_cons_some h];rfl
theorem DN(m:cQ)(e:dN)(dg p room:Nat)(v1:Value)(a2:Option Addr)(c2:Nat)(F:Nat->Prop)(X:List (Option dK×List Nat))(o:Option Nat)(w:World)(h:DrR w dg p room (iT X) o)(hme:m.objs=[e])(ho:(rS 4 ([e].map cN)).ok w F [slice a2 1 c2])
 (hk:eD m.K m.H m.Z=true)(hX:∀x∈X,Ht m.K m.H m.Z e x)(hn:X.length<=1000)(hn19:(fB X).length<=19)(hs:r9 (fB X)):
 Calls prog 118 #[pointer (some ⟨dg,0,none⟩),.agg (cH m v1 (slice a2 1 c2))] w fun e w'=>∃a n c,e=returned (slice a n c)/\(rS 8 ((fB X).map (wH m.K m.H m.Z))).ok w' (Fr w.heap.size) [slice a n c]/\Below w.heap.size w w':=by
 have hba:=(az w.heap.size w).alloc (ah _) (cells (cH m v1 (slice a2 1 c2)) 68);have HM0:=ae (Blk.new w 68 (cH m v1 (slice a2 1 c2)));have HO0:=ae ((rS 4 _).new ho hba);obtain⟨vr,wt,hdb,hor,-⟩:=h.below hba;have hlen:(iT X).length=X.length:=nJ X
 have CD:=ae (JM dg p room wt vr (iT X) _ _ hdb hor.rep (by omega) (fun x hx=>by
  obtain⟨y,hy,rfl⟩:=aW.1 hx;have:=(hX y hy).1;omega))
 have HB0:=ae hba;have HXX:=ae hX;have HS:=ae hs;have HK:=ae hk;have HLN:=ae hn;have CC:=ae fun (r:dK) (a3:Option Addr) (c3:Nat) w (ho:(rS 4 ([e].map cN)).ok w F [slice a2 1 c2]) (hi:r.i<=65535) (hc:Ns e r)=>Hr m e r v1 a2 a3 c2 c3 F w hme ho hk hi hc;have HN19:=ae hn19;clear h ho hk hX hs hba hdb hor hn hn19 hme;obtain⟨sq,nx,K,H,Z,ex,dr,os⟩:=m;unfold cH fN at*;simp only at*;generalize hw0:w.alloc (cells #[int i64 sq,int i64 nx,int i64 K,int i64 H,int i64 Z,int i64 ex,v1,slice a2 1 c2] 68)=w0 at*;have hs0:w.heap.size<w0.heap.size:=HM0.out.lt;go_enter func118,ntmps118;refine wp_seq_k fun K1 hK1=> ?_;have HK1:=ae hK1;clear hK1;go_wp2_with fail;refine HK1.out _ _ ?_;clear HK1
 (try rw[hw0])
 refine qH 0 1 (fun x a2' w2=>∃(k:Nat) (i:Int) (vo:Value) (al:Option Addr) (cl:Nat) (w1:World),(X.length<k+x/\k<=X.length/\Hid (i=(k:Int)-1)/\Hid (Below w0.heap.size w0 w1)/\Hid ((rM (iT X)).ok w1 Any [slice al X.length cl])/\Hid (OwnS w2 w1.heap.size 178 8 (Fr w1.heap.size) vo ((fB (X.take k)).map (wH K H Z)))/\Hid (Below w1.heap.size w1 w2))/\∃f:Nat->Value,a2'= { tmps:=#[pointer (some ⟨dg,0,none⟩),.agg #[int i64 sq,int i64 nx,int i64 K,int i64 H,int i64 Z,int i64 ex,v1,slice a2 1 c2],undef,pointer (some ⟨w.heap.size,0,none⟩),slice none 0 0,slice al X.length cl,vo,int i64 i,f 8,f 9,f 10,f 11,f 12,f 13,f 14,f 15,f 16,f 17,f 18,f 19,f 20,f 21,f 22,f 23,f 24,f 25,f 26,f 27,f 28,f 29,f 30,f 31,f 32,f 33,f 34,f 35,f 36,f 37,f 38,f 39],defers:=[] })
  (fun a2' w2=>∃(vo:Value) (al:Option Addr) (cl:Nat) (w1:World),(Hid (Below w0.heap.size w0 w1)/\Hid (OwnS w2 w1.heap.size 178 8 (Fr w1.heap.size) vo ((fB X).map (wH K H Z)))/\Hid (Below w1.heap.size w1 w2))/\∃f:Nat->Value,a2'= { tmps:=#[pointer (some ⟨dg,0,none⟩),.agg #[int i64 sq,int i64 nx,int i64 K,int i64 H,int i64 Z,int i64 ex,v1,slice a2 1 c2],undef,pointer (some ⟨w.heap.size,0,none⟩),slice none 0 0,slice al X.length cl,vo,f 7,f 8,f 9,f 10,f 11,f 12,f 13,f 14,f 15,f 16,f 17,f 18,f 19,f 20,f 21,f 22,f 23,f 24,f 25,f 26,f 27,f 28,f 29,f 30,f 31,f 32,f 33,f 34,f 35,f 36,f 37,f 38,f 39],defers:=[] }) (X.length+1) _ rfl rfl ?_ ?_ ?_
 ·intro X2 hp
  have HPX:=ae hp;clear hp;refine wp_seq_k fun K1 hK1=> ?_;have HK1:=ae hK1;clear hK1;go_wp2_with fail;refine CD.out.mono ?_;rintro e w1 ⟨vl,rfl,ho1,hb1⟩;obtain⟨al,cl,rfl,-⟩:=ho1.val;rw[aC,nJ] at ho1 ⊢;have HR1:Hid ((rM (iT X)).ok w1 Any [slice al X.length cl]):=ae ho1.repAny;have HB1:=ae hb1;have HO1:Hid (OwnS w1 w1.heap.size 178 8 (Fr w1.heap.size) (slice none 0 0) ((fB (X.take 0)).map (wH K H Z))):=ae (OwnS.nil _ _ _ _ _);have HJ1:=ae (az w1.heap.size w1);clear ho1 hb1 CD;go_wp2_with fail;refine HK1.out _ _ ?_;clear HK1;refine wp_seq_k fun K1 hK1=> ?_;have HK1:=ae hK1;clear hK1;go_wp2_with fail;refine HK1.out _ _ ?_;clear HK1;refine wp_seq_k fun K1 hK1=> ?_;have HK1:=ae hK1;clear hK1;go_wp2_with fail;refine HK1.out _ _ ?_;clear HK1;refine wp_seq (wp_label ?_);refine HPX.out _ _ ?_;exact⟨0,-1,_,al,cl,w1,⟨by omega,by omega,ae rfl,HB1,HR1,HO1,HJ1⟩,eP _ _ rfl⟩
 ·rintro x a2' w2 ⟨k,i,vo,al,cl,w1,⟨hx,hkn,HI,HB1,HR1,HO,HB⟩,f,rfl⟩
  have hi1:IntKind.i64.wrap (i+1)=(k:Int):=(by rw[HI.out,IntKind.wrap_i64];have:=HLN.out;omega);have HM2:=ae ((HM0.out.below HB1.out HM0.out.lt).below HB.out (aU HM0.out.lt HB1.out.size));have HO2:=ae ((rS 4 _).new ((rS 4 _).new HO0.out HB1.out) HB.out);clear CD;by_cases hlt:k<X.length
  ·have hltI:(k:Int)<(X.length:Int):=by omega
   have hltJ:¬(X.length:Int)<=(k:Int):=(by omega);obtain⟨ar,cr,er,hrd,-⟩:=fM ((rM _).new HR1.out HB.out) (n:=X.length) (nJ X);injection er with er1 _ er3;subst er1 er3;obtain⟨bx,ox,ax,cx,rfl,hbx,hcx,hrx,hnx,hx1,hx2⟩:=hrd.at (i:=k) (by omega);have eR:(iT X).getD k []=(X.getD k (none,[])).2:=Hu X hlt;have hok:=HXX.out (X.getD k (none,[])) (by rw[af,ag hlt];exact aP hlt);have HT:Hid (fB (X.take (k+1))=fB (X.take k)++(match (X.getD k (none,[])).1 with | some y=>[y] | none=>[])):=ae (Hv hlt);have hcl:(fB (X.take k)).length<=1000:=(by unfold fB;have h1:=length_filterMap_le (·.1) (X.take k);rw[aG] at h1;have:=HLN.out;omega);rw[eR] at hcx hrx hx1;clear eR hrd hnx;generalize fB (X.take k)=M at*;generalize X.getD k (none,[])=row at*;obtain⟨oy,rw0⟩:=row;obtain⟨q1,q2,q3,q4⟩:=hok;simp only at*;rw[q1] at hcx hrx hx1;obtain⟨av,nv,cv,rfl⟩:=HO.out.sl;cases oy with
   | none=>
     have CT:=ae (uP rw0 ax cx w2 hrx q2 ⟨hx1,hx2⟩ (q4 rfl));rw[append_nil] at HT;rw[<-HT.out] at HO;unfold iG at CT;clear hrx q1 q2 q3 q4;go_wp2_with fail;refine CT.out.mono ?_;rintro e w3 ⟨rfl,hb3⟩;have hba:=(az w3.heap.size w3).alloc (ah _) (cells #[int i64 0,int i64 0,int i64 0,int i64 0,int i64 0,int i64 0,.int .u32 0,slice none 0 0] 178);have HO4:=ae ((HO.out.new hb3).new hba);have HJ4:=ae (HB.out.trans ((hb3.trans (hba.mono hb3.size)).mono HB.out.size));clear hba hb3 CT HO;go_wp2_with fail;go_step3;exact .inl ⟨rfl,x-1,by omega,k+1,(k:Int),_,_,cl,w1,⟨by omega,by omega,ae (by omega),HB1,HR1,HO4,HJ4⟩,eP _ _ rfl⟩
   | some y=>
     obtain⟨p1,p2,p3,p4,p5⟩:=q3 _ rfl;have ht32:y.t<4294967296:=(by rw[p5.2.2.1];unfold ig;have h1:=p5.2.2.2.1;have h2:=p5.2.2.2.2.1;have h3:=p5.2.2.2.2.2;omega);have CT:=ae (zX y.o y.b y.i K H Z y.t y.d rw0 ax cx w2 p5.2.2.2.1 p5.2.2.2.2.2 p4 HK.out ht32 p2 p3 p1 hrx q2 ⟨hx1,hx2⟩);have HP4:=ae p4;have HP5:=ae p5;have CC1:=ae fun a3 c3 w ho=>CC.out y a3 c3 w ho HP4.out HP5.out;clear hrx q1 q2 q3 q4 p1 p2 p3 p4 p5 ht32 CC HP5;obtain⟨yo,yb,yi,yt,d⟩:=y;unfold wM at CT;simp only at*;go_wp2_with fail;refine CT.out.mono ?_;rintro e w3 ⟨a3,c3,rfl,hr3,hb3⟩;have hba:=(az w3.heap.size w3).alloc (ah _) (cells #[int i64 yo,int i64 yb,int i64 yi,int i64 K,int i64 H,int i64 Z,.int .u32 (yt:Nat),slice a3 Z c3] 178);have hb4:Below w2.heap.size w2 (w3.alloc (cells #[int i64 yo,int i64 yb,int i64 yi,int i64 K,int i64 H,int i64 Z,.int .u32 (yt:Nat),slice a3 Z c3] 178)):=hb3.trans (hba.mono hb3.size);have HX4:=ae (Blk.new w3 178 #[int i64 yo,int i64 yb,int i64 yi,int i64 K,int i64 H,int i64 Z,.int .u32 (yt:Nat),slice a3 Z c3]);have HM4:=ae (HM2.out.below hb4 HM2.out.lt);have HO4:=ae ((rS 4 _).new HO2.out hb4);have HR4:=ae ((rB d).new hr3 hba);have HB4:=ae hb4;clear hba hb4 hr3 hb3 CT;go_upto_region 7 with fail;generalize w3.alloc (cells #[int i64 yo,int i64 yb,int i64 yi,int i64 K,int i64 H,int i64 Z,.int .u32 (yt:Nat),slice a3 Z c3] 178)=w4 at*;generalize w3.heap.size=G4 at*;obtain⟨m0,m1,m2,m3,m4,m5,m6,m7⟩:=cZ HM4.out;obtain⟨x0,x1,x2,x3,x4,x5,x6,x7⟩:=cZ HX4.out;go_wp2_with fail;refine(CC1.out a3 c3 w4 HO4.out).mono ?_;rintro e w5 ⟨rfl,hb5⟩;have HX5:=ae (HX4.out.below hb5 HX4.out.lt);have HB5:=ae (HB4.out.trans (hb5.mono HB4.out.size));have HR5:Hid ((wH K H Z ⟨yo,yb,yi,yt,d⟩).ok w5 (fun b=>Fr w1.heap.size b/\some b≠(Value.slice av nv cv).ownBlock) (fN K H Z ⟨yo,yb,yi,yt,d⟩ (slice a3 Z c3)).toList):=ae (rn_ok (r:=⟨yo,yb,yi,yt,d⟩) ((rB d).more ((rB d).new HR4.out hb5) fun b hb _=>⟨aO HB.out.size hb,fun e=>by have h1:=(HO.out.lt b e.symm).2;have h2:w2.heap.size<=b:=hb;omega⟩));have HO5:=ae (HO.out.new HB5.out);have HJ5:=ae (HB.out.trans (HB5.out.mono HB.out.size));have hC5:w1.heap.size<=w5.heap.size:=HJ5.out.size;have hml:(M.map (wH K H Z)).length<=1000000:=(by rw[aC];omega);clear hb5 HX4 HM4 HO4 HR4 HB4 m0 m1 m2 m3 m4 m5 m6 m7 x0 x1 x2 x3 x4 x5 x6 x7 HO HB5;obtain⟨x0,x1,x2,x3,x4,x5,x6,x7⟩:=cZ HX5.out
     go_wp2_with (at_builtin;refine fF (w:=w5) (w1:=w5) rfl _ _ rfl underlying175 Jv rfl (by decide) (by decide) HO5.out (az _ _) hC5 hml (R:=wH K H Z ⟨yo,yb,yi,yt,d⟩) HR5.out rfl rfl rfl ?_)
     intro v6 w6 hO6 hb6;have HO6:Hid (OwnS w6 w1.heap.size 178 8 (Fr w1.heap.size) v6 ((fB (X.take (k+1))).map (wH K H Z))):=ae (by rw[HT.out,aQ];exact hO6);have HJ6:=ae (HJ5.out.trans hb6);clear hO6 hb6 HO5 HR5 HX5 HJ5 x0 x1 x2 x3 x4 x5 x6 x7;go_wp2_with fail;go_step3;exact .inl ⟨rfl,x-1,by omega,k+1,(k:Int),_,_,cl,w1,⟨by omega,by omega,ae (by omega),HB1,HR1,HO6,HJ6⟩,eP _ _ rfl⟩
  ·obtain rfl:k=X.length:=by omega
   rw[aJ (ah _)] at HO;go_wp2_with fail;go_step3;exact .inr ⟨rfl,_,al,cl,w1,⟨HB1,HO,HB⟩,eP _ _ rfl⟩
 ·rintro a2' w2 ⟨vo,al,cl,w1,⟨HB1,HO,HB⟩,f,rfl⟩
  obtain⟨av,cv,rfl,-⟩:=HO.out.val;have hcn:(fB X).length<=19:=HN19.out;have HR:=ae HO.out.fr;rw[aC] at HR ⊢;obtain⟨N,hN⟩:∃N,(fB X).length=N:=⟨_,rfl⟩;rw[hN] at HR ⊢;have CS:=ae (wO K H Z (fB X) _ av N cv w2 HR.out hN (by omega) HS.out);have CK:=ae fun (W:World) (hW:Below w2.heap.size w2 W)=>Dh K H Z (fB X) _ av N cv W ((rS 8 _).new HR.out hW) hN (by omega) HS.out;clear CD CC HO hcn hN hlen;go_wp2_with fail;refine CS.out.mono ?_;rintro e w3 ⟨rfl,hb3⟩;have CK3:=ae (CK.out w3 hb3);have HB3:=ae hb3;clear hb3 CS CK;go_wp2_with fail;refine CK3.out.mono ?_;rintro e w4 ⟨rfl,hb4⟩;have HB4:=ae (HB3.out.trans (hb4.mono HB3.out.size));clear hb4 CK3;go_wp2_with fail;simp only[dn];go_ret;exact⟨_,_,_,rfl,(rS 8 _).more ((rS 8 _).new HR.out HB4.out) fun b hb _=>aO (aO (Nat.le_of_lt hs0) HB1.out.size) hb,(HB0.out.trans (HB1.out.mono HB0.out.size)).trans ((HB.out.trans (HB4.out.mono HB.out.size)).mono (aO (Nat.le_of_lt hs0) HB1.out.size))⟩
end
