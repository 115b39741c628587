import Derived.Test.YtgccllbnfngpcaaGreatDoorW17
set_option linter.unusedVariables false
set_option maxRecDepth 100000
set_option maxHeartbeats 400000000
namespace Go.Proofs.YtgccllbnfngpcaaGreatDoor
open Go.RowKit _root_.Go.Proofs.Tryz List
open Value (int slice pointer bool)
open IntKind (i64)
open Ending (returned)
open Obj (cells)
section
variable {B:Nat}
theorem I3(m:cQ)(r:cJ)(o:Value)(g k:PK)(b i l:Nat)(F:Nat->Prop)(w:World)(V:b<=12)(E:m.objs.length=b)(p:(rS 4 (m.objs.map bQ)).ok w F [slice g b i])(G:fB m.K m.H m.Z=true)(H:r.i<=65535)(I:r.o<=16777215)(J:r.b<8)(K:∀e∈m.objs,e.obj=r.o->Ha e r):
 Calls prog 179 #[.agg (bV m o (slice g b i)),.agg (ek m.K m.H m.Z r (slice k m.Z l))] w λe a=>e=returned (bool (m.objs.any λe=>e.obj == r.o))/\Below w.heap.size w a:=by
 obtain⟨x,y,c,d,a,ex,z,j⟩:=m;simp only at*;obtain⟨f,n⟩:∃f,f=(w.alloc (cells (bV ⟨x,y,c,d,a,ex,z,j⟩ o (slice g b i)) 68)).alloc (cells (ek c d a r (slice k a l)) 178):=⟨_,rfl⟩;have L:(w.alloc (cells (bV ⟨x,y,c,d,a,ex,z,j⟩ o (slice g b i)) 68)).heap.size=w.heap.size+1:=by simp
 have M:PH (Below w.heap.size w f):=ae (by rw[n];exact((az _ _).alloc (aj _) _).alloc (by simp) _)
 have A:PH (Sx w f [bS (w.heap.size+1) 178 (ek c d a r (slice k a l)),bS w.heap.size 68 (bV ⟨x,y,c,d,a,ex,z,j⟩ o (slice g b i)),eR F (slice g b i) (rS 4 (j.map bQ))]):=
  ae (((((Sx.nil w).add (eR F (slice g b i) (rS 4 (j.map bQ))) p).step M.o).add (bS w.heap.size _ _) (by rw[n];exact(Blk.new w _ _).alloc _)).add (bS _ _ _) (by rw[n,<-L];exact Blk.new _ _ _))
 have s:decide (r.b<8)=true:=bf J;have q:=ae λw=>uJ r.o r.b r.i c d a r.t k l w I (by omega) H G;rw[s] at q;clear s
 have s:=ae λw (p:(rS 4 (j.map bQ)).ok w F [slice g b i]) (t:Blk w (f.heap.size-1) 178 (ek c d a r (slice k a l)))=>Ee (λe=>e.obj == r.o) 246 #[pointer (some ⟨f.heap.size-1,0,none⟩)] j F g b i w p E (by omega) (enters_of func246 (by kernel_rfl) rfl) (λD R N O P Q S=>by
  obtain⟨u,C,v,xt⟩:=D;by_cases D:C=r.o
  ·subst D
   rw[show(((⟨u,r.o,v,xt⟩:cN).obj == r.o)=true) from beq_self_eq_true _];exact Dv c d a v (f.heap.size-1) r u xt (slice k a l) P xt.length Q F N (t.below O t.lt) S rfl (K _ R rfl)
  ·rw[show(((⟨u,C,v,xt⟩:cN).obj == r.o)=false) from beq_eq_false_iff_ne.2 D]
   exact Gb c d a v (f.heap.size-1) C r u xt (slice k a l) P xt.length Q N (t.below O t.lt) D)
 have t:f.heap.size-1=w.heap.size+1:=by rw[n];simp
 rw[t] at s;clear t;obtain⟨t,N⟩:∃t,t=j.any λe=>e.obj == r.o:=⟨_,rfl⟩;rw[<-N] at s ⊢;clear N;have Y:=Gu;have W:=MG c d a;clear p L I J H G K V E;obtain⟨Z,rb,ri,rt,rd⟩:=r;simp only[uI] at q;unfold ek bV at*;simp only at*;go_enter func179,ntmps179;go_upto_region 1 with fail
 (try rw[<-n])
 have aa:=ae n;clear n;obtain⟨L,N,O,P,Q,R,S,T⟩:=bY (A.o.blk 0 rfl);go_wp2_with fail;refine(q.o f).mono ?_;rintro e X ⟨rfl,U⟩;have n:=ae (A.o.step U);clear U q A M L N O P Q R S T;obtain⟨L,N,O,P,Q,R,S,T⟩:=bY (n.o.blk 0 rfl);obtain⟨M,U,m2,m3,m4,m5,m6,m7⟩:=bY (n.o.blk 1 rfl)
 go_wp2_with (simp only[])
 refine(s.o X (n.o.rep 2 rfl) (n.o.blk 0 rfl)).mono ?_;rintro e w2 ⟨rfl,q⟩;have A:=ae (n.o.step q);clear q s n;go_wp2_with fail;go_ret;exact⟨rfl,A.o.1⟩
theorem wS(m:cQ)(dg p ay:Nat)(O:Value)(H:PK)(y I:Nat)(F:Nat->Prop)(X:List (Option cJ×PI))(o:Option Nat)(w:World)(h:DrR w dg p ay (fU X) o)(aA:y<=12)(aB:m.objs.length=y)(V:(rS 4 (m.objs.map bQ)).ok w F [slice H y I])
 (hk:fB m.K m.H m.Z=true)(aX:sK m X):
 Calls prog 118 #[pointer (some ⟨dg,0,none⟩),.agg (bV m O (slice H y I))] w λl b=>∃a n c,l=returned (slice a n c)/\(rS 8 ((dX X).map (tu m.K m.H m.Z))).ok b (Fr w.heap.size) [slice a n c]/\Below w.heap.size w b:=by
 obtain⟨b,d,e⟩:=aX;have u:=(az w.heap.size w).alloc (aj _) (cells (bV m O (slice H y I)) 68);have ak:=ae (Blk.new w 68 (bV m O (slice H y I)));have a0:=ae ((rS 4 _).new V u);obtain⟨vr,wt,f,g,-⟩:=h.below u;have a1:(fU X).length=X.length:=iJ X
 have CD:=ae (Ju dg p ay wt vr (fU X) _ _ f g.rep (by omega) (λW hx=>by
  obtain⟨v,hy,rfl⟩:=aY.1 hx;have:=(b v hy).1;omega))
 have aD:=ae u;have a4:=ae b;have HS:=ae e;have HK:=ae hk;have ap:=ae d;have CF:=ae λ(r:cJ) (D:PK) (E:Nat) w (V:(rS 4 (m.objs.map bQ)).ok w F [slice H y I]) (j:r.i<=65535) (k:r.o<=16777215) (q:r.b<8) (s:∀l∈m.objs,l.obj=r.o->Ha l r)=>I3 m r O H D y I E F w aA aB V hk j k q s;clear h V hk b e u f g d aA aB;obtain⟨sq,nx,f,g,e,ex,dr,os⟩:=m;unfold bV ek at*;simp only at*;generalize a5:w.alloc (cells #[int i64 sq,int i64 nx,int i64 f,int i64 g,int i64 e,int i64 ex,O,slice H y I] 68)=w0 at*;have aE:w.heap.size<w0.heap.size:=ak.o.lt;go_enter func118,ntmps118;refine wp_seq_k λK1 z=> ?_;have A:=ae z;clear z;go_wp2_with fail;refine A.o _ _ ?_;clear A
 (try rw[a5])
 refine qF 0 1 (λW ac k=>∃(d:Nat) (i:Int) (P:Value) (G:PK) (s:Nat) (w1:World),(X.length<d+W/\d<=X.length/\PH (i=(d:Int)-1)/\PH (Below w0.heap.size w0 w1)/\PH ((rM (fU X)).ok w1 Any [slice G X.length s])/\PH (OwnS k w1.heap.size 178 8 (Fr w1.heap.size) P ((dX (X.take d)).map (tu f g e)))/\PH (Below w1.heap.size w1 k))/\∃b:Nat->Value,ac= { tmps:=#[pointer (some ⟨dg,0,none⟩),.agg #[int i64 sq,int i64 nx,int i64 f,int i64 g,int i64 e,int i64 ex,O,slice H y I],undef,pointer (some ⟨w.heap.size,0,none⟩),slice none 0 0,slice G X.length s,P,int i64 i,b 8,b 9,b 10,b 11,b 12,b 13,b 14,b 15,b 16,b 17,b 18,b 19,b 20,b 21,b 22,b 23,b 24,b 25,b 26,b 27,b 28,b 29,b 30,b 31,b 32,b 33,b 34,b 35,b 36,b 37,b 38,b 39],defers:=[] })
  (λac k=>∃(P:Value) (G:PK) (s:Nat) (w1:World),(PH (Below w0.heap.size w0 w1)/\PH (OwnS k w1.heap.size 178 8 (Fr w1.heap.size) P ((dX X).map (tu f g e)))/\PH (Below w1.heap.size w1 k))/\∃b:Nat->Value,ac= { tmps:=#[pointer (some ⟨dg,0,none⟩),.agg #[int i64 sq,int i64 nx,int i64 f,int i64 g,int i64 e,int i64 ex,O,slice H y I],undef,pointer (some ⟨w.heap.size,0,none⟩),slice none 0 0,slice G X.length s,P,b 7,b 8,b 9,b 10,b 11,b 12,b 13,b 14,b 15,b 16,b 17,b 18,b 19,b 20,b 21,b 22,b 23,b 24,b 25,b 26,b 27,b 28,b 29,b 30,b 31,b 32,b 33,b 34,b 35,b 36,b 37,b 38,b 39],defers:=[] }) (X.length+1) _ rfl rfl ?_ ?_ ?_
 ·intro L q
  have C:=ae q;clear q;refine wp_seq_k λK1 z=> ?_;have A:=ae z;clear z;go_wp2_with fail;refine CD.o.mono ?_;rintro l w1 ⟨M,rfl,j,x⟩;obtain⟨G,s,rfl,-⟩:=j.val;rw[aC,iJ] at j ⊢;have Y:PH ((rM (fU X)).ok w1 Any [slice G X.length s]):=ae j.repAny;have t:=ae x;have J:PH (OwnS w1 w1.heap.size 178 8 (Fr w1.heap.size) (slice none 0 0) ((dX (X.take 0)).map (tu f g e))):=ae (OwnS.nil _ _ _ _ _);have K:=ae (az w1.heap.size w1);clear j x CD;go_wp2_with fail;refine A.o _ _ ?_;clear A;refine wp_seq_k λK1 z=> ?_;have A:=ae z;clear z;go_wp2_with fail;refine A.o _ _ ?_;clear A;refine wp_seq_k λK1 z=> ?_;have A:=ae z;clear z;go_wp2_with fail;refine A.o _ _ ?_;clear A;refine wp_seq (wp_label ?_);refine C.o _ _ ?_;exact⟨0,-1,_,G,s,w1,⟨by omega,by omega,ae rfl,t,Y,J,K⟩,dV _ _ rfl⟩
 ·rintro W ac k ⟨d,i,P,G,s,w1,⟨hx,bl,HI,t,Y,j,q⟩,b,rfl⟩
  have bm:IntKind.i64.wrap (i+1)=(d:Int):=(by rw[HI.o,IntKind.wrap_i64];have:=ap.o;omega);have aF:=ae ((ak.o.below t.o ak.o.lt).below q.o (aW ak.o.lt t.o.size));have a6:=ae ((rS 4 _).new ((rS 4 _).new a0.o t.o) q.o);clear CD;by_cases am:d<X.length
  ·have bo:(d:Int)<(X.length:Int):=by omega
   have bp:¬(X.length:Int)<=(d:Int):=(by omega);obtain⟨ar,cr,er,x,-⟩:=eZ ((rM _).new Y.o q.o) (n:=X.length) (iJ X);injection er with a7 _ a8;subst a7 a8;obtain⟨bx,ox,ax,cx,rfl,br,aK,Z,C,an,aL⟩:=x.at (i:=d) (by omega);have eR:(fU X).getD d []=(X.getD d (none,[])).2:=Hb X am;have a9:=a4.o (X.getD d (none,[])) (by rw[af,ah am];exact aQ am);have HT:PH (dX (X.take (d+1))=dX (X.take d)++(match (X.getD d (none,[])).1 with | some v=>[v] | none=>[])):=ae (Hd am);have bs:(dX (X.take d)).length<=1000:=(by unfold dX;have h1:=length_filterMap_le (·.1) (X.take d);rw[aG] at h1;have:=ap.o;omega);rw[eR] at aK Z an;clear eR x C;generalize dX (X.take d)=bc at*;generalize X.getD d (none,[])=bd at*;obtain⟨oy,aM⟩:=bd;obtain⟨q1,q2,q3⟩:=a9;simp only at*;rw[q1] at aK Z an;obtain⟨av,nv,cv,rfl⟩:=j.o.sl;rcases q3 with⟨rfl,aO⟩ | ⟨v,p1,p2,p3,p4,p5,p6,p7,p8,p9⟩
   ·rw[append_nil] at HT
    have Q:=ae (uK aM ax cx k Z q2 ⟨an,aL⟩ aO);rw[<-HT.o] at j;unfold ib at Q;clear Z q1 q2 aO;go_wp2_with fail;refine Q.o.mono ?_;rintro l C ⟨rfl,x⟩;have u:=(az C.heap.size C).alloc (aj _) (cells #[int i64 0,int i64 0,int i64 0,int i64 0,int i64 0,int i64 0,.int .u32 0,slice none 0 0] 178);have ad:=ae ((j.o.new x).new u);have J:=ae (q.o.trans ((x.trans (u.mono x.size)).mono q.o.size));clear u x Q j;go_wp2_with fail;go_step3;exact .inl ⟨rfl,W-1,by omega,d+1,(d:Int),_,_,s,w1,⟨by omega,by omega,ae (by omega),t,Y,ad,J⟩,dV _ _ rfl⟩
   ·have Q:=ae (zN v.o v.b v.i f g e v.t v.d aM ax cx k p5 p6 p4 HK.o p7 p2 p3 p1 Z q2 ⟨an,aL⟩)
    have J:=ae p4;have K:=ae p5;have L:=ae p6;have M:=ae p8;have aq:=ae λD E w V=>CF.o v D E w V J.o K.o L.o M.o;obtain⟨bb,N⟩:∃bb,bb=os.any λl=>l.obj == v.o:=⟨_,rfl⟩;rw[<-N] at aq p9;clear N;subst p9;clear Z q1 q2 p1 p2 p3 p4 p5 p6 p7 p8 CF J K L M;obtain⟨K,L,M,N,S⟩:=v;unfold uI at Q;simp only at*;go_wp2_with fail;refine Q.o.mono ?_;rintro l C ⟨D,E,rfl,U,x⟩;have u:=(az C.heap.size C).alloc (aj _) (cells #[int i64 K,int i64 L,int i64 M,int i64 f,int i64 g,int i64 e,.int .u32 (N:Nat),slice D e E] 178);have T:Below k.heap.size k (C.alloc (cells #[int i64 K,int i64 L,int i64 M,int i64 f,int i64 g,int i64 e,.int .u32 (N:Nat),slice D e E] 178)):=x.trans (u.mono x.size);have ag:=ae (Blk.new C 178 #[int i64 K,int i64 L,int i64 M,int i64 f,int i64 g,int i64 e,.int .u32 (N:Nat),slice D e E]);have au:=ae (aF.o.below T aF.o.lt);have ad:=ae ((rS 4 _).new a6.o T);have aw:=ae ((rB S).new U u);have J:=ae T;clear u T U x Q;go_upto_region 7 with fail;generalize C.alloc (cells #[int i64 K,int i64 L,int i64 M,int i64 f,int i64 g,int i64 e,.int .u32 (N:Nat),slice D e E] 178)=w4 at*;generalize C.heap.size=G4 at*;obtain⟨m0,m1,m2,m3,m4,m5,m6,m7⟩:=bY au.o;obtain⟨x0,x1,x2,x3,x4,x5,x6,x7⟩:=bY ag.o;go_wp2_with fail;refine(aq.o D E w4 ad.o).mono ?_;rintro l w5 ⟨rfl,aa⟩;cases bb with
    | false=>
      rw[bh (by decide),append_nil] at HT;rw[<-HT.o] at j;have U:=ae (J.o.trans (aa.mono J.o.size));have ao:=ae (j.o.new U.o);have ai:=ae (q.o.trans (U.o.mono q.o.size));clear aa ag au ad aw J m0 m1 m2 m3 m4 m5 m6 m7 x0 x1 x2 x3 x4 x5 x6 x7 j U aq;go_wp2_with fail;go_step3;exact .inl ⟨rfl,W-1,by omega,d+1,(d:Int),_,_,s,w1,⟨by omega,by omega,ae (by omega),t,Y,ao,ai⟩,dV _ _ rfl⟩
    | true=>
      rw[bg rfl] at HT;have aR:=ae (ag.o.below aa ag.o.lt);have U:=ae (J.o.trans (aa.mono J.o.size));have aS:PH ((tu f g e ⟨K,L,M,N,S⟩).ok w5 (λab=>Fr w1.heap.size ab/\some ab≠(Value.slice av nv cv).ownBlock) (ek f g e ⟨K,L,M,N,S⟩ (slice D e E)).toList):=ae (rn_ok (r:=⟨K,L,M,N,S⟩) ((rB S).more ((rB S).new aw.o aa) λab hb _=>⟨aP q.o.size hb,λl=>by have h1:=(j.o.lt ab l.symm).2;have h2:k.heap.size<=ab:=hb;omega⟩));have ao:=ae (j.o.new U.o);have ai:=ae (q.o.trans (U.o.mono q.o.size));have be:w1.heap.size<=w5.heap.size:=ai.o.size;have bi:(bc.map (tu f g e)).length<=1000000:=(by rw[aC];omega);clear aa ag au ad aw J m0 m1 m2 m3 m4 m5 m6 m7 x0 x1 x2 x3 x4 x5 x6 x7 j U;obtain⟨x0,x1,x2,x3,x4,x5,x6,x7⟩:=bY aR.o
      go_wp2_with (at_builtin;refine gT (w:=w5) (w1:=w5) rfl _ _ rfl underlying175 Jj rfl (by decide) (by decide) ao.o (az _ _) be bi (R:=tu f g e ⟨K,L,M,N,S⟩) aS.o rfl rfl rfl ?_)
      intro v6 w6 aT aV;have bj:PH (OwnS w6 w1.heap.size 178 8 (Fr w1.heap.size) v6 ((dX (X.take (d+1))).map (tu f g e))):=ae (by rw[HT.o,aU];exact aT);have bk:=ae (ai.o.trans aV);clear aT aV ao aS aR ai x0 x1 x2 x3 x4 x5 x6 x7;go_wp2_with fail;go_step3;exact .inl ⟨rfl,W-1,by omega,d+1,(d:Int),_,_,s,w1,⟨by omega,by omega,ae (by omega),t,Y,bj,bk⟩,dV _ _ rfl⟩
  ·obtain rfl:d=X.length:=by omega
   rw[aJ (aj _)] at j;go_wp2_with fail;go_step3;exact .inr ⟨rfl,_,G,s,w1,⟨t,j,q⟩,dV _ _ rfl⟩
 ·rintro ac k ⟨P,G,s,w1,⟨t,j,q⟩,b,rfl⟩
  obtain⟨av,cv,rfl,-⟩:=j.o.val;have N:(dX X).length<=24:=aP (length_filterMap_le _ _) ap.o;have d:=ae j.o.fr;rw[aC] at d ⊢;obtain⟨D,E⟩:∃D,(dX X).length=D:=⟨_,rfl⟩;rw[E] at d ⊢;have K:=ae (x9 f g e (dX X) _ av D cv k d.o E (by omega) HS.o);have L:=ae λ(M:World) (Q:Below k.heap.size k M)=>Cv f g e (dX X) _ av D cv M ((rS 8 _).new d.o Q) E (by omega) HS.o;clear CD CF j N E a1;go_wp2_with fail;refine K.o.mono ?_;rintro l C ⟨rfl,x⟩;have E:=ae (L.o C x);have M:=ae x;clear x K L;go_wp2_with fail;refine E.o.mono ?_;rintro l w4 ⟨rfl,T⟩;have J:=ae (M.o.trans (T.mono M.o.size));clear T E;go_wp2_with fail;simp only[dz];go_ret;exact⟨_,_,_,rfl,(rS 8 _).more ((rS 8 _).new d.o J.o) λab hb _=>aP (aP (Nat.le_of_lt aE) t.o.size) hb,(aD.o.trans (t.o.mono aD.o.size)).trans ((q.o.trans (J.o.mono q.o.size)).mono (aP (Nat.le_of_lt aE) t.o.size))⟩
end
section
variable {B:Nat}
theorem arch_at(b:List Int)(a:PK)(n c i:Nat)(w:World)(d:Rd w w.heap.size a n (b.map (Value.int .i64))):Calls prog 83 #[slice a n c,int i64 i] w λe f=>e=returned (int i64 (b.getD i 0))/\f=w:=by
 have f:b.length=n:=by have:=d.len;rwa [aC] at this
 by_cases h:i<n
 ·have j:¬(n:Int)<=(i:Int):=by omega
  have m:(i:Int)<(n:Int):=(by omega);obtain⟨k,l,rfl,o,g⟩:=d.2 (by omega);have p:w.cell? ⟨k,l+i,none⟩=some (int i64 (b.getD i 0)):=g i _ (by rw[List.getElem?_map,af,ah (by omega)];rfl);generalize b.getD i 0=q at*;clear g d f;go_enter func83,ntmps83;go_wp2_with fail;go_ret;exact⟨rfl,rfl⟩
 ·have j:(n:Int)<=(i:Int):=by omega
  have e:b.getD i 0=0:=(by rw[af,List.getElem?_eq_none (by omega)];rfl);rw[e];clear d e f;go_enter func83,ntmps83;go_wp2_with fail;go_ret;exact⟨rfl,rfl⟩
theorem LY(R:List PI)(F:Nat->Prop)(a:PK)(n c:Nat)(w:World)(s:(rM R).ok w F [slice a n c])(t:R.length=n)(hn:n<=1000)(u:∀x∈R,x.length<=1000):
 Calls prog 39 #[slice a n c] w λe b=>∃v,e=returned v/\OwnS b w.heap.size 30 1 (Ty 5 b) v (R.map rB)/\Below w.heap.size w b:=by
 have L:PH (Sx w w [eR F (slice a n c) (rM R)]):=ae ((Sx.nil w).add (eR F _ _) s);have k:=ae t;have N:=ae u;have y:PH (OwnS w w.heap.size 30 1 (Ty 5 w) (slice none 0 0) ((R.take 0).map rB)):=ae (OwnS.nil _ _ _ _ _);have z:=ae (az w.heap.size w);clear s t u;go_enter func39,ntmps39;go_wp2_with fail;go_loopw [3,8] (λv d wr=>∃b:Nat,b<=n/\d=int i64 b/\PH (OwnS wr w.heap.size 30 1 (Ty 5 wr) v ((R.take b).map rB))/\PH (Below w.heap.size w wr)) (λ_ d _=>n-(intOf d).toNat)
 case atStart=>exact⟨0,by omega,rfl,y,z⟩
 case round=>
  clear y z;obtain⟨b,ad,rfl,g,i⟩:=hrel;have A:=ae (L.o.step i.o);obtain⟨C,D,E,rfl⟩:=g.o.sl;by_cases o:b<n
  ·have ag:(b:Int)<(n:Int):=by omega
   obtain⟨aX,cX,O,d,-⟩:=eZ (A.o.rep 0 rfl) k.o;injection O with P _ Q;subst P Q;obtain⟨bx,ox,S,T,rfl,ai,K,f,j,m,p⟩:=d.at o;have l:=N.o (R.getD b []) (by rw[af,ah (by rw[k.o];exact o)];exact aQ _)
   have G:PH ((R.take (b+1)).map rB=(R.take b).map rB++[rB (R.getD b [])]):=ae (by
    have H:b<R.length:=(by rw[k.o];exact o);rw[aN H,aU,af,ah H];rfl)
   have U:((R.take b).map rB).length<=1000000:=(by rw[aC,aG];omega);have I:=ae (dJ (R.getD b []) _ S _ T wr f (aj _) j (by omega));have ak:PH ((R.getD b []).length<=1000):=ae l;clear d f j m p l;generalize d:R.getD b []=l at*;generalize V:l.length=W at*;generalize f:(R.take b).map rB=X at*;clear d f;go_wp2_with fail;refine I.o.mono ?_;rintro e f ⟨v2,rfl,p,q⟩;obtain⟨Y,Z,rfl,-⟩:=p.rd2 V;have m:PH (OwnS f w.heap.size 30 1 (Ty 5 f) (slice C D E) X):=ae (g.o.chg (M:=λ_=>False) (Chg.of q) (λ_ _ h=>h) λ_ h=>h.elim);have J:PH ((rB l).ok f (λd=>Ty 5 f d/\some d≠(Value.slice C D E).ownBlock) [slice Y W Z]):=ae ((rB l).more (kL p) λd j _=>⟨j.1,λe=>(m.o.ownTy d e.symm).ne j.1 (by decide)⟩);have r:=ae (i.o.trans (q.mono i.o.size));have aa:w.heap.size<=f.heap.size:=r.o.size;clear p q I A K g i
   go_wp2_with (at_builtin;refine gM (w:=f) rfl _ _ rfl underlying45 dA rfl (by decide) (by decide) m.o aa U (R:=rB l) J.o rfl rfl rfl ?_)
   intro v6 w6 p q ab I ac;rw[<-G.o] at p;have K:=ae (p.reTy λd j=>I d j.lt λe=>j.ne (m.o.ownTy d e.symm) (by decide));have d:=ae (r.o.trans q);clear p q ab I ac m J G r;obtain⟨j,m,p,rfl⟩:=K.o.sl;go_wp2_with fail;go_roundw
   case rel=>exact⟨b+1,by omega,by go_num,K,d⟩
   case measure=>simp[intOf];omega
  ·obtain rfl:b=n:=by omega
   have d:PH ((R.take b).map rB=R.map rB):=ae (by rw[aJ (by rw[k.o];exact aj _)]);rw[d.o] at g;go_wp2_with fail;go_ret;exact⟨_,rfl,g.o,i.o⟩
theorem BR(g p l:Nat)(v:Value)(R:List PI)(F:Nat->Prop)(a:PK)(n c:Nat)(w:World)(h:DrB w g p l v 0)(r:PwS w p)(q:(rM R).ok w F [slice a n c])(t:R.length=n)(S:n<=1000)(ab:n<=l)(u:∀x∈R,x.length=64):
 Calls prog 134 #[pointer (some ⟨g,0,none⟩),slice a n c] w λb d=>b=returned (int i64 0)/\∃e,DrB d g p l e 0/\OwnS d w.heap.size 30 1 (Ty 5 d) e (R.map rB)/\Chg (·=g) w d:=by
 have y:=ae h;have HP:=ae r;have T:=ae q;have J:=ae t;have U:=ae u;have z:=ae (Bd p w r);have A:=ae (ze p w r);have C:=ae (LY R F a n c w q t S λx q=>by rw[u x q];omega);have ac:¬(l:Int)<(n:Int):=by omega
 clear h r q t u;go_enter func134,ntmps134;go_wp2_with fail;go_loopw [9] (λd wr=>∃i:Nat,i<=n/\d=int i64 i/\PH (wr=w)) (λd _=>n-(intOf d).toNat)
 case atStart=>exact⟨0,by omega,rfl,ae rfl⟩
 case round=>
  obtain⟨i,ad,rfl,d⟩:=hrel;have V:=d.o;subst V;clear d;by_cases K:i<n
  ·have W:(i:Int)<(n:Int):=by omega
   obtain⟨G,H,f,d,-⟩:=eZ T.o J.o;injection f with j _ D;subst j D;obtain⟨I,L,N,O,rfl,P,k,m,o,s,E⟩:=d.at K;have e:=U.o (R.getD i []) (by rw[af,ah (by rw[J.o];exact K)];exact aQ _);rw[e] at k;clear d m o s E e C A z;go_wp2_with fail;go_roundw
   case rel=>exact⟨i+1,by omega,by go_num,by first | exact ae rfl | trivial⟩
   case measure=>simp[intOf];omega
  ·obtain rfl:i=n:=by omega
   have W:¬(i:Int)<(i:Int):=(by omega);obtain⟨I,N,E,G,O,P,Q⟩:=y.o.cells;go_wp2_with fail;refine z.o.mono ?_;rintro b w2 ⟨rfl,rfl⟩;go_wp2_with fail;refine A.o.mono ?_;rintro b s ⟨rfl,rfl⟩;go_wp2_with fail;refine C.o.mono ?_;rintro b j ⟨v4,rfl,k,o⟩;obtain⟨d,e,f,rfl⟩:=k.sl;have m:=ae (Blk.below y.o o (Blk.lt y.o));have H:=ae k;have L:PH (Chg (·=g) s j):=ae (Chg.of o);clear k o C z A I N E G O P Q;have X:=Blk.frozen m.o 2;have E:=Blk.cell m.o 2;have o:PH (DrB (j.setCell ⟨g,2,none⟩ (slice d e f)) g p l (slice d e f) 0):=ae (Blk.set m.o 2 _);have Y:=Blk.frozen o.o 3;have G:(j.setCell ⟨g,2,none⟩ (slice d e f)).cell? ⟨g,3,none⟩=some (int i64 0):=Blk.cell o.o 3;have D:(j.setCell ⟨g,2,none⟩ (slice d e f)).setCell ⟨g,3,none⟩ (int i64 0)=j.setCell ⟨g,2,none⟩ (slice d e f):=lf o.o (by rfl);have N:some g≠(Value.slice d e f).ownBlock:=λb=>(Blk.ty m.o).ne (H.o.ownTy g b.symm) (by decide);have O:PH (OwnS (j.setCell ⟨g,2,none⟩ (slice d e f)) s.heap.size 30 1 (Ty 5 (j.setCell ⟨g,2,none⟩ (slice d e f))) (slice d e f) (R.map rB)):=ae (H.o.chg (M:=(·=g)) ((Chg.refl (·=g) j).set ⟨g,2,none⟩ _ λ_=>rfl) (λI k b=>N (by rw[k,b])) (λI b k=>Ty.ne2 b k (Blk.ty m.o) (by decide)));have P:PH (Chg (·=g) s (j.setCell ⟨g,2,none⟩ (slice d e f))):=ae (L.o.set ⟨g,2,none⟩ _ λ_=>rfl);have Q:=ae (zg g p l 0 (slice d e f) (j.setCell ⟨g,2,none⟩ (slice d e f)) o.o);clear m H L;go_wp2_with fail;refine Q.o.mono ?_;rintro b H ⟨rfl,L,m⟩;have Z:=ae L;have aa:PH (OwnS H s.heap.size 30 1 (Ty 5 H) (slice d e f) (R.map rB)):=ae (O.o.chg m (λI k b=>N (by rw[k,b])) λI b k=>Ty.ne2 b k (Blk.ty o.o) (by decide));have k:=ae (P.o.trans m);clear L m Q o O P X E Y G D;go_wp2_with fail;go_ret;exact⟨rfl,_,Z.o,aa.o,k.o⟩
end
section
variable {B:Nat}
theorem Drz.drw{w:World}{f:Fl}{R:Nat->List PI}{W:Nat->Nat}(a:Drz B w f R W){s:Nat}(hs:s<f.n)(c:f.Z s=false):∃o,DrW w (f.D s) f.p (f.room s) (R s) (W s) o:=by
 obtain⟨-,⟨o,d,-⟩,-⟩:=a;rcases d s hs with⟨b,-⟩ | ⟨-,a⟩
 ·rw[c] at b;cases b
 ·exact⟨_,a⟩
theorem Drz.congr{w:World}{f:Fl}{R Q:Nat->List PI}{W:Nat->Nat}(b:Drz B w f R W)(e:∀i,i<f.n->R i=Q i):Drz B w f Q W:=by
 obtain⟨c,⟨d,g,h⟩,j,k⟩:=b;exact⟨c,⟨d,λi a=>by rw[<-e i a];exact g i a,h⟩,j,k⟩
theorem Drz.md{w:World}{f:Fl}{R:Nat->List PI}{W:Nat->Nat}(b:Drz B w f R W){s:Nat}(hs:s<f.n):B<=f.D s/\Md w (f.D s)/\f.D s<w.heap.size:=by
 obtain⟨d,⟨e,a,g⟩,h,c⟩:=b;exact⟨c s hs,.inl (a s hs).ty,(a s hs).ty.lt⟩
theorem Ab(s:Nat)(f:Fl)(R:Nat->List PI)(W:Nat->Nat)(L:List PI)(F:Nat->Prop)(a:PK)(n c:Nat)(w:World)(hs:s<f.n)(z:f.Z s=false)(A:W s=0)(o:Drz B w f R W)(N:(rM L).ok w F [slice a n c])(O:L.length=n)(P:n<=1000)(Q:n<=f.room s)(C:∀x∈L,x.length=64):
 Calls prog 134 #[pointer (some ⟨f.D s,0,none⟩),slice a n c] w λg p=>g=returned (int i64 0)/\Drz B p f (upd R s L) W/\Chg (·=f.D s) w p:=by
 obtain⟨q,⟨D,l,S,T⟩,E,G⟩:=o;have m:=λb e=>(l b e).ty;have r:=λb e=>(l b e).oty
 obtain⟨U,j,t,V,Y,Z⟩:DrW w (f.D s) f.p (f.room s) (R s) (W s) (D s):=by
  rcases l s hs with⟨g,-⟩ | ⟨-,o⟩
  ·rw[z] at g;cases g
  ·exact o
 rw[A] at j;refine(BR (f.D s) f.p (f.room s) U L F a n c w j q N O P Q C).mono ?_;rintro g p ⟨rfl,H,X,I,u⟩;have v:=I.lt;refine⟨rfl,⟨Blk.chg q u λg=>(Blk.ty q).ne (g▸m s hs) (by decide),⟨upd D s H.ownBlock,λb e=> ?_,λb y h e J K d i=> ?_,λb h e d=> ?_⟩,E,G⟩,u⟩
 ·by_cases g:b=s
  ·subst g
   rw[upd_same,upd_same,A];exact .inr ⟨z,H,X,I.base (bu _) λh k=>k,bu _,rfl,C⟩
  ·rw[upd_ne _ _ g,upd_ne _ _ g]
   exact(l b e).chg u (λd=>E b s e hs g d) (λh k d=>(r b e h k).ne (d▸m s hs) (by decide)) (λh d k=>k.ne (d▸m s hs) (by decide))
 ·by_cases k:b=s
  ·subst k
   rw[upd_same] at d;rw[upd_ne _ _ (Ne.symm K)] at i;have j:=(v h d).1;have t:=(r y J h i).lt;omega
  ·rw[upd_ne _ _ k] at d
   by_cases M:y=s
   ·subst M
    rw[upd_same] at i;have j:=(v h i).1;have t:=(r b e h d).lt;omega
   ·rw[upd_ne _ _ M] at i
    exact S b y h e J K d i
 ·by_cases k:b=s
  ·subst k
   rw[upd_same] at d;have j:=(m b e).lt;have t:=G b e;have V:=(v h d).1;omega
  ·rw[upd_ne _ _ k] at d
   exact T b h e d
end
section
variable {B:Nat}
theorem EG{m:cQ}{X:List (Option cJ×PI)}(d:sK m X):∀y∈dX X,y.o<=16777215/\y.b<8/\y.i<=65535/\y.t<4294967296/\y.d.length=m.Z/\By y.d:=λy a=>by
 obtain⟨e,f,b⟩:=mem_filterMap.1 a;obtain⟨-,-,g⟩:=d.1 e f;rcases g with⟨c,-⟩ | ⟨h,-,i,j,k,l,n,o,-,a⟩
 ·rw[b] at c;cases c
 ·rw[b] at a
  have p:y=h:=by
   split at a
   ·injection a
   ·cases a
  subst p;exact⟨l,n,k,o,i,j⟩
theorem MX(m:cQ)(H p N:Nat)(E:Value)(t:PK)(l u:Nat)(F:Nat->Prop)(X:List (Option cJ×PI))(o:Option Nat)(w:World)(h:DrR w H p N (fU X) o)(ad:l<=12)(ag:m.objs.length=l)(I:(rS 4 (m.objs.map bQ)).ok w F [slice t l u])
 (O:fB m.K m.H m.Z=true)(J:sK m X):
 Calls prog 202 #[pointer (some ⟨H,0,none⟩),.agg (bV m E (slice t l u))] w λn a=>∃v,n=returned v/\OwnS a w.heap.size 30 1 (Ty 5 a) v (((dX X).map (kJ m.K m.H m.Z)).map rB)/\Below w.heap.size w a:=by
 have q:=(az w.heap.size w).alloc (aj _) (cells (bV m E (slice t l u)) 68);have i:=ae (Blk.new w 68 (bV m E (slice t l u)));have d:=ae q;have j:=ae λw (h:DrR w H p N (fU X) o) (I:(rS 4 (m.objs.map bQ)).ok w F [slice t l u])=>wS m H p N E t l u F X o w h ad ag I O J;have s:=ae (h.below q);have r:=ae ((rS 4 _).new I q);have aw:=ae (EG J);have ax:PH ((dX X).length<=24):=ae (aP (length_filterMap_le _ _) J.2.1);have ai:=ae O;clear h ad ag I O J q;obtain⟨sq,nx,b,c,a,ex,dr,os⟩:=m;unfold bV at*;simp only at*;go_enter func202,ntmps202;go_upto_region 2 with fail;generalize w.alloc (cells #[int i64 sq,int i64 nx,int i64 b,int i64 c,int i64 a,int i64 ex,E,slice t l u] 68)=w0 at*;obtain⟨A,D,G,m3,K,L,Q,S⟩:=bY i.o;go_wp2_with fail;refine(j.o w0 s.o r.o).mono ?_;rintro n e ⟨a1,x,c1,rfl,f,y⟩;have ay:=ae ((rS 8 _).more f λk _ g=>(g:Bl e.heap.size k));have g:(dX X).length=x:=by have h:=Cs f;rwa [aC] at h
 have P:=ae g;have ak:=ae (d.o.trans (y.mono d.o.size));have al:w.heap.size<=e.heap.size:=ak.o.size;have aO:x<=24:=by rw[<-g];exact ax.o
 generalize z:dX X=M at*;have aA:=ae z;clear z;clear f y j s r i d A D G m3 K L Q S g;have am:PH (OwnS e e.heap.size 30 1 (Ty 5 e) (slice none 0 0) (((M.take 0).map (kJ b c a)).map rB)):=ae (OwnS.nil _ _ _ _ _);have an:=ae (az e.heap.size e);go_wp2_with fail;go_loopw [5,12] (λv f wr=>∃d:Nat,d<=x/\f=int i64 d/\PH (OwnS wr e.heap.size 30 1 (Ty 5 wr) v (((M.take d).map (kJ b c a)).map rB))/\PH (Below e.heap.size e wr)) (λ_ f _=>x-(intOf f).toNat)
 case atStart=>exact⟨0,by omega,rfl,am,an⟩
 case round=>
  clear am an;obtain⟨d,aR,rfl,r,G⟩:=hrel;obtain⟨Q,S,T,rfl⟩:=r.o.sl;by_cases ao:d<x
  ·have aS:(d:Int)<(x:Int):=by omega
   have K:d<M.length:=(by rw[P.o];exact ao);obtain⟨bp,op,z,A,rfl,hF,y,D⟩:=jg ((rS 8 _).new ay.o G.o) P.o ao;have aB:=aw.o (M.getD d lq) (by rw[af,ah K];exact aQ K)
   have HT:PH (((M.take (d+1)).map (kJ b c a)).map rB=((M.take d).map (kJ b c a)).map rB++[rB (kJ b c a (M.getD d lq))]):=ae (by
    rw[aN K,aU,aU,af,ah K];rfl)
   have aD:(((M.take d).map (kJ b c a)).map rB).length<=1000000:=(by rw[aC,aC,aG];omega);generalize ((M.take d).map (kJ b c a)).map rB=LL at*;generalize M.getD d lq=aE at*;obtain⟨f,g,i,j,s⟩:=aE;obtain⟨g1,g2,g3,g4,L,g6⟩:=aB;simp only at*;rw[L] at y D;obtain⟨U,V,W,Y,Z,x5,x6,x7⟩:=y.c;have q:=(az wr.heap.size wr).alloc (aj _) (cells #[int i64 f,int i64 g,int i64 i,int i64 b,int i64 c,int i64 a,.int .u32 (j:Nat),slice z a A] 178);have HY:=ae (Blk.new wr 178 #[int i64 f,int i64 g,int i64 i,int i64 b,int i64 c,int i64 a,.int .u32 (j:Nat),slice z a A]);have ap:=ae ((rB s).new D q);have aq:PH (OwnS (wr.alloc (cells #[int i64 f,int i64 g,int i64 i,int i64 b,int i64 c,int i64 a,.int .u32 (j:Nat),slice z a A] 178)) e.heap.size 30 1 (Ty 5 (wr.alloc (cells #[int i64 f,int i64 g,int i64 i,int i64 b,int i64 c,int i64 a,.int .u32 (j:Nat),slice z a A] 178))) (slice Q S T) LL):=ae (r.o.chg (M:=λ_=>False) (Chg.of q) (λ_ _ h=>h) λ_ h=>h.elim);have aa:=ae (G.o.trans (q.mono G.o.size));have G1:=ae g1;have G2:=ae g2;have G3:=ae g3;have G4:=ae g4;have G5:=ae L;have G6:=ae g6;clear g1 g2 g3 g4 L g6 q D y hF r G;go_upto_region 5 with fail;clear U V W Y Z x5 x6 x7;generalize wr.alloc (cells #[int i64 f,int i64 g,int i64 i,int i64 b,int i64 c,int i64 a,.int .u32 (j:Nat),slice z a A] 178)=w2 at*;generalize wr.heap.size=G7 at*;obtain⟨U,V,W,Y,Z,x5,x6,x7⟩:=bY HY.o;obtain⟨a',c',n,y,D,-⟩:=fC ap.o G5.o;injection n with e1 e2 e3;subst e1 e3;have CP:=ae (oN f g i b c a j s z A w2 G1.o G2.o G3.o ai.o G4.o y G6.o D);unfold uI at CP;clear y D;go_wp2_with fail;refine CP.o.mono ?_;rintro n D ⟨gc,rfl,ar,hK,ab⟩;have L:PH (OwnS D e.heap.size 30 1 (Ty 5 D) (slice Q S T) LL):=ae (aq.o.chg (M:=λ_=>False) (Chg.of ab) (λ_ _ h=>h) λ_ h=>h.elim);have au:(kJ b c a ⟨f,g,i,j,s⟩).length=64:=gA (by rw[iT];have:=ba ai.o;have:=G5.o;show 13+s.length<=55;omega)
   have av:PH ((rB (kJ b c a ⟨f,g,i,j,s⟩)).ok D (λk=>Ty 5 D k/\some k≠(Value.slice Q S T).ownBlock) [slice (some ⟨gc,0,none⟩) 64 64]):=ae (by
    have h1:=OwnB.ofBlk (C:=w2.heap.size) hK ar (by show(kJ b c a ⟨f,g,i,j,s⟩).length<=maxLen;rw[au];unfold maxLen;omega);have h2:=kL h1;have aF:(cellL 1 (iR f g i b c a j s)).length=64:=au;rw[aF] at h2;exact(rB _).more h2 λk y _=>⟨y.1,λn=>(L.o.ownTy k n.symm).ne y.1 (by decide)⟩)
   have ac:=ae (aa.o.trans (ab.mono aa.o.size));have aK:e.heap.size<=D.heap.size:=ac.o.size;clear hK ar ab CP aq aa ap HY U V W Y Z x5 x6 x7
   go_wp2_with (at_builtin;refine gM (w:=D) rfl _ _ rfl underlying45 dA rfl (by decide) (by decide) L.o aK aD (R:=rB (kJ b c a ⟨f,g,i,j,s⟩)) av.o rfl rfl rfl ?_)
   intro v6 w6 aa ab aq ap ar;rw[<-HT.o] at aa;have aL:=ae (aa.reTy λk y=>ap k y.lt λn=>y.ne (L.o.ownTy k n.symm) (by decide));have aM:=ae (ac.o.trans ab);clear aa ab aq ap ar L av HT ac;go_wp2_with fail;go_roundw
   case rel=>exact⟨d+1,by omega,by go_num,aL,aM⟩
   case measure=>simp[intOf];omega
  ·obtain rfl:d=x:=by omega
   rw[aJ (by rw[P.o];exact aj _)] at r;go_wp2_with fail;go_ret;exact⟨_,rfl,by rw[aA.o];exact r.o.base al λk y=>y,ak.o.trans (G.o.mono al)⟩
theorem MZ{w:World}{o:Oper}{a:Act}{K:Act->World->Prop}{Q:Exit->Act->World->Prop}(j:o.guard=none)(s x:Operand){C u m c:Nat}{v:Value}{e:PK}{L f:List Rp}{F:Nat->Prop}
 (y:o.op=.call { callee:=.builtin .append,args:=#[s,x],argTypes:=#[45,45] })(k:OwnS w C 30 1 F v L)(l:C<=w.heap.size)(hl:L.length+m<=1000000)
 (z:OwnS w u 30 1 F (slice e m c) f)(A:∀b,F b->some b≠v.ownBlock)(hs:a.eval s=v)(D:a.eval x=slice e m c)
 (G:∀g d,OwnS d C 30 1 F g (L++f)->Below C w d->(∀b,b<w.heap.size->some b≠v.ownBlock->d.heap[b]? =w.heap[b]?)->K (a.put o.dst g) d):
 Oper.wp prog o a w K Q:=by
 have H:=k.lt;obtain⟨I,n,J⟩:=k;obtain⟨p,M,q⟩:=z;obtain⟨a',c',h,N,q2,q3,r,t⟩:=dB M;injection h with O R S;subst O R S;rw[Nat.mul_one] at t;have T:Rd w w.heap.size e f.length p:=⟨by rw[r];omega,λi=>by obtain⟨b,U,h,d,_,V⟩:=t i;exact⟨b,U,h,d.2,V⟩⟩
 have W:=pz (P:=prog) (ops:=#[]) (E:=True) (K:=K) (Q:=Q) j s x 45 y C 30 (slice none 0 0) 24 underlying45 dA rfl v L.length I hs n w.heap.size e f.length c p D N T (J3 (by decide) rfl r q) (by omega) (by unfold maxLen;omega) l λg X Y i Z=>
  G g X (OwnS.app n J (λX g hR=>g.more (q X g hR) λb d _=>⟨d.1,A b d.1⟩) Y i Z) ((az _ _).grown i l λg X=>(H g X).1) λb d g=>i.block b d g
 rwa [bg (by simp[Region.wanted,j])] at W
theorem Kl(m:cQ)(s p y:Nat)(g b:PK)(c i a d:Nat)(F:Nat->Prop)(X:List (Option cJ×PI))(o:Option Nat)(w:World)(h:DrR w s p y (fU X) o)(n:(rI m.drives).ok w F [slice g c i])(k:(rS 4 (m.objs.map bQ)).ok w F [slice b a d])
 (t:il m)(z:jV m)(A:sK m X):
 Calls prog 135 #[pointer (some ⟨s,0,none⟩),.agg (bV m (slice g c i) (slice b a d))] w λe f=>∃v,e=returned v/\OwnS f w.heap.size 30 1 (Ty 5 f) v ((bJ m++(dX X).map (kJ m.K m.H m.Z)).map rB)/\Below w.heap.size w f:=by
 have j:m.objs.length=a:=by have:=Cs k;rwa [aC] at this
 have f:=(az w.heap.size w).alloc (aj _) (cells (bV m (slice g c i) (slice b a d)) 68);have C:=ae (Blk.new w 68 (bV m (slice g c i) (slice b a d)));have D:=ae f
 have l:m.drives.length=c:=by
  obtain⟨a',c',e,_⟩:=dI n rfl;injection e with _ U _;exact U.symm
 have V:=ae λw (n:(rI m.drives).ok w F [slice g c i]) (k:(rS 4 (m.objs.map bQ)).ok w F [slice b a d])=>nC m g b c i a d F w n l k j t z;have W:=ae λw (h:DrR w s p y (fU X) o) (k:(rS 4 (m.objs.map bQ)).ok w F [slice b a d])=>MX m s p y (slice g c i) b a d F X o w h (by rw[<-j];exact t.2.2.2.2.2.1) j k t.2.2.1 A;have Y:=ae (h.below f);have L:=ae ((rS 4 _).new k f);have Z:=ae ((rI _).new n f);have HL:PH ((bJ m).length+(dX X).length<=1000000):=ae (by rw[eM];have:=(jo z).2;have h9:(dX X).length<=24:=aP (length_filterMap_le _ _) A.2.1;omega);clear h j k n t z A f l;generalize bJ m=u at*;generalize f:(dX X).map (kJ m.K m.H m.Z)=N at*;have j:N.length=(dX X).length:=by rw[<-f,aC]
 have aa:=ae j;clear f j;unfold bV at*;go_enter func135,ntmps135;go_upto_region 1 with fail;generalize w.alloc (cells #[int i64 m.seq,int i64 m.next,int i64 m.K,int i64 m.H,int i64 m.Z,int i64 m.extra,slice g c i,slice b a d] 68)=f at*;obtain⟨m0,m1,m2,m3,m4,m5,m6,m7⟩:=bY C.o;have O:Below f.heap.size f f.drew:=(az _ f).drew
 go_region_law (first
  | (have HQ:=P
     go_simp;go_at_call 202;refine(W.o E (Y.o.below q.o) ((rS 4 _).new L.o q.o)).mono ?_;rintro e r ⟨v4,rfl,x,G⟩;obtain⟨a4,Q,c4,rfl⟩:=x.sl;have ab:=ae x;have H:PH (OwnS r f.heap.size 30 1 (Ty 5 r) (slice I J K) (u.map rB)):=ae (P.o.chg (M:=λ_=>False) (Chg.of G) (λ_ _ h=>h) λ_ h=>h.elim);have R:=ae (q.o.trans (G.mono q.o.size));have S:Q=(dX X).length:=(by have h:=Cs x.repAny;rw[aC,aa.o] at h;exact h.symm);have ac:(u.map rB).length+Q<=1000000:=(by rw[aC,S];exact HL.o);have ad:f.heap.size<=r.heap.size:=R.o.size;have ag:∀j,Ty 5 r j->some j≠(Value.slice I J K).ownBlock:=λj l e=>l.ne (H.o.ownTy j e.symm) (by decide);clear x G S;go_simp)
  | (change (if _=true then Oper.wp _ (Oper.mk (some 10) _ _ _ _ _) _ _ _ _ else _)
     refine qA rfl ?_;refine MZ (w:=r) rfl _ _ rfl H.o ad ac ab.o ag rfl rfl ?_;intro v5 G x S T
     have ai:PH (OwnS G f.heap.size 30 1 (Ty 5 G) v5 ((u++N).map rB)):=ae (by
      rw[aU];exact x.reTy λj l=>T j l.lt λe=>l.ne (H.o.ownTy j e.symm) (by decide))
     have ak:=ae (R.o.trans S);clear x S T;go_simp)
  | (go_simp
     go_at_call 69;refine(V.o f.drew ((rI _).new Z.o O) ((rS 4 _).new L.o O)).mono ?_;rintro e E ⟨v3,rfl,x,S⟩;obtain⟨I,J,K,rfl⟩:=x.sl;have P:PH (OwnS E f.heap.size 30 1 (Ty 5 E) (slice I J K) (u.map rB)):=ae x;have q:=ae (bP S);have T:=ae (C.o.below q.o C.o.lt);obtain⟨al,am,an,ao,ap,aq,ar,au⟩:=bY T.o;clear x S;go_simp))
 all_goals(
  go_simp;go_wp2_with fail;go_ret;exact⟨_,rfl,ai.o.base D.o.size λj l=>l,D.o.trans (ak.o.mono D.o.size)⟩)
end
section
variable {B:Nat}
theorem uA(g p a c b n:Nat)(v:Value)(w:World)(h:DrB w g p a v c)(i:b<=100000)(j:n<=100000)(k:a<=512):Calls prog 132 #[pointer (some ⟨g,0,none⟩),int i64 b,int i64 n] w λd e=>d=returned (bool (decide (b+n<=a)))/\e=w:=by
 have f:=ae (NC g p a c v w h);have l:(if (n:Int)<0 then (0:Int) else n)=n:=by rw[bh (by omega)]
 have m:(if (0:Int)<(n:Int) then (n:Int) else 0)=n:=by split <;> omega
 have o:max (n:Int) 0=n:=by omega
 have q:IntKind.i64.wrap ((a:Int)-(b:Int))=(a:Int)-(b:Int):=by rw[IntKind.wrap_i64];omega
 have e:decide (b+n<=a)=decide ((n:Int)<=(a:Int)-(b:Int)):=decide_eq_decide.2 (by omega);rw[e];clear e;go_enter func132,ntmps132;go_wp2_with fail;refine f.o.mono ?_;rintro d e ⟨rfl,rfl⟩;go_wp2_with fail;go_ret;exact⟨rfl,rfl⟩
def zq(m:cQ)(X:List (Option cJ×PI)):List PI:=bJ m++(dX X).map (kJ m.K m.H m.Z)
def iq(m:cQ)(X:List (Option cJ×PI))(n a:Nat):Bool:=decide (X.length+n<=a) || decide ((zq m X).length+n<=a)
theorem Ei{m:cQ}{X:List (Option cJ×PI)}(a:jV m)(b:sK m X):(zq m X).length<=300:=by
 unfold zq;rw[aH,aC,eM];have c:=(jo a).2;have d:(dX X).length<=X.length:=length_filterMap_le _ _;have:=b.2.1;omega
theorem OH{m:cQ}{X:List (Option cJ×PI)}(b:fB m.K m.H m.Z=true)(c:sK m X):∀x∈zq m X,x.length=64:=by
 intro x a;rcases bz.1 a with a | a
 ·obtain⟨d,_,rfl⟩:=aY.1 a
  exact jK m d
 ·obtain⟨d,e,rfl⟩:=aY.1 a
  have f:=EG c d e;have g:=ba b;exact gA (by rw[iT];omega)
theorem uB(m:cQ)(g p a n:Nat)(b c:PK)(d e f i:Nat)(F:Nat->Prop)(X:List (Option cJ×PI))(o:Option Nat)(w:World)(h:DrR w g p a (fU X) o)(A:(rI m.drives).ok w F [slice b d e])(C:(rS 4 (m.objs.map bQ)).ok w F [slice c f i])(D:il m)(t:jV m)(q:sK m X)(hn:n<=1000)(E:a<=512):
 Calls prog 131 #[pointer (some ⟨g,0,none⟩),.agg (bV m (slice b d e) (slice c f i)),int i64 n] w λj k=>j=returned (bool (iq m X n a))/\Below w.heap.size w k:=by
 have k:=(az w.heap.size w).alloc (aj _) (cells (bV m (slice b d e) (slice c f i)) 68);have K:=ae (Blk.new w 68 (bV m (slice b d e) (slice c f i)));have HD:=ae (h.below k);have G:=Ei t q;have ab:=q.2.1;have u:=ae (Kl m g p a b c d e f i F X o _ (h.below k) ((rI _).new A k) ((rS 4 _).new C k) D t q);obtain⟨ac,r,l,x,L⟩:=h.below k;obtain⟨M,N,rfl,-⟩:=x.val;rw[aC,iJ] at l;have v:=ae k;have H:=ae (zf g p a r _ _ l);have I:=ae (KZ g p a r _ N M _ l);have s:=ae (uA g p a r X.length n _ _ l (by omega) (by omega) E);have J:=ae λ(y:Nat) (P:y<=300) (z:World) (O:Below (w.alloc (cells (bV m (slice b d e) (slice c f i)) 68)).heap.size (w.alloc (cells (bV m (slice b d e) (slice c f i)) 68)) z)=>uA g p a r y n _ z (Blk.below l O (Blk.lt l)) (by omega) (by omega) E;unfold iq;unfold bV at*;clear h l x L k A C D t q;rw[show bJ m++(dX X).map (kJ m.K m.H m.Z)=zq m X from rfl] at u;obtain⟨l,k⟩:∃l,l=(zq m X).length:=⟨_,rfl⟩;have L:=ae k;rw[<-k] at G ⊢;clear k;generalize zq m X=KL at*;by_cases k:X.length+n<=a
 ·rw[bf k] at s ⊢
  rw[Bool.true_or];clear k;go_enter func131,ntmps131;go_wp2_with fail;generalize w.alloc (cells #[int i64 m.seq,int i64 m.next,int i64 m.K,int i64 m.H,int i64 m.Z,int i64 m.extra,slice b d e,slice c f i] 68)=O at*;refine H.o.mono ?_;rintro j P ⟨rfl,rfl⟩;go_wp2_with fail;refine I.o.mono ?_;rintro j x ⟨rfl,rfl⟩;go_wp2_with fail;refine s.o.mono ?_;rintro j x ⟨rfl,rfl⟩;go_wp2_with fail;go_ret;exact⟨rfl,v.o⟩
 ·rw[decide_eq_false k] at s ⊢
  rw[Bool.false_or];clear k;go_enter func131,ntmps131;go_wp2_with fail;generalize w.alloc (cells #[int i64 m.seq,int i64 m.next,int i64 m.K,int i64 m.H,int i64 m.Z,int i64 m.extra,slice b d e,slice c f i] 68)=O at*;refine H.o.mono ?_;rintro j P ⟨rfl,rfl⟩;go_wp2_with fail;refine I.o.mono ?_;rintro j x ⟨rfl,rfl⟩;go_wp2_with fail;refine s.o.mono ?_;rintro j x ⟨rfl,rfl⟩;obtain⟨Q,R,S,m3,T,U,V,W⟩:=bY K.o;go_wp2_with fail;refine u.o.mono ?_;rintro j Y ⟨v4,rfl,y,z⟩;obtain⟨a4,c4,rfl,-⟩:=y.val;rw[aC,<-L.o] at y ⊢;have Z:=ae (J.o l G Y z);have aa:=ae (v.o.trans (z.mono v.o.size));clear y z u J Q R S m3 T U V W;go_wp2_with fail;refine Z.o.mono ?_;rintro j y ⟨rfl,rfl⟩;go_wp2_with fail;go_ret;exact⟨rfl,aa.o⟩
theorem Ca(m:cQ)(s n:Nat)(f:Fl)(R:Nat->List PI)(a b:PK)(c d e g:Nat)(X:List (Option cJ×PI))(w:World)(hs:s<f.n)(W:f.Z s=false)(h:Drz B w f R (λ_=>0))(Y:R s=fU X)(C:(rI m.drives).ok w (Fd w) [slice a c d])(D:(rS 4 (m.objs.map bQ)).ok w (Fd w) [slice b e g])(t:il m)(u:jV m)(o:sK m X)(hn:n<=1000)(Z:f.room s<=512)(r:iq m X n (f.room s)=true):
 Calls prog 71 #[pointer (some ⟨f.D s,0,none⟩),.agg (bV m (slice a c d) (slice b e g)),int i64 n] w λk i=>k=returned (int i64 0)/\Drz B i f (upd R s (if X.length+n<=f.room s then R s else zq m X)) (λ_=>0)/\Chg (·=f.D s) w i:=by
 have j:=(az w.heap.size w).alloc (aj _) (cells (bV m (slice a c d) (slice b e g)) 68);have v:=ae (Blk.new w 68 (bV m (slice a c d) (slice b e g)));have aa:=ae (h.below j);have x:=ae j;have au:=o.2.1;have ai:=Ei u o;obtain⟨ab,A⟩:=h.drw hs W;have y:=A.r;rw[Y] at y;have E:=ae (uB m (f.D s) f.p (f.room s) n a b c d e g (Fd w) X ab _ (y.below j) ((rI _).new C j) ((rS 4 _).new D j) t u o hn Z);rw[r] at E;have F:=ae (y.below j);have G:=ae λ(i:World) (l:Below (w.alloc (cells (bV m (slice a c d) (slice b e g)) 68)).heap.size (w.alloc (cells (bV m (slice a c d) (slice b e g)) 68)) i)=>Kl m (f.D s) f.p (f.room s) a b c d e g (Fd w) X ab i (F.o.below l) ((rI _).new ((rI _).new C j) l) ((rS 4 _).new ((rS 4 _).new D j) l) t u o;have CR:=ae λ(p:PK) (z q:Nat) (i:World) (l:Below (w.alloc (cells (bV m (slice a c d) (slice b e g)) 68)).heap.size (w.alloc (cells (bV m (slice a c d) (slice b e g)) 68)) i) (H:(rM (zq m X)).ok i Any [slice p z q]) (I:(zq m X).length=z) (J:z<=f.room s)=>Ab s f R (λ_=>0) (zq m X) Any p z q i hs W rfl (aa.o.below l) H I (by omega) J (OH t.2.2.1 o)
 have H:PH (∀(i:World),Below (w.alloc (cells (bV m (slice a c d) (slice b e g)) 68)).heap.size (w.alloc (cells (bV m (slice a c d) (slice b e g)) 68)) i->∃I p q,DrB i (f.D s) f.p (f.room s) (slice p X.length q) I):=ae λi l=>by
  obtain⟨av,I,h1,h2,-⟩:=F.o.below l;obtain⟨p,q,rfl,-⟩:=h2.val;rw[aC,iJ] at h1;exact⟨I,p,q,h1⟩
 have ac:PH (X.length+n<=f.room s\/(zq m X).length+n<=f.room s):=ae (by
  unfold iq at r;rw[Bool.or_eq_true,decide_eq_true_eq,decide_eq_true_eq] at r;exact r)
 have HU:PH (upd R s (R s)=R):=ae (by funext aw;unfold upd;split <;> simp_all);have ak:PH (upd R s (fU X)=R):=ae (by rw[<-Y];exact HU.o);rw[show bJ m++(dX X).map (kJ m.K m.H m.Z)=zq m X from rfl] at G;obtain⟨z,i⟩:∃z,z=(zq m X).length:=⟨_,rfl⟩;have J:=ae i;rw[<-i] at ai;clear h C D t u o j A y r i;generalize zq m X=KL at*;generalize f.D s=y at*;generalize f.room s=l at*;unfold bV at*;go_enter func71,ntmps71;go_wp2_with fail;generalize w.alloc (cells #[int i64 m.seq,int i64 m.next,int i64 m.K,int i64 m.H,int i64 m.Z,int i64 m.extra,slice a c d,slice b e g] 68)=w1 at*;obtain⟨wt,al,cl,i⟩:=H.o w1 (az _ _);have ad:=ae (zf y f.p l wt _ w1 i);clear i;refine ad.o.mono ?_;rintro k w2 ⟨rfl,rfl⟩;obtain⟨K,L,N,O,P,Q,S,T⟩:=bY v.o;go_wp2_with fail;refine E.o.mono ?_;rintro k U ⟨rfl,j⟩;have i:=ae j;have am:=ae (v.o.below j v.o.lt);obtain⟨ag,an,ao,V⟩:=H.o U j;have CN:=ae (KZ y f.p l ag _ ao an U V);have A:=ae (uA y f.p l ag X.length n _ U V (by omega) (by omega) Z);clear V j K L N O P Q S T E ad H v F;obtain⟨K,L,N,O,P,Q,S,T⟩:=bY am.o;go_wp2_with fail;refine CN.o.mono ?_;rintro k w4 ⟨rfl,rfl⟩;by_cases j:X.length+n<=l
 ·rw[bf j] at A
  have E:=ae j;clear j;go_wp2_with fail;refine A.o.mono ?_;rintro k H ⟨rfl,rfl⟩;go_wp2_with fail;go_ret
  first | rw[ak.o] | rw[bg E.o,HU.o]
  exact⟨rfl,aa.o.below i.o,Chg.of (x.o.trans (i.o.mono x.o.size))⟩
 ·rw[decide_eq_false j] at A
  have E:=ae j;have ap:z<=l:=(by have h9:=ac.o.resolve_left j;rw[<-J.o] at h9;omega);clear j ac;go_wp2_with fail;refine A.o.mono ?_;rintro k H ⟨rfl,rfl⟩;have V:=ae (G.o H i.o);clear G;go_wp2_with fail;refine V.o.mono ?_;rintro k w6 ⟨v6,rfl,v,F⟩;obtain⟨a6,c6,rfl,-⟩:=v.val;rw[aC,<-J.o] at v ⊢;have ad:=ae (CR.o a6 z c6 w6 (i.o.trans (F.mono i.o.size)) v.repAny J.o.symm ap);have aq:=ae (x.o.trans ((i.o.trans (F.mono i.o.size)).mono x.o.size));clear v F V CR K L N O P Q S T;go_wp2_with fail;refine ad.o.mono ?_;rintro k w7 ⟨rfl,v,F⟩;have V:=ae v;have ar:=ae ((Chg.of (M:=(·=y)) aq.o).trans F);clear v F ad;go_wp2_with fail;go_ret
  (try rw[bh E.o])
  exact⟨rfl,V.o,ar.o⟩
end
section
variable {B:Nat}
theorem Stq.congr{w:World}{g:Nat}{f:Fl}{m:cQ}{R Q:Nat->List PI}(a:Stq B w g f m R)(e:∀i,i<f.n->R i=Q i):Stq B w g f m Q:=⟨a.drs.congr e,a.st,a.dv,a.n0⟩
def zO(B c:Nat)(w0:World)(d:FuncId)(e:Array Value)(f:Nat->Nat):Prop:=∀b,b<c->∀a,ChgD B w0 a->Calls prog d (#[int i64 b]++e) a λg h=>g=returned (int i64 (f b:Nat))/\Below a.heap.size a h
structure OE (f:Fl) (m:cQ) (R:Nat->List PI) (X:Nat->List (Option cJ×PI)) (L:PI):Prop where
 hm:il m
 hq:jV m
 lv:∀x∈L,x<f.n/\f.Z x=false
 hX:∀x∈L,R x=fU (X x)/\sK m (X x)
 h5:∀x∈L,f.room x<=512
def sU(f:Fl)(m:cQ)(R:Nat->List PI)(X:Nat->List (Option cJ×PI))(a:Nat->Nat)(L:PI)(i:Nat):List PI:=if i∈L then (if (X i).length+a i<=f.room i then R i else zq m (X i)) else R i
theorem Je(f:Fl)(m:cQ)(R:Nat->List PI)(X:Nat->List (Option cJ×PI))(a:Nat->Nat)(L:PI){x:Nat}(e:x∉L):sU f m R X a (L++[x])=upd (sU f m R X a L) x (if (X x).length+a x<=f.room x then sU f m R X a L x else zq m (X x)):=by
 funext d;unfold upd sU;by_cases c:d=x
 ·subst c;rw[bg (by simp),bg rfl,bh e]
 ·rw[bh c]
  by_cases b:d∈L
  ·rw[bg b,bg (mem_append_left _ b)]
  ·rw[bh b,bh (by simp[b,c])]
theorem L9(x g j k:Nat)(f:Fl)(m:cQ)(R:Nat->List PI)(X:Nat->List (Option cJ×PI))(L:PI)(e:FuncId)(z:Array Value)(c:Nat->Nat)(w0 w:World)(C:Below w0.heap.size w0 w)(h:Stq B w g f m R)(hs:Blk w j 60 #[pointer (some ⟨g,0,none⟩)])(D:Blk w k 166 #[.func (.func e) #[] z])(l:x∈L)(b:OE f m R X L)
 (T:∀a w,(callFunc e a).run prog w=.ok (.enter e a) w)(E:zO B f.n w0 e z c)(F:c x<=1000):
 Calls prog 166 (#[int i64 x]++#[pointer (some ⟨j,0,none⟩),pointer (some ⟨k,0,none⟩)]) w λi d=>i=returned (bool (!iq m (X x) (c x) (f.room x)))/\Below w.heap.size w d:=by
 show Calls prog 166 #[int i64 x,pointer (some ⟨j,0,none⟩),pointer (some ⟨k,0,none⟩)] w _;have t:PH (Sx w w [bS j 60 #[pointer (some ⟨g,0,none⟩)],bS k 166 #[.func (.func e) #[] z],jW B g f m R]):=ae ((((Sx.nil w).add (jW B g f m R) h).add (bS k _ _) D).add (bS j _ _) hs);have I:=ae E;have G:=ae C;have U:=ae b;have u:=b.lv x l;have A:=ae λ(v:Option Nat) (n o:PK) (a p q r:Nat) (w:World) (h:DrR w (f.D x) f.p (f.room x) (R x) v) (s:(rI m.drives).ok w (Fu w) [slice n a p]) (y:(rS 4 (m.objs.map bQ)).ok w (Fu w) [slice o q r])=>uB m (f.D x) f.p (f.room x) (c x) n o a p q r (Fu w) (X x) v w (by rw[<-(b.hX x l).1];exact h) s y b.hm b.hq (b.hX x l).2 F (b.h5 x l);clear h hs D E C b l F;unfold bV at A;go_enter func166,ntmps166;obtain⟨-,⟨V,W,H,a,s⟩,-,-,Y⟩:=t.o.stq 2 rfl;obtain⟨n,p,rfl,-⟩:=dI a rfl;obtain⟨o,q,r,rfl⟩:=kO s;have J:=ae a;have K:=ae s;clear a s;have y:=ae H;clear H
 have H:PH (∀a,Below w.heap.size w a->Calls prog 131 #[pointer (some ⟨f.D x,0,none⟩),.agg #[int i64 m.seq,int i64 m.next,int i64 m.K,int i64 m.H,int i64 m.Z,int i64 m.extra,slice n m.drives.length p,slice o q r],int i64 (c x:Nat)] a λi d=>i=returned (bool (iq m (X x) (c x) (f.room x)))/\Below a.heap.size a d):=ae λa s=>by
  obtain⟨-,⟨v,M,-⟩,-⟩:=((t.o.step s).stq 2 rfl).drs;rcases M x u.1 with⟨i,-⟩ | ⟨-,h⟩
  ·rw[u.2] at i;cases i
  ·exact A.o (v x) n o _ p q r a h.r ((rI _).fu J.o s) ((rS 4 _).fu K.o s)
 have N:PH (∀a,Below w.heap.size w a->a.cell? ⟨g,10+x,none⟩=some (pointer (some ⟨f.D x,0,none⟩))):=ae λa s=>(Blk.cell (Blk.below y.o s (Blk.lt y.o)) (10+x)).trans (by rw[qG _ _ _ _ _ (by omega)];rw[yT f u.1]);have Z:x<64:=by omega
 have aa:(x:Int)<64:=by omega
 have O:=u.1;generalize f.D x=dx at*;generalize iq m (X x) (c x) (f.room x)=ft at*;clear A
 all_goals(
  go_upto_region 1 with fail;refine bL (by kernel_rfl) (by kernel_rfl) ?_
  iterate 16 (
   with_reducible refine wpQuiet_step (λP s=> ?_)
   go_simp
   first
   | refine s _ ?_
   | refine⟨_,λ_ _=>rfl,s _ ?_⟩
   | (apply Exists.intro
      refine⟨λd a=> ?_,s _ ?_⟩
      ·have ab:=((t.o.step a).blk 0 rfl).cell 0
       have ac:=((t.o.step a).blk 1 rfl).cell 0;obtain⟨ad,ag,ai,ak,al,am,an,ao,-⟩:=fS (Blk.below y.o a (Blk.lt y.o));have ap:=N.o d a
       first
       | (go_simp
          first | exact rfl | exact⟨rfl,rfl⟩)
       | (go_at_fn e
          refine(I.o _ O d (ChgD.below (G.o.trans (a.mono G.o.size)))).mono ?_;rintro Q S ⟨rfl,A⟩;exact⟨rfl,a.trans (A.mono a.size)⟩)
       | (go_at_call 131
          refine(H.o d a).mono ?_;rintro Q S ⟨rfl,A⟩;exact⟨rfl,a.trans (A.mono a.size)⟩))
   clear s P)
  with_reducible refine wpQuiet_nil ?_
  intro P s;have A:=ae s;clear s;go_wp2_with fail;go_ret;exact⟨rfl,A.o⟩)
theorem Jf(L:PI)(F:Nat->Prop)(a:PK)(n c g:Nat)(f:Fl)(m:cQ)(R:Nat->List PI)(X:Nat->List (Option cJ×PI))(b:FuncId)(e:Array Value)(d:Nat->Nat)(w:World)(h:Stq B w g f m R)(i:(rI L).ok w F [slice a n c])(s:L.length=n)(t:OE f m R X L)(J:n<=1000)
 (u:∀j w,(callFunc b j).run prog w=.ok (.enter b j) w)(v:zO B f.n w b e d)(y:∀x∈L,d x<=1000):
 Calls prog 107 #[pointer (some ⟨g,0,none⟩),slice a n c,.func (.func b) #[] e] w λj k=>j=returned (bool (L.all λx=>iq m (X x) (d x) (f.room x)))/\Below w.heap.size w k:=by
 have q:=(az w.heap.size w).alloc (aj _) (cells #[pointer (some ⟨g,0,none⟩)] 60);have k:=q.alloc q.size (cells #[.func (.func b) #[] e] 166);obtain⟨K,M,j,z,-⟩:=dI ((rI L).new i k) s;injection j with G N H;subst G H;have r:=(Blk.new w 60 #[pointer (some ⟨g,0,none⟩)]).alloc (cells #[.func (.func b) #[] e] 166);have l:=Blk.new (w.alloc (cells #[pointer (some ⟨g,0,none⟩)] 60)) 166 #[.func (.func b) #[] e];rw[show(w.alloc (cells #[pointer (some ⟨g,0,none⟩)] 60)).heap.size=w.heap.size+1 by simp] at l;have A:=h.below k;have o:=ae k;generalize C:(w.alloc (cells #[pointer (some ⟨g,0,none⟩)] 60)).alloc (cells #[.func (.func b) #[] e] 166)=D at*
 have E:=ae (yN (λx=> !iq m (X x) (d x) (f.room x)) 166 #[pointer (some ⟨w.heap.size,0,none⟩),pointer (some ⟨w.heap.size+1,0,none⟩)] L D.heap.size a n c D z (aj _) (by omega) (enters_of func166 (by kernel_rfl) rfl) (λx i I p=>
  L9 x g w.heap.size (w.heap.size+1) f m R X L b e d w I (o.o.trans (p.mono o.o.size)) (A.below p) (r.below p (Blk.lt r)) (l.below p (Blk.lt l)) i t u v (y x i)))
 have p:(L.all λx=>iq m (X x) (d x) (f.room x))= !(L.any λx=> !iq m (X x) (d x) (f.room x)):=by rw[not_any_eq_all_not];simp
 rw[p];generalize (L.any λx=> !iq m (X x) (d x) (f.room x))=O at*;have I:=ae C;clear h i s t v y p u q k r l A z C;go_enter func107,ntmps107;go_wp2_with fail;rw[I.o];refine E.o.mono ?_;rintro j p ⟨rfl,k⟩;have l:=ae (o.o.trans (k.mono o.o.size));clear k E;go_wp2_with fail;go_ret;exact⟨rfl,l.o⟩
theorem Eh(L:PI)(a:PK)(n c g:Nat)(f:Fl)(m:cQ)(R:Nat->List PI)(X:Nat->List (Option cJ×PI))(r:FuncId)(I:Array Value)(d:Nat->Nat)(w:World)(h:Stq B w g f m R)(j:(rI L).ok w (Fd w) [slice a n c])(J:L.length=n)(K:OE f m R X L)(N:L.Nodup)(O:B<=g/\B<=w.heap.size)(hn:n<=1000)
 (eg:∀b w,(callFunc r b).run prog w=.ok (.enter r b) w)(P:zO B f.n w r I d)(Q:∀x∈L,d x<=1000/\iq m (X x) (d x) (f.room x)=true):
 Calls prog 108 #[pointer (some ⟨g,0,none⟩),slice a n c,.func (.func r) #[] I] w λe y=>e=returned (int i64 0)/\Stq B y g f m (sU f m R X d L)/\ChgD B w y:=by
 have HS:=ae h;have HX:=ae j;have z:=ae J;have s:=ae K;have ak:=ae N;have HP:=ae P;have S:=ae Q;have HB:=ae O;have T:PH (Stq B w g f m (sU f m R X d (L.take 0))):=ae (h.congr λo _=>by unfold sU;rw[bh (by simp)]);have U:PH (ChgD B w w):=ae (Chg.refl _ _);clear h j J K N P Q O;go_enter func108,ntmps108;go_wp2_with fail;go_loopw [12] (λo wr=>∃b:Nat,b<=n/\o=int i64 b/\PH (Stq B wr g f m (sU f m R X d (L.take b)))/\PH (ChgD B w wr)) (λo _=>n-(intOf o).toNat)
 case atStart=>exact⟨0,by omega,rfl,T,U⟩
 case round=>
  clear T U;obtain⟨b,ao,rfl,t,u⟩:=hrel;by_cases al:b<n
  ·have ap:(b:Int)<(n:Int):=by omega
   have k:b<L.length:=(by rw[z.o];exact al);obtain⟨V,c',e,W,-⟩:=dI ((rI _).chgD HX.o u.o) z.o;injection e with e1 e2 e3;subst e1 e3;obtain⟨A,aq,rfl,v,Y⟩:=W.2 (by omega);have cq:=Y b _ (bT k);have p:L.getD b 0∈L:=by rw[af,ah k];exact aQ k
   have C:L.getD b 0∉L.take b:=λi=>by
    obtain⟨o,hi,e⟩:=bC i;rw[aG] at hi;rw[getElem_take,af,ah k] at e;have h1:=(pairwise_iff_getElem.1 ak.o) o b (by omega) k (by omega);exact h1 e
   have am:PH (L.take (b+1)=L.take b++[L.getD b 0]):=ae (by rw[aN k,af,ah k];rfl);have j:=s.o.lv _ p;obtain⟨Z,⟨vd,vo,aa,D,E⟩,ab,ar,au⟩:=t.o;obtain⟨a1,c1,rfl,-⟩:=dI D (n:=f.n) (by rw[ab,aZ]);obtain⟨a2,n2,c2,rfl⟩:=kO E;have q:=ae aa;have F:=ae Z;have ac:=ae D;have ad:=ae E;have ag:=(S.o _ p).1;have G:=s.o.hX _ p;have ai:sU f m R X d (L.take b) (L.getD b 0)=fU (X (L.getD b 0)):=(by unfold sU;rw[bh C];exact G.1);have an:=ae (Je f m R X d (L.take b) C);have H:=ae λ(i:World) (l:Below wr.heap.size wr i)=>Ca m (L.getD b 0) (d (L.getD b 0)) f (sU f m R X d (L.take b)) a1 a2 f.n c1 n2 c2 (X (L.getD b 0)) i j.1 j.2 (F.o.below l) ai ((rI _).more ((rI _).fu ac.o l) λA v _=>v.fd) ((rS 4 _).more ((rS 4 _).fu ad.o l) λA v _=>v.fd) s.o.hm s.o.hq G.2 ag (s.o.h5 _ p) (S.o _ p).2;clear aa Z D E ab W Y v k p C G ai ag;have p:PH (B<=f.D (L.getD b 0)/\Md wr (f.D (L.getD b 0))/\f.D (L.getD b 0)<wr.heap.size):=ae (F.o.md j.1);have v:PH (∀i,Below wr.heap.size wr i->i.cell? ⟨g,10+L.getD b 0,none⟩=some (pointer (some ⟨f.D (L.getD b 0),0,none⟩))):=ae λi l=>(Blk.cell (Blk.below q.o l (Blk.lt q.o)) (10+L.getD b 0)).trans (by rw[qG _ _ _ _ _ (by omega)];rw[yT f j.1]);generalize L.getD b 0=x at*;unfold bV at H;have ab:x<64:=(by omega);have ag:(x:Int)<64:=(by omega);have Z:=j.1;generalize f.D x=D at*;have E:=ae λ(i:World) (l:Below wr.heap.size wr i)=>HP.o x Z i (u.o.trans (ChgD.below l));go_upto_region 4 with fail;go_cut [9] (λk i=>k=int i64 0/\PH (Drz B i f (sU f m R X d (L.take (b+1))) (λ_=>0))/\PH (Chg (·=D) wr i))
   case first=>
    obtain⟨k0,k1,k2,k3,k4,k5,k6,k7,-⟩:=fS q.o;have ai:=v.o wr (az _ _)
    go_region_law (first
     | (go_simp
        go_at_fn r
        refine(E.o _ (by first | exact(az _ _).drew | exact az _ _)).mono ?_;rintro aa G ⟨rfl,k⟩;have i:PH (Below wr.heap.size wr G):=ae (by first | exact bP k | exact k);obtain⟨av,aw,ax,ay,aA,aB,aD,aE,-⟩:=fS (Blk.below q.o i.o (Blk.lt q.o));have aF:=v.o G i.o;clear k;go_simp)
     | (go_simp
        go_at_call 71;refine(H.o _ i.o).mono ?_;rintro aa C ⟨rfl,W,Y⟩;have k:=ae W;have l:=ae ((Chg.of (M:=(·=D)) i.o).trans Y);clear W Y;go_simp))
    all_goals(
     go_simp;refine ‹∀(V:Act) (y:World),Met _ V y->_› _ _ ?_;go_meet;exact⟨rfl,ae (by rw[am.o,an.o];exact k.o),l⟩)
   case rest=>
    obtain⟨rfl,k,l⟩:=hcut;rename World=>C;have i:ChgD B wr C:=l.o.mono λA _ e=>⟨by rw[e];exact p.o.1,by rw[e];exact p.o.2.1⟩;have y:PH (Stq B C g f m (sU f m R X d (L.take (b+1)))):=ae (t.o.chgD i k.o);have G:=ae (u.o.trans i);clear i k l t u H E q F ac ad p v;go_wp2_with fail;go_roundw
    case rel=>exact⟨b+1,by omega,by go_num,y,G⟩
    case measure=>simp[intOf];omega
  ·obtain rfl:b=n:=by omega
   rw[aJ (by rw[z.o];exact aj _)] at t;go_wp2_with fail;go_ret;exact⟨rfl,t.o,u.o⟩
end
section
variable {B:Nat}
theorem JC(m b:cQ)(g:Nat)(f:Fl)(R:Nat->List PI)(k l:PK)(d o j p:Nat)(L:PI)(a:PK)(n c:Nat)(w:World)(h:Stq B w g f m R)(N:B<=g/\B<=w.heap.size)(Z:b.drives=range f.n)
 (F:b.objs.length=j)(s:(rI b.drives).ok w (Fd w) [slice k d o])(G:b.drives.length=d)(t:(rS 4 (b.objs.map bQ)).ok w (Fd w) [slice l j p])(q:il b)(H:jV b)
 (I:(rI L).ok w (Fd w) [slice a n c])(O:L.length=n)(h0:0<n)(hn:n<=64)(aa:∀x∈L,x<f.n/\f.Z x=false)(ab:∀i,i<f.n->(R i).length+(eu (lN b L) i).length<=f.room i/\f.room i<=512):
 Calls prog 109 #[pointer (some ⟨g,0,none⟩),.agg (bV b (slice k d o) (slice l j p)),slice a n c] w λJ e=>J=returned (int i64 0)/\Stq B e g f b (gX (lN b L) R)/\Below B w e/\ChgT w e:=by
 have r:d<=64:=by rw[<-G];exact q.2.2.2.2.1.2
 have T:=ae λw (e:Nat->Prop) (s:(rI b.drives).ok w e [slice k d o]) (t:(rS 4 (b.objs.map bQ)).ok w e [slice l j p]) (I:(rI L).ok w e [slice a n c])=>EE b k l d o j p e w s G t F q H L a n c I O hn;have CO:=ae λw (s:(rI b.drives).ok w (Fd w) [slice k d o]) (t:(rS 4 (b.objs.map bQ)).ok w (Fd w) [slice l j p])=>KG b k l d o j p (Fd w) w s G (by omega) t F (by rw[<-F];exact q.2.2.2.2.2.1) (λz e=>aP (mS (q.2.2.2.2.2.2.1 z e) q.2.2.1) (by omega));have e:=(az w.heap.size w).alloc (aj _) (cells (bV b (slice k d o) (slice l j p)) 68);have u:=ae (Blk.new w 68 (bV b (slice k d o) (slice l j p)));have U:=ae (h.below e);have v:=ae ((rI _).fd s e);have y:=ae ((rS 4 _).fd t e);have V:=ae ((rI _).fd I e);have ac:=ae (e.mono N.2);have aq:=ae (ChgT.below e);have A:=ae N;have W:=ae (ED H L);have C:=ae (J5 H L);have ar:=ae Z;have X:=ae O;have Y:=ae aa;have ad:=ae ab;unfold bV at*;clear h N F s G t q H I O aa ab e r Z;go_enter func109,ntmps109;go_wp2_with fail;generalize w.alloc (cells #[int i64 b.seq,int i64 b.next,int i64 b.K,int i64 b.H,int i64 b.Z,int i64 b.extra,slice k d o,slice l j p] 68)=w0 at*;refine(T.o w0 (Fd w0) v.o y.o V.o).mono ?_;rintro J w1 ⟨v1,rfl,r,e⟩;obtain⟨ap,K,cp,rfl⟩:=kO r
 have D:(lN b L).length=K:=by
  obtain⟨a',n',c',P,_,_,_,h4,_⟩:=r;injection P with P _;injection P with _ e2 _;rw[aC] at h4;omega
 have E:0<K/\K<=100000:=by have Q:=W.o;rw[D,X.o] at Q;exact⟨aW h0 Q.1,aP Q.2 (by omega)⟩
 have ag:=ae (U.o.below e);have M:=ae (u.o.below e u.o.lt);have ai:=ae ((rI _).fd v.o e);have ak:=ae ((rS 4 _).fd y.o e);have al:=ae (ac.o.trans (e.mono (aP A.o.2 ac.o.size)));have au:=ae (aq.o.trans (ChgT.below e));have CA:=ae (KN (lN b L) ap K cp g f m R w1 ag.o ((rS 2 _).more r λav S _=>S.fd) D E.1 E.2 (λx hx=>⟨Y.o x.1 (C.o x hx).1,(C.o x hx).2⟩) ad.o);clear r e D E U u v y V T W C X Y ad;go_wp2_with fail;refine CA.o.mono ?_;rintro J w2 ⟨rfl,r,e⟩;have ad:=ae r;have am:=ae (M.o.chg e λq=>Md.not (Blk.ty M.o) (by decide) (by decide) q.2);have an:=ae ((rI _).chgD ai.o e);have ao:=ae ((rS 4 _).chgD ak.o e);have T:=ae (al.o.trans (e.lo (aP A.o.2 al.o.size)));have aw:=ae (au.o.trans (ChgT.ofD e));clear r e CA ag M ai ak;obtain⟨x0,x1,x2,x3,x4,x5,x6,x7⟩:=bY am.o;go_wp2_with fail;refine(CO.o w2 an.o ao.o).mono ?_;rintro J u ⟨v3,ax,rfl,U,V,M⟩;obtain⟨v,y,W,-⟩:=V.val;rw[aC] at W;obtain⟨r,e⟩:∃r,b.objs.length=r:=⟨_,rfl⟩;rw[e] at W;subst W;clear e;have X:=ae (ad.o.below M);have ag:=ae (qg U);have ai:PH ((rS 4 (b.objs.map bQ)).ok u (Fu u) [slice v r y]):=ae ((V.base (aj _) λav S=>Mt.not S.1 (by decide) (by decide) (by decide)).repU (by decide));have S:=ae (T.o.trans (M.mono (aP A.o.2 T.o.size)));have ak:=ae (aw.o.trans (ChgT.below M));obtain⟨C,D,E,rfl⟩:=U.sl;obtain⟨-,⟨av,ay,e,-⟩,-⟩:=id X.o;obtain⟨k0,k1,k2,k3,k4,k5,k6,k7,-⟩:=fS e;have f0:=e.frozen 0;have f1:=e.frozen 1;have f2:=e.frozen 2;have f3:=e.frozen 3;have f4:=e.frozen 4;have f5:=e.frozen 5;have f6:=e.frozen 6;have f7:=e.frozen 7;have Y:=ae e;clear U V M ad am an ao T CO x0 x1 x2 x3 x4 x5 x6 x7 e
 have M:Blk ((((((((u.setCell ⟨g,0,none⟩ (int i64 b.seq)).setCell ⟨g,1,none⟩ (int i64 b.next)).setCell ⟨g,2,none⟩ (int i64 b.K)).setCell ⟨g,3,none⟩ (int i64 b.H)).setCell ⟨g,4,none⟩ (int i64 b.Z)).setCell ⟨g,5,none⟩ (int i64 b.extra)).setCell ⟨g,6,none⟩ (slice C D E)).setCell ⟨g,7,none⟩ (slice v r y)) g 96 (oC b (slice C D E) (slice v r y) f.p (dpt f)):=by
  have h:=((((((((Y.o.set 0 (int i64 b.seq)).set 1 (int i64 b.next)).set 2 (int i64 b.K)).set 3 (int i64 b.H)).set 4 (int i64 b.Z)).set 5 (int i64 b.extra)).set 6 (slice C D E)).set 7 (slice v r y));exact KR h
 have e:Chg (·=g) u ((((((((u.setCell ⟨g,0,none⟩ (int i64 b.seq)).setCell ⟨g,1,none⟩ (int i64 b.next)).setCell ⟨g,2,none⟩ (int i64 b.K)).setCell ⟨g,3,none⟩ (int i64 b.H)).setCell ⟨g,4,none⟩ (int i64 b.Z)).setCell ⟨g,5,none⟩ (int i64 b.extra)).setCell ⟨g,6,none⟩ (slice C D E)).setCell ⟨g,7,none⟩ (slice v r y)):=(((((((((Chg.refl (·=g) u).set ⟨g,0,none⟩ (int i64 b.seq) λ_=>rfl).set ⟨g,1,none⟩ (int i64 b.next) λ_=>rfl).set ⟨g,2,none⟩ (int i64 b.K) λ_=>rfl).set ⟨g,3,none⟩ (int i64 b.H) λ_=>rfl).set ⟨g,4,none⟩ (int i64 b.Z) λ_=>rfl).set ⟨g,5,none⟩ (int i64 b.extra) λ_=>rfl).set ⟨g,6,none⟩ (slice C D E) λ_=>rfl).set ⟨g,7,none⟩ (slice v r y) λ_=>rfl);have T:=ae (X.o.other e M ag.o ai.o ar.o);have U:=ae (ak.o.trans (Chg.mono e λV _ z=>by subst z;exact .inr (.inr (Blk.ty Y.o))));have ad:=ae (S.o.trans (e.below (aP A.o.2 S.o.size) λV z=>by rw[z];exact A.o.1));clear M e X ag ai S Y;go_wp2_with fail;go_ret;exact⟨rfl,T.o,ad.o,U.o⟩
end
