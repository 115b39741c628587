import Derived.Test.YtgccllbnfngpcaaGreatDoorW16
set_option linter.unusedVariables false
set_option maxRecDepth 100000
set_option maxHeartbeats 400000000
namespace Go.Proofs.YtgccllbnfngpcaaGreatDoor
open Go.RowKit _root_.Go.Proofs.Tryz List
open Value (int slice pointer bool)
open IntKind (i64)
open Ending (returned)
open Obj (cells)
section
variable {B:Nat}
theorem Rl{m:cZ}{X:List (Option dS×SC)}(a:BK m X):∀y∈fA X,y.o<=16777215/\y.b<8/\y.i<=65535/\y.t<4294967296/\y.d.length=m.Z/\By y.d:=λy b=>by
 obtain⟨c,d,e⟩:=mem_filterMap.1 b;obtain⟨-,-,b,-⟩:=a.1 c d;obtain⟨-,f,g,h,n,-,i⟩:=b y e;obtain⟨-,-,j,k,o,l⟩:=i;exact⟨k,l,h,by rw[j];unfold iD;omega,f,g⟩
theorem OZ(m:cZ)(H p N:Nat)(E:Value)(t:SE)(q u:Nat)(F:Nat->Prop)(X:List (Option dS×SC))(o:Option Nat)(w:World)(h:DrR w H p N (jk X) o)(ad:m.objs.length<=1)(ag:m.objs.length=q)(I:(rS 4 (m.objs.map df)).ok w F [slice t q u])
 (O:fQ m.K m.H m.Z=true)(J:BK m X):
 Calls prog 202 #[pointer (some ⟨H,0,none⟩),.agg (bV m E (slice t q u))] w λl a=>∃v,l=returned v/\OwnS a w.heap.size 30 1 (Ty 5 a) v (((fA X).map (j4 m.K m.H m.Z)).map rB)/\Below w.heap.size w a:=by
 have n:=(aC w.heap.size w).alloc (aj _) (cells (bV m E (slice t q u)) 68);have i:=ae (Blk.new w 68 (bV m E (slice t q u)));have d:=ae n;have j:=ae λw (h:DrR w H p N (jk X) o) (I:(rS 4 (m.objs.map df)).ok w F [slice t q u])=>yY m H p N E t q u F X o w h ad ag I O J;have s:=ae (h.below n);have r:=ae ((rS 4 _).new I n);have aw:=ae (Rl J);have ax:=ae J.2.2.1;have ai:=ae O;clear h ad ag I O J n;obtain⟨sq,nx,b,c,a,ex,dr,os⟩:=m;unfold bV at*;simp only at*;go_enter func202,ntmps202;go_upto_region 2 with fail;generalize w.alloc (cells #[int i64 sq,int i64 nx,int i64 b,int i64 c,int i64 a,int i64 ex,E,slice t q u] 68)=w0 at*;obtain⟨A,D,G,m3,K,L,Q,S⟩:=bW i.o;go_wp2_with fail;refine(j.o w0 s.o r.o).mono ?_;rintro l e ⟨a1,x,c1,rfl,f,y⟩;have ay:=ae ((rS 8 _).more f λk _ g=>(g:Bl e.heap.size k));have g:(fA X).length=x:=by have h:=xe f;rwa [aG] at h
 have P:=ae g;have ak:=ae (d.o.trans (y.mono d.o.size));have al:w.heap.size<=e.heap.size:=ak.o.size;have aM:x<=19:=by rw[<-g];exact ax.o
 generalize z:fA X=M at*;have az:=ae z;clear z;clear f y j s r i d A D G m3 K L Q S g;have am:Sz (OwnS e e.heap.size 30 1 (Ty 5 e) (slice none 0 0) (((M.take 0).map (j4 b c a)).map rB)):=ae (OwnS.nil _ _ _ _ _);have an:=ae (aC e.heap.size e);go_wp2_with fail;go_loopw [5,12] (λv f wr=>∃d:Nat,d<=x/\f=int i64 d/\Sz (OwnS wr e.heap.size 30 1 (Ty 5 wr) v (((M.take d).map (j4 b c a)).map rB))/\Sz (Below e.heap.size e wr)) (λ_ f _=>x-(intOf f).toNat)
 case atStart=>exact⟨0,by omega,rfl,am,an⟩
 case round=>
  clear am an;obtain⟨d,aR,rfl,r,G⟩:=hrel;obtain⟨Q,S,T,rfl⟩:=r.o.sl;by_cases ao:d<x
  ·have aS:(d:Int)<(x:Int):=by omega
   have K:d<M.length:=(by rw[P.o];exact ao);obtain⟨bp,op,z,A,rfl,hF,y,D⟩:=y9 ((rS 8 _).new ay.o G.o) P.o ao;have aA:=aw.o (M.getD d ym) (by rw[af,ah K];exact aQ K)
   have HT:Sz (((M.take (d+1)).map (j4 b c a)).map rB=((M.take d).map (j4 b c a)).map rB++[rB (j4 b c a (M.getD d ym))]):=ae (by
    rw[aO K,aU,aU,af,ah K];rfl)
   have aB:(((M.take d).map (j4 b c a)).map rB).length<=1000000:=(by rw[aG,aG,aH];omega);generalize ((M.take d).map (j4 b c a)).map rB=LL at*;generalize M.getD d ym=aD at*;obtain⟨f,g,i,j,s⟩:=aD;obtain⟨g1,g2,g3,g4,L,g6⟩:=aA;simp only at*;rw[L] at y D;obtain⟨U,V,W,Y,Z,x5,x6,x7⟩:=y.c;have n:=(aC wr.heap.size wr).alloc (aj _) (cells #[int i64 f,int i64 g,int i64 i,int i64 b,int i64 c,int i64 a,.int .u32 (j:Nat),slice z a A] 178);have HY:=ae (Blk.new wr 178 #[int i64 f,int i64 g,int i64 i,int i64 b,int i64 c,int i64 a,.int .u32 (j:Nat),slice z a A]);have ap:=ae ((rB s).new D n);have aq:Sz (OwnS (wr.alloc (cells #[int i64 f,int i64 g,int i64 i,int i64 b,int i64 c,int i64 a,.int .u32 (j:Nat),slice z a A] 178)) e.heap.size 30 1 (Ty 5 (wr.alloc (cells #[int i64 f,int i64 g,int i64 i,int i64 b,int i64 c,int i64 a,.int .u32 (j:Nat),slice z a A] 178))) (slice Q S T) LL):=ae (r.o.chg (M:=λ_=>False) (Chg.of n) (λ_ _ h=>h) λ_ h=>h.elim);have aa:=ae (G.o.trans (n.mono G.o.size));have G1:=ae g1;have G2:=ae g2;have G3:=ae g3;have G4:=ae g4;have G5:=ae L;have G6:=ae g6;clear g1 g2 g3 g4 L g6 n D y hF r G;go_upto_region 5 with fail;clear U V W Y Z x5 x6 x7;generalize wr.alloc (cells #[int i64 f,int i64 g,int i64 i,int i64 b,int i64 c,int i64 a,.int .u32 (j:Nat),slice z a A] 178)=w2 at*;generalize wr.heap.size=G7 at*;obtain⟨U,V,W,Y,Z,x5,x6,x7⟩:=bW HY.o;obtain⟨a',c',l,y,D,-⟩:=eU ap.o G5.o;injection l with e1 e2 e3;subst e1 e3;have CP:=ae (qL f g i b c a j s z A w2 G1.o G2.o G3.o ai.o G4.o y G6.o D);unfold tO at CP;clear y D;go_wp2_with fail;refine CP.o.mono ?_;rintro l D ⟨gc,rfl,ar,hK,ab⟩;have L:Sz (OwnS D e.heap.size 30 1 (Ty 5 D) (slice Q S T) LL):=ae (aq.o.chg (M:=λ_=>False) (Chg.of ab) (λ_ _ h=>h) λ_ h=>h.elim);have au:(j4 b c a ⟨f,g,i,j,s⟩).length=64:=iZ (by rw[kJ];have:=bn ai.o;have:=G5.o;show 13+s.length<=55;omega)
   have av:Sz ((rB (j4 b c a ⟨f,g,i,j,s⟩)).ok D (λk=>Ty 5 D k/\some k≠(Value.slice Q S T).ownBlock) [slice (some ⟨gc,0,none⟩) 64 64]):=ae (by
    have h1:=OwnB.ofBlk (C:=w2.heap.size) hK ar (by show(j4 b c a ⟨f,g,i,j,s⟩).length<=maxLen;rw[au];unfold maxLen;omega);have h2:=lV h1;have aE:(cellL 1 (jw f g i b c a j s)).length=64:=au;rw[aE] at h2;exact(rB _).more h2 λk y _=>⟨y.1,λl=>(L.o.ownTy k l.symm).ne y.1 (by decide)⟩)
   have ac:=ae (aa.o.trans (ab.mono aa.o.size));have aF:e.heap.size<=D.heap.size:=ac.o.size;clear hK ar ab CP aq aa ap HY U V W Y Z x5 x6 x7
   go_wp2_with (at_builtin;refine iL (w:=D) rfl _ _ rfl underlying45 dP rfl (by decide) (by decide) L.o aF aB (R:=rB (j4 b c a ⟨f,g,i,j,s⟩)) av.o rfl rfl rfl ?_)
   intro v6 w6 aa ab aq ap ar;rw[<-HT.o] at aa;have aK:=ae (aa.reTy λk y=>ap k y.lt λl=>y.ne (L.o.ownTy k l.symm) (by decide));have aL:=ae (ac.o.trans ab);clear aa ab aq ap ar L av HT ac;go_wp2_with fail;go_roundw
   case rel=>exact⟨d+1,by omega,by go_num,aK,aL⟩
   case measure=>simp[intOf];omega
  ·obtain rfl:d=x:=by omega
   rw[aN (by rw[P.o];exact aj _)] at r;go_wp2_with fail;go_ret;exact⟨_,rfl,by rw[az.o];exact r.o.base al λk y=>y,ak.o.trans (G.o.mono al)⟩
theorem O0{w:World}{o:Oper}{a:Act}{K:Act->World->Prop}{Q:Exit->Act->World->Prop}(h:o.guard=none)(s x:Operand){C r m c:Nat}{v:Value}{ad:SE}{L LX:List Rp}{F:Nat->Prop}
 (t:o.op=.call { callee:=.builtin .append,args:=#[s,x],argTypes:=#[45,45] })(i:OwnS w C 30 1 F v L)(j:C<=w.heap.size)(Z:L.length+m<=1000000)
 (u:OwnS w r 30 1 F (slice ad m c) LX)(y:∀b,F b->some b≠v.ownBlock)(hs:a.eval s=v)(z:a.eval x=slice ad m c)
 (A:∀e d,OwnS d C 30 1 F e (L++LX)->Below C w d->(∀b,b<w.heap.size->some b≠v.ownBlock->d.heap[b]? =w.heap[b]?)->K (a.put o.dst e) d):
 Oper.wp prog o a w K Q:=by
 have D:=i.lt;obtain⟨G,k,H⟩:=i;obtain⟨l,I,n⟩:=u;obtain⟨a',c',f,J,q2,q3,p,q⟩:=dH I;injection f with M N O;subst M N O;rw[Nat.mul_one] at q;have R:Rd w w.heap.size ad LX.length l:=⟨by rw[p];omega,λg=>by obtain⟨b,S,f,d,_,T⟩:=q g;exact⟨b,S,f,d.2,T⟩⟩
 have U:=mZ (P:=prog) (ops:=#[]) (E:=True) (K:=K) (Q:=Q) h s x 45 t C 30 (slice none 0 0) 24 underlying45 dP rfl v L.length G hs k w.heap.size ad LX.length c l z J R (MJ (by decide) rfl p n) (by omega) (by unfold maxLen;omega) j λe V W g X=>
  A e V (OwnS.app k H (λV e Y=>e.more (n V e Y) λb d _=>⟨d.1,y b d.1⟩) W g X) ((aC _ _).grown g j λe V=>(D e V).1) λb d e=>g.block b d e
 rwa [bu (by simp[Region.wanted,h])] at U
theorem Rm(m:cZ)(s p x:Nat)(g b:SE)(c i a d:Nat)(F:Nat->Prop)(X:List (Option dS×SC))(o:Option Nat)(w:World)(h:DrR w s p x (jk X) o)(y:m.objs.length<=1)(n:(rI m.drives).ok w F [slice g c i])(k:(rS 4 (m.objs.map df)).ok w F [slice b a d])
 (z:gP m)(A:jE m)(C:BK m X):
 Calls prog 135 #[pointer (some ⟨s,0,none⟩),.agg (bV m (slice g c i) (slice b a d))] w λe f=>∃v,e=returned v/\OwnS f w.heap.size 30 1 (Ty 5 f) v ((bR m++(fA X).map (j4 m.K m.H m.Z)).map rB)/\Below w.heap.size w f:=by
 have j:m.objs.length=a:=by have:=xe k;rwa [aG] at this
 have f:=(aC w.heap.size w).alloc (aj _) (cells (bV m (slice g c i) (slice b a d)) 68);have D:=ae (Blk.new w 68 (bV m (slice g c i) (slice b a d)));have E:=ae f
 have l:m.drives.length=c:=by
  obtain⟨a',c',e,_⟩:=dY n rfl;injection e with _ V _;exact V.symm
 have W:=ae λw (n:(rI m.drives).ok w F [slice g c i]) (k:(rS 4 (m.objs.map df)).ok w F [slice b a d])=>mQ m y g b c i a d F w n l k j z A;have Y:=ae λw (h:DrR w s p x (jk X) o) (k:(rS 4 (m.objs.map df)).ok w F [slice b a d])=>OZ m s p x (slice g c i) b a d F X o w h y j k z.2.2.1 C;have Z:=ae (h.below f);have N:=ae ((rS 4 _).new k f);have HD:=ae ((rI _).new n f);have HL:Sz ((bR m).length+(fA X).length<=1000000):=ae (by rw[fZ];have:=(lD A).2;have:=C.2.2.1;omega);clear h y j k n z A C f l;generalize bR m=t at*;generalize f:(fA X).map (j4 m.K m.H m.Z)=O at*;have j:O.length=(fA X).length:=by rw[<-f,aG]
 have aa:=ae j;clear f j;unfold bV at*;go_enter func135,ntmps135;go_upto_region 1 with fail;generalize w.alloc (cells #[int i64 m.seq,int i64 m.next,int i64 m.K,int i64 m.H,int i64 m.Z,int i64 m.extra,slice g c i,slice b a d] 68)=f at*;obtain⟨m0,m1,m2,m3,m4,m5,m6,m7⟩:=bW D.o;have P:Below f.heap.size f f.drew:=(aC _ f).drew
 go_region_law (first
  | (have HQ:=Q
     go_simp;go_at_call 202;refine(Y.o G (Z.o.below q.o) ((rS 4 _).new N.o q.o)).mono ?_;rintro e r ⟨v4,rfl,u,H⟩;obtain⟨a4,R,c4,rfl⟩:=u.sl;have ab:=ae u;have I:Sz (OwnS r f.heap.size 30 1 (Ty 5 r) (slice J K L) (t.map rB)):=ae (Q.o.chg (M:=λ_=>False) (Chg.of H) (λ_ _ h=>h) λ_ h=>h.elim);have S:=ae (q.o.trans (H.mono q.o.size));have T:R=(fA X).length:=(by have h:=xe u.repAny;rw[aG,aa.o] at h;exact h.symm);have ac:(t.map rB).length+R<=1000000:=(by rw[aG,T];exact HL.o);have ad:f.heap.size<=r.heap.size:=S.o.size;have ag:∀j,Ty 5 r j->some j≠(Value.slice J K L).ownBlock:=λj l e=>l.ne (I.o.ownTy j e.symm) (by decide);clear u H T;go_simp)
  | (change (if _=true then Oper.wp _ (Oper.mk (some 10) _ _ _ _ _) _ _ _ _ else _)
     refine pz rfl ?_;refine O0 (w:=r) rfl _ _ rfl I.o ad ac ab.o ag rfl rfl ?_;intro v5 H u T U
     have ai:Sz (OwnS H f.heap.size 30 1 (Ty 5 H) v5 ((t++O).map rB)):=ae (by
      rw[aU];exact u.reTy λj l=>U j l.lt λe=>l.ne (I.o.ownTy j e.symm) (by decide))
     have ak:=ae (S.o.trans T);clear u T U;go_simp)
  | (go_simp
     go_at_call 69;refine(W.o f.drew ((rI _).new HD.o P) ((rS 4 _).new N.o P)).mono ?_;rintro e G ⟨v3,rfl,u,T⟩;obtain⟨J,K,L,rfl⟩:=u.sl;have Q:Sz (OwnS G f.heap.size 30 1 (Ty 5 G) (slice J K L) (t.map rB)):=ae u;have q:=ae (bQ T);have U:=ae (D.o.below q.o D.o.lt);obtain⟨al,am,an,ao,ap,aq,ar,au⟩:=bW U.o;clear u T;go_simp))
 all_goals(
  go_simp;go_wp2_with fail;go_ret;exact⟨_,rfl,ai.o.base E.o.size λj l=>l,E.o.trans (ak.o.mono E.o.size)⟩)
end
def yI:Array Value:=#[int i64 0,int i64 0,int i64 0,slice none 0 0,slice none 0 0]
theorem ni{w:World}{g:Nat}{t:TypeId}{a b c f e:Value}(d:Blk w g t #[a,b,c,f,e]):w.cell? ⟨g,0,none⟩=some a/\w.cell? ⟨g,1,none⟩=some b/\w.cell? ⟨g,2,none⟩=some c/\w.cell? ⟨g,3,none⟩=some f/\w.cell? ⟨g,4,none⟩=some e:=⟨d.cell 0,d.cell 1,d.cell 2,d.cell 3,d.cell 4⟩
theorem FU:yI.all (·.oneCell')=true:=by kernel_rfl
theorem DR(b:SC)(a:SE)(c:Nat)(w:World)(p:Rd w w.heap.size a 64 (bK b))(d:By b)(q:64<=c/\c<=maxLen)(r:¬(iH b/\b.getD 3 0=2)):
 Calls prog 323 #[slice a 64 c] w λs e=>s=returned (.tuple #[.agg yI,bool false])/\Below w.heap.size w e:=by
 have i:Sz (Sx w (w.alloc (.cells yI 386)) [bY w.heap.size 386 yI,mR a 64 (bK b)]):=
  ae (((((Sx.nil w).add (mR a 64 (bK b)) p).alloc _).add (bY _ _ _) (Blk.new w 386 _)))
 have j:=ae λw (h:Rd w w.heap.size a 64 (bK b))=>pG b a c w h d q;have v:=ae r;have A:=getD_lt d 3;have x:w.heap.size<(w.alloc (.cells yI 386)).heap.size:=by simp
 clear p d q r;unfold yI at i x;go_enter func323,ntmps323;go_wp2_with fail;generalize e:w.alloc (cells #[int i64 0,int i64 0,int i64 0,slice none 0 0,slice none 0 0] 386)=C at*;clear e;refine(j.o _ (i.o.rd 1 rfl)).mono ?_;rintro s t ⟨k,l,d⟩;have g:=ae (i.o.step d);by_cases m:iH b
 ·obtain⟨D,rfl,u⟩:=k m
  have E:¬b.getD 3 0=2:=λh=>v.o ⟨m,h⟩;obtain⟨F,G,rfl,-⟩:=u.rd;clear k l d u j;generalize b.getD 3 0=y at*;have H:¬(y:Int)=2:=(by omega);have e:=ae (g.o.blk 0 rfl);have f:=ae (g.o.1)
  go_wp2_with (change wpList _ _ _ (Oper.mk none (Op.store 386 _ _) _ _ _ _ :: _) _ _;refine wpList_store_row rfl 386 _ _ rfl w.heap.size yI rfl rfl 386 _ e.o (by kernel_rfl) rfl FU ?_)
  have n:=ae (e.o.row yI);have o:=ae (bS f.o (aj _) yI);clear f;generalize t.setRow w.heap.size yI=z at*;go_wp2_with fail
  (try simp only[Exit.inBlock,Exit.then])
  refine bodyPost_ret (dC rfl _ _ w.heap.size 386 yI (0,0) _ rfl n.o underlying386 rfl (by kernel_rfl)) rfl ?_;exact⟨rfl,o.o⟩
 ·obtain rfl:=l m
  have e:=ae (g.o.blk 0 rfl);have f:=ae (g.o.1);clear k l d j
  go_wp2_with (change wpList _ _ _ (Oper.mk none (Op.store 386 _ _) _ _ _ _ :: _) _ _;refine wpList_store_row rfl 386 _ _ rfl w.heap.size yI rfl rfl 386 _ e.o (by kernel_rfl) rfl FU ?_)
  have n:=ae (e.o.row yI);have o:=ae (bS f.o (aj _) yI);clear f;generalize t.setRow w.heap.size yI=z at*;go_wp2_with fail
  (try simp only[Exit.inBlock,Exit.then])
  refine bodyPost_ret (dC rfl _ _ w.heap.size 386 yI (0,0) _ rfl n.o underlying386 rfl (by kernel_rfl)) rfl ?_;exact⟨rfl,o.o⟩
theorem KR{w:World}{g:Nat}{t:TypeId}{e f h i j a b c d b4:Value}(k:Blk w g t #[e,f,h,i,j]):
 Blk (((((w.setCell ⟨g,0,none⟩ a).setCell ⟨g,1,none⟩ b).setCell ⟨g,2,none⟩ c).setCell ⟨g,3,none⟩ d).setCell ⟨g,4,none⟩ b4) g t #[a,b,c,d,b4]:=by
 have:=((((k.set 0 a).set 1 b).set 2 c).set 3 d).set 4 b4;simpa using this
theorem KS{m:cZ}(c:jE m)(j:(bX m).length<=40):∃a:SC,a.length=55/\iH (eD m 0)/\(eD m 0).getD 3 0=2/\((eD m 0).drop 4).take 55=a/\By a/\a.take 4=bT m.seq 4/\a.getD 4 0=0/\a.getD 5 0=1/\a.getD 6 0=(bX m).length/\(a.drop 7).take (bX m).length=bX m/\a.drop (7+(bX m).length)=replicate (48-(bX m).length) 0:=by
 have k:=c.1;have h:ou (bX m).length=1:=by unfold ou;omega
 have i:eD m 0=cellL 2 (bT m.seq 4++[0,1,(bX m).length]++bX m):=by
  unfold eD xA;rw[h,Nat.mul_zero,drop_zero,aN (by omega)]
 have b:(bT m.seq 4++[0,1,(bX m).length]++bX m).length=7+(bX m).length:=by simp[dz];omega
 obtain⟨d,e,f⟩:=cell_of (kind:=2) (body:=bT m.seq 4++[0,1,(bX m).length]++bX m) (by omega) (by omega);rw[<-i] at d e f;refine⟨_,?_,d,e,f,?_,?_,?_,?_,?_,?_,?_⟩
 ·rw[aI,aJ,b];omega
 ·intro g a
  rcases bF.1 a with a | a
  ·rcases bF.1 a with a | a
   ·rcases bF.1 a with a | a
    ·exact fB _ _ g a
    ·simp only[mem_cons,not_mem_nil,or_false] at a
     rcases a with rfl | rfl | rfl <;> omega
   ·exact c.2.2 g a
  ·rw[eq_of_mem_replicate a];omega
 ·rw[append_assoc,append_assoc];exact take_left' (dz _ _)
 ·rw[Gx];rfl
 ·rw[Gx];rfl
 ·rw[Gx];rfl
 ·rw[append_assoc,drop_left' (by simp[dz]),take_left]
 ·rw[<-b,drop_left,b]
  congr 1;omega
def yh(a:Nat)(v u:Value):Array Value:=#[int i64 a,int i64 0,int i64 1,v,u]
theorem Pk(m:cZ)(a:SE)(c:Nat)(w:World)(N:jE m)(ai:(bX m).length<=40)(hs:m.seq<2147483648)(T:Rd w w.heap.size a 64 (bK (eD m 0)))(F:By (eD m 0))(G:64<=c/\c<=maxLen):
 Calls prog 323 #[slice a 64 c] w λf b=>∃e d g,d=(bX m).length/\f=returned (.tuple #[.agg (yh m.seq (slice e d g) (slice a 64 c)),bool true])/\(rB (bX m)).ok b (Fr w.heap.size) [slice e d g]/\Below w.heap.size w b:=by
 obtain⟨j,d,g,n,q,s,t,H,u,v,y,z⟩:=KS N ai;have r:=ae λw (h:Rd w w.heap.size a 64 (bK (eD m 0)))=>(pG (eD m 0) a c w h F G).mono λf b (e:_/\_/\_)=>(⟨e.1 g,e.2.2⟩:(∃A,f=returned (.tuple #[int i64 ((eD m 0).getD 3 0:Nat),A,bool true])/\OwnB b w.heap.size A (((eD m 0).drop 4).take 55))/\Below w.heap.size w b);rw[n,q] at r
 have l:Sz (Sx w (w.alloc (.cells yI 386)) [bY w.heap.size 386 yI,mR a 64 (bK (eD m 0))]):=
  ae (((((Sx.nil w).add (mR a 64 (bK (eD m 0))) T).alloc _).add (bY _ _ _) (Blk.new w 386 _)))
 have b:dJ (j.take 4)=m.seq:=by rw[t];exact yM (by omega)
 have ay:=N.1;have ak:=ae y;have al:=ae z;have am:=ae b;have U:=ae s;have I:=ae d;have an:=ae H;have ao:=ae u;have ap:=ae v;generalize bX m=J at*;generalize m.seq=x at*;generalize C:J.length=i at*;have aq:=ae C;obtain⟨e,D⟩:∃e,e=7+i:=⟨_,rfl⟩;have az:IntKind.i64.wrap ((7:Int)+(i:Int))=(e:Int):=by rw[IntKind.wrap_i64];omega
 have aA:(7:Int)+(i:Int)=(e:Int):=by omega
 have aB:¬(48:Int)<(i:Int):=by omega
 have aD:e<=47:=by omega
 have aE:7<=e:=by omega
 have O:=ae D;clear D C T F G g n q t H u v y z b s d N;unfold yI at l;go_enter func323,ntmps323;go_wp2_with fail;generalize V:w.alloc (cells #[int i64 0,int i64 0,int i64 0,slice none 0 0,slice none 0 0] 386)=P at*;clear V;have aF:w.heap.size<P.heap.size:=(l.o.blk 0 rfl).lt;refine(r.o _ (l.o.rd 1 rfl)).mono ?_;rintro f C ⟨⟨A,rfl,q⟩,K⟩;have W:=ae (l.o.step K)
 obtain⟨b,g,rfl,hg⟩:∃b g,A=slice (some ⟨b,0,none⟩) 55 g/\55<=g/\g<=maxLen:=by
  have X:OwnB C P.heap.size A j:=q;obtain⟨b,ar,f,_⟩:=World.ownsRow.form X (by rw[I.o];omega);rw[I.o] at f;subst f;have:=X.caps;exact⟨b,ar,rfl,this.2⟩
 have s:P.heap.size<=b:=(q.lt b rfl).1;have L:=(jF q);rw[I.o] at L;obtain⟨aa,cc,f,L,-⟩:=L;injection f with d n e3;subst d e3;have Q:=ae L;obtain⟨aK,aL⟩:=hg;have aM:(4:Int)<=(g:Int):=by omega
 have aR:¬g=4:=by omega
 have aS:(7:Int)<=(g:Int):=by omega
 have aT:¬g=7:=by omega
 have aV:(e:Int)<=(g:Int):=by omega
 have aX:¬g=e:=by omega
 have Y:=ae s;clear r K q n l s;go_wp2_with fail;go_loopw [7,27] (λq l wr=>∃k:Nat,k<=4/\l=int i64 k/\q=int i64 (dJ (j.take k):Nat)/\Sz (∃y,wr=C.drewN y)) (λ_ l _=>4-(intOf l).toNat)
 case atStart=>exact⟨0,by omega,rfl,rfl,ae ⟨0,rfl⟩⟩
 case round=>
  obtain⟨k,D,rfl,rfl,M⟩:=hrel;obtain⟨y,z⟩:=M.o;clear M;by_cases aY:k<4
  ·have S:(k:Int)<4:=by omega
   have l:k<j.length:=(by rw[I.o];omega);obtain⟨b1,o1,d,K,q⟩:=Q.o.atB (k:=k) (by omega);injection d with d;injection d with d n _;subst d n;have v:wr.cell? ⟨b,0+k,none⟩=some (.int .u8 (j.getD k 0:Nat)):=(by rw[z];exact q k (by omega));rw[Nat.zero_add] at v;have E:=getD_lt U.o k;have t:=ae (pq l);have r:=Aj U.o k (by omega);have s:256 ^ k<=256 ^ 3:=Nat.pow_le_pow_right (by omega) (by omega);have Z:dJ (j.take k)<16777216:=aW r s;have M:Sz (∃y,wr=C.drewN y):=ae ⟨y,z⟩;clear q z l r s;generalize dJ (j.take k)=l at*;generalize j.getD k 0=r at*;have s:=qR (l*256) r (by omega) (by omega);rw[Mm l r E,<-t.o] at s;have ab:bits .or .i64 ((l:Int)*256) (r:Int)=((dJ (j.take (k+1)):Nat):Int):=(by rw[<-s];congr 1);generalize u:dJ (j.take (k+1))=s2 at*;have R:=ae u;clear s t u;go_wp2_with fail;go_roundw
   case rel=>exact⟨k+1,by omega,by go_num,by rw[R.o],M⟩
   case measure=>simp[intOf];omega
  ·obtain rfl:k=4:=by omega
   rw[am.o];have u:Sz (Rd wr wr.heap.size (some ⟨b,0,none⟩) 55 (bK j)):=ae (by rw[z];exact Q.o);have au:Sz (Below C.heap.size C wr):=ae (by rw[z];exact below_drewN (aC _ _) y)
   have q:∀k,k<55->wr.cell? ⟨b,k,none⟩=some (.int .u8 (j.getD k 0:Nat)):=λk D=>by
    obtain⟨b1,o1,d,K,q⟩:=u.o.atB (k:=k) D;injection d with d;injection d with d n _;subst d n;have:=q k D
    rwa [Nat.zero_add] at this
   have E:=q 4 (by omega);have R:=q 5 (by omega);have Z:=q 6 (by omega);rw[an.o] at E;rw[ao.o] at R;rw[ap.o] at Z;have a0:i<256:=by omega
   have r:Rd wr wr.heap.size (some ⟨b,e,none⟩) (55-e) (bK (replicate (55-e) 0)):=by
    obtain⟨l,p,d,_,v⟩:=mP u.o (o:=e) (k:=55-e) (by omega) (by omega);injection d with d;injection d with d n _;subst d n;rw[Nat.zero_add,O.o,al.o] at v;rw[O.o];rw[show 55-(7+i)=48-i by omega] at v ⊢;rw[aN (by rw[aJ];exact aj _)] at v;exact v
   have ab:=ae (qV (55-e) (g-e) wr.heap.size (some ⟨b,e,none⟩) wr r (by omega) (by omega));have S5:=ae (W.o.step au.o);clear q r z Q W;go_wp2_with fail;refine ab.o.mono ?_;rintro f r ⟨rfl,s,rfl⟩;have ac:=ae (below_drewN (aC wr.heap.size wr) s);have S:=ae (S5.o.step ac.o);have av:(wr.drewN s).drew.cell? ⟨b,4,none⟩=some (.int .u8 (0:Nat)):=E;have aw:(wr.drewN s).drew.cell? ⟨b,5,none⟩=some (.int .u8 (1:Nat)):=R;have ad:Sz (Rd (wr.drewN s).drew (wr.drewN s).drew.heap.size (some ⟨b,0,none⟩) 55 (bK j)):=u;have t:Sz (Blk (wr.drewN s).drew w.heap.size 386 #[int i64 0,int i64 0,int i64 0,slice none 0 0,slice none 0 0]):=ae (S.o.blk 0 rfl);have ag:Sz (Below w.heap.size w (wr.drewN s)):=ae S.o.1;clear ab E R Z S5 S ac u;generalize wr.drewN s=r at*;obtain⟨R,S,Z,x3,x4⟩:=ni t.o;have f0:=t.o.frozen 0;have f1:=t.o.frozen 1;have f2:=t.o.frozen 2;have f3:=t.o.frozen 3;have f4:=t.o.frozen 4;have a1:IntKind.i64.wrap (e:Int)=(e:Int):=(by rw[IntKind.wrap_i64];omega);have u:Sz (Blk r w.heap.size 386 #[int i64 0,int i64 0,int i64 0,slice none 0 0,slice none 0 0]):=ae t.o;obtain⟨y0,y1,y2,y3,y4⟩:=ni u.o;have g0:=u.o.frozen 0;have g1:=u.o.frozen 1;have g2:=u.o.frozen 2;have g3:=u.o.frozen 3;have H:=u.o.frozen 4;have V:IntKind.i64.wrap 0=0:=(by decide);have a2:IntKind.i64.wrap 1=1:=(by decide);have a3:(7:Int)<=(e:Int):=(by omega);have a4:e-7=i:=(by have:=O.o;omega);go_wp2_with fail;go_region;have ab:Sz (Blk (((((r.setCell ⟨w.heap.size,0,none⟩ (int i64 x)).setCell ⟨w.heap.size,1,none⟩ (int i64 0)).setCell ⟨w.heap.size,2,none⟩ (int i64 1)).setCell ⟨w.heap.size,3,none⟩ (slice (some ⟨b,7,none⟩) i (g-7))).setCell ⟨w.heap.size,4,none⟩ (slice a 64 c)).drew w.heap.size 386 #[int i64 x,int i64 0,int i64 1,slice (some ⟨b,7,none⟩) i (g-7),slice a 64 c]):=ae (KR u.o);have ac:Sz (Below w.heap.size w (((((r.setCell ⟨w.heap.size,0,none⟩ (int i64 x)).setCell ⟨w.heap.size,1,none⟩ (int i64 0)).setCell ⟨w.heap.size,2,none⟩ (int i64 1)).setCell ⟨w.heap.size,3,none⟩ (slice (some ⟨b,7,none⟩) i (g-7))).setCell ⟨w.heap.size,4,none⟩ (slice a 64 c)).drew):=ae (((((ag.o.setCell (p:=⟨w.heap.size,0,none⟩) (aj _) _).setCell (p:=⟨w.heap.size,1,none⟩) (aj _) _).setCell (p:=⟨w.heap.size,2,none⟩) (aj _) _).setCell (p:=⟨w.heap.size,3,none⟩) (aj _) _).setCell (p:=⟨w.heap.size,4,none⟩) (aj _) _).drew;have E:b≠w.heap.size:=by have:=Y.o;omega
   have ax:Sz ((rB J).ok (((((r.setCell ⟨w.heap.size,0,none⟩ (int i64 x)).setCell ⟨w.heap.size,1,none⟩ (int i64 0)).setCell ⟨w.heap.size,2,none⟩ (int i64 1)).setCell ⟨w.heap.size,3,none⟩ (slice (some ⟨b,7,none⟩) i (g-7))).setCell ⟨w.heap.size,4,none⟩ (slice a 64 c)).drew (Fr w.heap.size) [slice (some ⟨b,7,none⟩) i (g-7)]):=ae (by
    obtain⟨l,p,d,_,v⟩:=mP (show Rd r r.heap.size (some ⟨b,0,none⟩) 55 (bK j) from ad.o) (o:=7) (k:=i) (by omega) (by omega);injection d with d;injection d with d n _;subst d n;rw[Nat.zero_add,ak.o] at v
    have D:(rB J).ok r (λl=>l=b) [slice (some ⟨b,7,none⟩) i (g-7)]:=by
     refine⟨_,_,_,rfl,by omega,by omega,(λf=>by cases f),(by rw[bL];exact aq.o),λhn=> ?_⟩;obtain⟨l,o,f,_,G⟩:=v.2 hn;exact⟨l,o,f,by injection f with f;injection f with f _ _;exact f.symm,G⟩
    refine(rB J).keep D λl F _=> ?_;subst F;exact⟨((((bJ _ _ _ l E).trans (bJ _ _ _ l E)).trans (bJ _ _ _ l E)).trans (bJ _ _ _ l E)).trans (bJ _ _ _ l E),by show w.heap.size<=l;have:=Y.o;omega⟩)
   clear t u ag ad R S Z x3 x4 f0 f1 f2 f3 f4 y0 y1 y2 y3 y4 g0 g1 g2 g3 H av aw;generalize (((((r.setCell ⟨w.heap.size,0,none⟩ (int i64 x)).setCell ⟨w.heap.size,1,none⟩ (int i64 0)).setCell ⟨w.heap.size,2,none⟩ (int i64 1)).setCell ⟨w.heap.size,3,none⟩ (slice (some ⟨b,7,none⟩) i (g-7))).setCell ⟨w.heap.size,4,none⟩ (slice a 64 c)).drew=t at*;go_wp2_with fail
   (try simp only[Exit.inBlock,Exit.then])
   refine bodyPost_ret (dC rfl _ _ w.heap.size 386 #[int i64 x,int i64 0,int i64 1,slice (some ⟨b,7,none⟩) i (g-7),slice a 64 c] (0,0) _ rfl ab.o underlying386 rfl (by kernel_rfl)) rfl ?_;exact⟨_,i,_,rfl,rfl,ax.o,ac.o⟩
def RdrS(C:Nat)(w:World)(g:Nat)(L:SC):Prop:=(By L/\C<=g)/\∃a b c,Blk w g 441 #[slice a b c,bool false]/\(rB L).ok w (Bl C) [slice a b c]
theorem lZ{L:SC}{w:World}{F:Nat->Prop}{a:SE}{n c k:Nat}(q:(rB L).ok w F [slice a n c])(A:k<=n):
 n=L.length/\n<=c/\(rB (L.take k)).ok w F [slice a k c]/\(rB (L.drop k)).ok w F [slice (if c=k then a else Option.map (λl=>l.add k) a) (n-k) (c-k)]:=by
 obtain⟨C,D,E,b,r,s,m,o,p⟩:=q;injection b with b _;injection b with t u v;subst t u v;rw[bL] at o
 have x:∀e f,(bK (L.take k))[e]? =some f->(bK L)[e]? =some f:=λe f d=>by
  unfold bK at d ⊢;rw[map_take,List.getElem?_take] at d;split at d
  ·exact d
  ·cases d
 refine⟨o.symm,r,⟨a,k,c,rfl,by omega,s,m,by rw[bL,aH];omega,λy=> ?_⟩,⟨_,_,_,rfl,by omega,by omega,λb=> ?_,by rw[bL,length_drop];omega,λy=> ?_⟩⟩
 ·obtain⟨g,h,b,i,j⟩:=p (by omega)
  exact⟨g,h,b,i,λe f d=>j e f (x e f d)⟩
 ·by_cases z:c=k
  ·omega
  ·rw[bA z] at b
   cases a with
   | none=>have:=m rfl;omega
   | some l=>cases b
 ·obtain⟨g,h,b,i,j⟩:=p (by omega)
  refine⟨g,h+k,by rw[bA (by omega),b];simp[Addr.add_lit],i,λe f d=> ?_⟩;have:=j (k+e) f (by unfold bK at d ⊢;rwa [map_drop,List.getElem?_drop] at d)
  rwa [<-Nat.add_assoc] at this
theorem RdrS.drewN{C:Nat}{w:World}{g:Nat}{L:SC}(a:RdrS C w g L)(j:Nat):RdrS C (w.drewN j) g L:=by
 obtain⟨b,c,d,e,f,h⟩:=a;exact⟨b,c,d,e,f.drewN j,(rB L).keep h λ_ i _=>⟨rfl,i⟩⟩
theorem Cf(C:Nat)(L:SC)(g k:Nat)(w:World)(h:RdrS C w g L)(i:k<=L.length):
 Calls prog 392 #[pointer (some ⟨g,0,none⟩),int i64 k] w λd b=>∃a c,d=returned (slice a k c)/\(rB (L.take k)).ok b (Bl C) [slice a k c]/\RdrS C b g (L.drop k)/\Chg (·=g) w b:=by
 obtain⟨j,a,b,c,e,d⟩:=h;have p:b=L.length:=(lZ d (bE b)).1;obtain⟨-,q,f,l⟩:=lZ d (k:=k) (by omega);have r:w.cell? ⟨g,0,none⟩=some (slice a b c):=e.cell 0;have s:w.cell? ⟨g,1,none⟩=some (bool false):=e.cell 1;have t:=e.frozen 0;have u:¬(b:Int)<(k:Int):=by omega
 have v:(k:Int)<=(c:Int):=by omega
 have x:(k:Int)<=(b:Int):=by omega
 have y:(b:Int)<=(c:Int):=by omega
 have m:=ae e;have n:=ae f;have o:=ae l;clear e d f l p i q
 have p:∀f,Sz (f=if c=k then a else Option.map (λl=>l.add k) a)->(rB (L.take k)).ok (w.setCell ⟨g,0,none⟩ (slice f (b-k) (c-k))) (Bl C) [slice a k c]/\RdrS C (w.setCell ⟨g,0,none⟩ (slice f (b-k) (c-k))) g (L.drop k)/\Chg (·=g) w (w.setCell ⟨g,0,none⟩ (slice f (b-k) (c-k))):=λf q=>by
  have i:∀d:Nat,Bl C d->d<w.heap.size->(w.setCell ⟨g,0,none⟩ (slice f (b-k) (c-k))).heap[d]? =w.heap[d]? /\Bl C d:=λd e _=>⟨bJ _ _ _ d (by have:d<C:=e;have:=j.2;show d≠g;omega),e⟩;refine⟨(rB _).keep n.o i,⟨⟨λl d=>j.1 l (mem_of_mem_drop d),j.2⟩,f,b-k,c-k,by simpa using m.o.set 0 (slice f (b-k) (c-k)),(rB _).keep (q.o▸o.o) i⟩,(Chg.refl _ _).set ⟨g,0,none⟩ _ λ_=>rfl⟩
 have d:=ae p;clear p n o m;go_enter func392,ntmps392;by_cases f:c=k
 ·have l:=d.o a (ae (bu f).symm)
  rw[f,Nat.sub_self] at l;have m:=ae l;clear d l;subst f;go_wp2_with fail;go_ret;exact⟨_,_,rfl,m.o⟩
 ·have m:=ae (d.o _ (ae (bA f).symm))
  clear d;go_wp2_with fail;go_ret;exact⟨_,_,rfl,m.o⟩
theorem xm(C:Nat)(L:SC)(g n:Nat)(w:World)(h:RdrS C w g L)(j:n<=L.length)(G:n<=4):
 Calls prog 387 #[pointer (some ⟨g,0,none⟩),int i64 n] w λi a=>i=returned (int i64 (dJ (L.take n):Nat))/\RdrS C a g (L.drop n)/\Chg (·=g) w a:=by
 have b:=ae (Cf C L g n w h j);have p:Sz (By (L.take n)):=ae λe a=>h.1.1 e (bI a);have k:Sz ((L.take n).length=n):=ae (by rw[aH];omega);clear h j;go_enter func387,ntmps387;go_wp2_with fail;refine b.o.mono ?_;rintro i q ⟨H,I,rfl,c,d,f⟩;have u:=ae d;have v:=ae f;obtain⟨J,K,i,a,-⟩:=eU c k.o;injection i with x _ y;subst x y;have z:=ae a;clear c d f a b;generalize a:L.take n=b at*;have A:=ae a;clear a;go_wp2_with fail;go_loopw [5,12] (λc d wr=>∃a:Nat,a<=n/\d=int i64 a/\c=int i64 (dJ (b.take a):Nat)/\Sz (∃c,wr=q.drewN c)) (λ_ d _=>n-(intOf d).toNat)
 case atStart=>exact⟨0,by omega,rfl,rfl,ae ⟨0,rfl⟩⟩
 case round=>
  obtain⟨a,j,rfl,rfl,d⟩:=hrel;obtain⟨c,f⟩:=d.o;clear d;by_cases l:a<n
  ·have M:(a:Int)<(n:Int):=by omega
   have m:a<b.length:=(by rw[k.o];exact l);obtain⟨D,E,rfl,N,o⟩:=z.o.atB l;have O:wr.cell? ⟨D,E+a,none⟩=some (.int .u8 (b.getD a 0:Nat)):=(by rw[f];exact o a l);have F:=getD_lt p.o a;have r:=ae (pq m);have s:=Aj p.o a (by omega);have t:256 ^ a<=256 ^ 3:=Nat.pow_le_pow_right (by omega) (by omega);have P:dJ (b.take a)<16777216:=aW s t;have d:Sz (∃c,wr=q.drewN c):=ae ⟨c,f⟩;clear o f m s t;generalize dJ (b.take a)=m at*;generalize b.getD a 0=e at*;have o:=qR (m*256) e (by omega) (by omega);rw[Mm m e F,<-r.o] at o;have Q:bits .or .i64 ((m:Int)*256) (e:Int)=((dJ (b.take (a+1)):Nat):Int):=(by rw[<-o];congr 1);generalize s:dJ (b.take (a+1))=R at*;have t:=ae s;clear o r s;go_wp2_with fail;go_roundw
   case rel=>exact⟨a+1,by omega,by go_num,by rw[t.o],d⟩
   case measure=>simp[intOf];omega
  ·obtain rfl:a=n:=by omega
   rw[aN (by rw[k.o];exact aj _)];have d:=ae f;clear f;go_wp2_with fail;go_ret;exact⟨by rw[A.o];rfl,by rw[d.o];exact u.o.drewN c,by rw[d.o];exact v.o.trans (Chg.of (below_drewN (aC _ _) c))⟩
theorem Au(C:Nat)(x:Nat)(L:SC)(g:Nat)(w:World)(c:RdrS C w g (x :: L)):
 Calls prog 387 #[pointer (some ⟨g,0,none⟩),int i64 1] w λa b=>a=returned (int i64 (x:Nat))/\RdrS C b g L/\Chg (·=g) w b:=by
 have b:=xm C (x :: L) g 1 w c (by simp) (by decide);have a:dJ ((x :: L).take 1)=x:=by simp[dJ]
 rw[a] at b;exact b
theorem vF(C:Nat)(v s:Nat)(a:Int)(c:a=(s:Nat))(L:SC)(g:Nat)(w:World)(hs:s<=4)(d:dJ (bT v s)=v)(e:RdrS C w g (bT v s++L)):
 Calls prog 387 #[pointer (some ⟨g,0,none⟩),int i64 a] w λf b=>f=returned (int i64 (v:Nat))/\RdrS C b g L/\Chg (·=g) w b:=by
 subst c;have f:=dz v s;have b:=xm C (bT v s++L) g s w e (by rw[aI];omega) hs;rw[take_append_of_le_length (by omega),aN (by omega),d,drop_append_of_le_length (by omega),drop_of_length_le (by omega),nil_append] at b;exact b
theorem MF(s:ByteArray):strOfNums (kS (fU s))=s:=by
 obtain⟨⟨a⟩⟩:=s;unfold strOfNums kS fU;congr 1;rw[map_map,map_map]
 have c:∀a:List UInt8,a.map (((λb:Int=>UInt8.ofNat b.toNat)∘(λb:Nat=>(b:Int)))∘UInt8.toNat)=a:=λa=>by
  conv=>rhs;rw[<-map_id a]
  exact map_congr_left λb _=>by simp
 rw[c]
theorem RdrS.chg{C:Nat}{w w':World}{g:Nat}{L:SC}{M:Nat->Prop}(d:RdrS C w g L)(a:Chg M w w')(e:¬M g)(f:∀b,M b->C<=b):RdrS C w' g L:=by
 obtain⟨h,i,j,k,l,m⟩:=d;exact⟨h,i,j,k,l.chg a e,(rB L).keep m λb c n=>⟨a.block b n λn=>by have o:=f b n;have:b<C:=c;omega,c⟩⟩
theorem RdrS.below{C:Nat}{w w':World}{g:Nat}{L:SC}(c:RdrS C w g L)(a:Below w.heap.size w w'):RdrS C w' g L:=by
 obtain⟨d,e,f,h,b,i⟩:=c;exact⟨d,e,f,h,b.below a b.lt,(rB L).new i a⟩
theorem RdrS.lt{C:Nat}{w:World}{g:Nat}{L:SC}(a:RdrS C w g L):C<=g/\g<w.heap.size:=by obtain⟨b,d,e,f,c,-⟩:=a;exact⟨b.2,c.lt⟩
theorem RdrS.bad{C:Nat}{w:World}{g:Nat}{L:SC}(a:RdrS C w g L):w.cell? ⟨g,1,none⟩=some (bool false):=by obtain⟨-,c,d,e,b,-⟩:=a;exact b.cell 1
theorem OwnI.chgA{w w':World}{C g:Nat}{v:Value}{l:SC}(a:OwnI w C v l)(d:Chg (·=g) w w')(e:g<C):OwnI w' C v l:=
 a.keepO λb c=>d.block b (a.ltA b c).2 λf=>by have:=(a.ltA b c).1;omega
theorem Chg.trans'{M N:Nat->Prop}{a b c:World}(d:Chg M a b)(k:Chg N b c)(f:∀i,N i->i<a.heap.size->False):Chg M a c:=
 ⟨k.os.trans d.os,k.tape.trans d.tape,k.output.trans d.output,aP d.size k.size,λi e g=>(k.block i (aW e d.size) λh=>f i h e).trans (d.block i e g)⟩
theorem Ji(C K H Z u:Nat)(e:eB)(rest:SC)(g:Nat)(w:World)(h:RdrS C w g (e.name.size :: (fU e.name++(bT e.obj 3++(bT e.len 2++(e.tries++rest))))))(O:fQ K H Z=true)(ho:e.obj<16777216)(A:e.len<65536)(aD:e.name.size<=255)(ht:e.tries.length=u)(al:jl (K*Z) e.len=u)(h8:u<=100):
 Calls prog 388 #[pointer (some ⟨g,0,none⟩),dO K H Z] w λD a=>∃v,D=returned (.agg (fJ e v))/\OwnI a w.heap.size v e.tries/\RdrS C a g rest/\Chg (·=g) w a:=by
 obtain⟨d,k,f,b⟩:=e;simp only at*;have j:=ae λw h=>Au C d.size (fU d++(bT k 3++(bT f 2++(b++rest)))) g w h;have i:=ae λw h=>Cf C (fU d++(bT k 3++(bT f 2++(b++rest)))) g d.size w h (by rw[aI,fP];omega);have m:=ae λw h=>vF C k 3 3 rfl (bT f 2++(b++rest)) g w (by decide) (QG ho) h;have x:=ae λw h=>vF C f 2 2 rfl (b++rest) g w (by decide) (QF A) h;have o:=ae λw=>jS K H Z f w O (by omega);rw[al] at o;have s:Sz ((fU d++(bT k 3++(bT f 2++(b++rest)))).take d.size=fU d/\(fU d++(bT k 3++(bT f 2++(b++rest)))).drop d.size=bT k 3++(bT f 2++(b++rest))):=ae ⟨by rw[take_append_of_le_length (by rw[fP];exact aj _),aN (by rw[fP];exact aj _)],by rw[drop_append_of_le_length (by rw[fP];exact aj _),drop_of_length_le (by rw[fP];exact aj _),nil_append]⟩;rw[s.o.1,s.o.2] at i;have HT:=ae ht;unfold fJ dO at*;simp only at*;obtain⟨E,a⟩:∃E,E=(w.alloc (cells #[int i64 K,int i64 H,int i64 Z] 25)).alloc (cells #[.string { data:=#[] },int i64 0,int i64 0,slice none 0 0] 65):=⟨_,rfl⟩;have n:(w.alloc (cells #[int i64 K,int i64 H,int i64 Z] 25)).heap.size=w.heap.size+1:=by simp
 have c:Sz (Below w.heap.size w E):=ae (by rw[a];exact((aC _ _).alloc (aj _) _).alloc (by simp) _);have q:Sz (Blk E w.heap.size 25 #[int i64 K,int i64 H,int i64 Z]):=ae (by rw[a];exact(Blk.new w _ _).alloc _);have P:Sz (Blk E (w.heap.size+1) 65 #[.string { data:=#[] },int i64 0,int i64 0,slice none 0 0]):=ae (by rw[a,<-n];exact Blk.new _ _ _);have l:Sz (C<=g/\g<w.heap.size):=ae h.lt;have Q:=ae (h.below c.o);have r:=ae a;clear h O ho A aD ht al n a s;go_enter func388,ntmps388;go_upto_region 1 with fail;rw[<-r.o];clear r;go_wp2_with fail;refine(j.o E Q.o).mono ?_;rintro D w1 ⟨rfl,n,a⟩;have r:=ae n;have t:=ae (q.o.chg a (by have:=l.o;show ¬w.heap.size=g;omega));have z:=ae (P.o.chg a (by have:=l.o;show ¬w.heap.size+1=g;omega));have G:Sz (Chg (·=g) w w1):=ae ((Chg.of c.o).trans a);clear n a Q q P c j;go_wp2_with fail;refine(i.o w1 r.o).mono ?_;rintro D F ⟨a2,c2,rfl,n,q,a⟩;obtain⟨a',c',e,I,-⟩:=eU n (fP d);injection e with X _ Y;subst X Y;have J:=wV I c2;rw[MF] at J;have L:=ae q;have j:=ae (t.o.chg a (by have:=l.o;show ¬w.heap.size=g;omega));have c:=ae (z.o.chg a (by have:=l.o;show ¬w.heap.size+1=g;omega));have N:=ae (G.o.trans a);clear q a n I r t z G i;have t:=(aC F.heap.size F).alloc (aj _) (cells #[.string d,int i64 0,int i64 0,slice none 0 0] 65);have i:=ae (Blk.new F 65 #[.string d,int i64 0,int i64 0,slice none 0 0]);have n:=ae (L.o.below t);have q:=ae (j.o.below t j.o.lt);have r:=ae (c.o.below t c.o.lt);have z:Sz (Chg (·=g) w _):=ae (N.o.trans (Chg.of t));have aX:w.heap.size+1<F.heap.size:=c.o.lt;clear t L j c N;go_wp2_with fail;generalize F.alloc (cells #[.string d,int i64 0,int i64 0,slice none 0 0] 65)=w3 at*;generalize F.heap.size=a at*;refine(m.o w3 n.o).mono ?_;rintro D w4 ⟨rfl,j,c⟩;have G:=ae j;have I:=ae (q.o.chg c (by have:=l.o;show ¬w.heap.size=g;omega));have L:=ae (r.o.chg c (by have:=l.o;show ¬w.heap.size+1=g;omega));have N:=ae (i.o.chg c (by have:=l.o;show ¬a=g;omega));have T:=ae (z.o.trans c);clear j c n q r i z m J;go_wp2_with fail;refine(x.o w4 G.o).mono ?_;rintro D R ⟨rfl,z,j⟩;have m:=N.o.chg j (by have:=l.o;show ¬a=g;omega);have S:Blk ((R.setCell ⟨a,1,none⟩ (int i64 k)).setCell ⟨a,2,none⟩ (int i64 f)) a 65 #[.string d,int i64 k,int i64 f,slice none 0 0]:=by simpa using(m.set 1 (int i64 k)).set 2 (int i64 f)
 have q:=ae S;have n:Chg (·=a) R ((R.setCell ⟨a,1,none⟩ (int i64 k)).setCell ⟨a,2,none⟩ (int i64 f)):=Chg.set (M:=(·=a)) (Chg.set (M:=(·=a)) (Chg.refl _ _) ⟨a,1,none⟩ _ λ_=>rfl) ⟨a,2,none⟩ _ λ_=>rfl;have J:=ae (z.chg n (by have:=l.o;show ¬g=a;omega) λc i=>by have:=l.o;omega);have U:=ae ((I.o.chg j (by have:=l.o;show ¬w.heap.size=g;omega)).chg n (by show ¬w.heap.size=a;omega));have r:=ae ((L.o.chg j (by have:=l.o;show ¬w.heap.size+1=g;omega)).chg n (by show ¬w.heap.size+1=a;omega));have V:Sz (Chg (·=g) w ((R.setCell ⟨a,1,none⟩ (int i64 k)).setCell ⟨a,2,none⟩ (int i64 f))):=ae ((T.o.trans j).trans' n λc i A=>by omega);obtain⟨e0,X,e2,Y⟩:=fO m;have W:=m.frozen 1;have f2:=m.frozen 2;clear z j n S m G I L N T x;obtain⟨j,m,n⟩:=lJ U.o;go_wp2_with fail;clear e0 X e2 Y W f2 j m n;generalize (R.setCell ⟨a,1,none⟩ (int i64 k)).setCell ⟨a,2,none⟩ (int i64 f)=w6 at*;refine(o.o w6).mono ?_;rintro D m ⟨rfl,j⟩;have ad:=ae (q.o.below j q.o.lt);have Q:Sz (RdrS C m g (b.drop 0++rest)):=ae (J.o.below j);have P:=ae (r.o.below j r.o.lt);have ag:=ae (V.o.trans (Chg.of j));have am:Sz (OwnI m m.heap.size (slice none 0 0) (b.take 0)):=ae (OwnI.nil _ _);have x:Sz (a<m.heap.size/\w.heap.size<=m.heap.size):=ae ⟨ad.o.lt,ag.o.size⟩;clear j q J U r V o;go_wp2_with fail;go_loopw [22] (λT wr=>∃(j:Nat) (v:Value),j<=u/\T=int i64 j/\Sz (Blk wr a 65 #[.string d,int i64 k,int i64 f,v])/\Sz (OwnI wr m.heap.size v (b.take j))/\Sz (RdrS C wr g (b.drop j++rest))/\Sz (Blk wr (w.heap.size+1) 65 #[.string { data:=#[] },int i64 0,int i64 0,slice none 0 0])/\Sz (Chg (·=g) w wr)/\Sz (m.heap.size<=wr.heap.size)) (λT _=>u-(intOf T).toNat)
 case atStart=>exact⟨0,_,by omega,rfl,ad,am,Q,P,ag,ae (aj _)⟩
 case round=>
  clear ad am Q P ag;obtain⟨j,v,aY,rfl,s,U,G,V,HC,HH⟩:=hrel;obtain⟨o,q,r,rfl⟩:=U.o.sl;by_cases aE:j<u
  ·have a0:(j:Int)<(u:Int):=by omega
   have n:j<b.length:=(by rw[HT.o];exact aE);have z:b.drop j++rest=b.getD j 0 :: (b.drop (j+1)++rest):=(by rw[drop_eq_getElem_cons n,af,ah n];rfl);have aF:Sz (b.take (j+1)=b.take j++[b.getD j 0]):=ae (by rw[aO n,af,ah n];rfl);have aK:(b.take j).length<=1000000:=(by rw[aH];omega);rw[z] at G;have CN:=ae (Au C (b.getD j 0) (b.drop (j+1)++rest) g wr.drew (G.o.below (aC _ _).drew));have a1:=G.o.bad;generalize b.getD j 0=ai at*;have an:=ae (V.o.below (aC _ _).drew V.o.lt);have ao:=ae (s.o.below (aC _ _).drew s.o.lt);have ap:=ae (U.o.below (aC _ _).drew);have aq:=ae (HC.o.trans (Chg.of (aC _ wr).drew));have aL:Sz (m.heap.size<=wr.heap.size):=ae HH.o;have q3:wr.cell? ⟨a,3,none⟩=some (slice o q r):=s.o.cell 3;clear n z G V s U HC;go_wp2_with fail
   go_region_law (first
    | (go_simp
       go_at_call 387;refine CN.o.mono ?_;rintro D n ⟨rfl,J,z⟩;have ar:=ae J;have W:=ae (ao.o.chg z (by have:=l.o;show ¬a=g;omega));have au:=ae (an.o.chg z (by have:=l.o;show ¬w.heap.size+1=g;omega));have ak:=ae (ap.o.chgA z (by have:=l.o;have:=x.o;omega));have aw:=ae (aq.o.trans z);have ax:Sz (m.heap.size<=n.heap.size):=ae (aP aL.o z.size);have q8:n.cell? ⟨a,3,none⟩=some (slice o q r):=W.o.cell 3;have a3:∀I,(n.alloc I).cell? ⟨a,3,none⟩=some (slice o q r):=λI=>(((aC n.heap.size n).alloc (aj _) I).cell (p:=⟨a,3,none⟩) W.o.lt).trans (W.o.cell 3);clear J z;go_simp)
    | (change (if _=true then Oper.wp _ (Oper.mk (some 33) _ _ _ _ _) _ _ _ _ else _)
       refine pz rfl ?_;refine Gv (w:=n.alloc (cells #[int i64 (ai:Nat)] 3)) (C:=m.heap.size) (v:=slice o q r) (xs:=b.take j) (y:=ai) (g:=n.heap.size) rfl (.tmp 29) (.tmp 32) rfl (OwnI.below ak.o ((aC _ n).alloc (aj _) _)) (aP ax.o ((aC n.heap.size n).alloc (aj _) _).size) aK (Blk.new n _ _) (by go_simp) (by go_simp) ?_;intro v9 z aa ay aM;obtain⟨I,J,L,rfl⟩:=OwnI.sl aa;rw[<-aF.o] at aa;have t:=(aC n.heap.size n).alloc (aj _) (cells #[int i64 (ai:Nat)] 3);have N:Chg (λc=>m.heap.size<=c) n z:=(Chg.of t).trans (Chg.grown ay λc i A=>(OwnI.ltA (OwnI.below ak.o t) c i).1);have ab:=ae (W.o.chg N (by have:=x.o;show ¬m.heap.size<=a;omega));have az:=ae (au.o.chg N (by have:=x.o;show ¬m.heap.size<=w.heap.size+1;omega));have aA:=ae (ar.o.chg N (by have:=x.o;have:=l.o;show ¬m.heap.size<=g;omega) λc i=>by have:=x.o;have:=l.o;omega);have aB:=ae (aw.o.trans' N λc i A=>by have:=x.o;omega);have ac:=ae aa;have f9:=ab.o.frozen 3;have aR:Sz (n.heap.size<=z.heap.size):=ae N.size;have q9:z.cell? ⟨a,3,none⟩=some (slice o q r):=ab.o.cell 3;clear aa ay aM t N))
   all_goals(
    go_simp;have S:Blk (z.setCell ⟨a,3,none⟩ (slice I J L)) a 65 #[.string d,int i64 k,int i64 f,slice I J L]:=(by simpa using ab.o.set 3 (slice I J L));have aa:=ae S;have N:Chg (·=a) z (z.setCell ⟨a,3,none⟩ (slice I J L)):=Chg.set (M:=(·=a)) (Chg.refl _ _) ⟨a,3,none⟩ _ λ_=>rfl;have ay:=ae (az.o.chg N (by show ¬w.heap.size+1=a;omega));have aM:=ae (aA.o.chg N (by have:=l.o;show ¬g=a;omega) λc i=>by have:=l.o;omega);have aS:=ae (aB.o.trans' N λc i A=>by omega);have aT:=ae (ac.o.keepO λc i=>N.block c (ac.o.ltA c i).2 (by have:=(ac.o.ltA c i).1;have:=x.o;show ¬c=a;omega));have aV:Sz (m.heap.size<=(z.setCell ⟨a,3,none⟩ (slice I J L)).heap.size):=ae (aP (aP ax.o aR.o) N.size);clear S N ab az aA aB ac ao ap an aq ak W au aw ar;generalize z.setCell ⟨a,3,none⟩ (slice I J L)=N at*;go_wp2_with fail;go_roundw
    case rel=>exact⟨j+1,_,by omega,by go_num,aa,aT,aM,ay,aS,aV⟩
    case measure=>simp[intOf];omega)
  ·obtain rfl:j=u:=by omega
   have n:OwnI wr m.heap.size (slice o q r) b:=(by have:=U.o;rwa [aN (by rw[HT.o];exact aj _)] at this);have z:RdrS C wr g rest:=(by have:=G.o;rwa [drop_of_length_le (by rw[HT.o];exact aj _),nil_append] at this);have I:=ae n;have J:=ae z;clear U G n z;obtain⟨e0,X,e2,Y⟩:=fO s.o
   go_wp2_with (change wpList _ _ _ (Oper.mk none (Op.store 65 _ _) _ _ _ _ :: _) _ _;refine wpList_store_row rfl 65 _ _ rfl (w.heap.size+1) #[.string d,int i64 k,int i64 f,slice o q r] rfl rfl 65 _ V.o (by kernel_rfl) rfl (by kernel_rfl) ?_)
   have z:=ae (V.o.row #[.string d,int i64 k,int i64 f,slice o q r]);have O:∀c,c≠w.heap.size+1->(wr.setRow (w.heap.size+1) #[.string d,int i64 k,int i64 f,slice o q r]).heap[c]? =wr.heap[c]? :=λc i=>setRow_other _ _ _ _ (by first | exact i | exact i.symm)
   (try simp only[Exit.inBlock,Exit.then])
   refine bodyPost_ret (results_cell_row rfl _ _ (w.heap.size+1) 65 #[.string d,int i64 k,int i64 f,slice o q r] (0,0) _ rfl z.o underlying65 rfl (by kernel_rfl)) rfl ?_;have i:=bS (aC 0 wr) (bE (w.heap.size+1)) #[.string d,int i64 k,int i64 f,slice o q r];have n:Chg (·=w.heap.size+1) wr (wr.setRow (w.heap.size+1) #[.string d,int i64 k,int i64 f,slice o q r]):=⟨i.os,i.tape,i.output,i.size,λT _ L=>O T L⟩;have L:=x.o;have N:=l.o;exact⟨_,rfl,OwnI.base (I.o.keepO λc i=>O c (by have:=(I.o.ltA c i).1;omega)) L.2,J.o.chg n (by show ¬g=w.heap.size+1;omega) (λc i=>by omega),HC.o.trans' n λc i A=>by omega⟩
def jB:Array Value:=#[int i64 0,int i64 0,int i64 0,int i64 0,int i64 0,int i64 0,slice none 0 0,slice none 0 0]
structure PS (C:Nat) (w w':World) (g E:Nat) (ce:Array Value) (L:SC):Prop where
 res:Blk w' C 68 jB
 box:Blk w' E 68 ce
 rd:RdrS C w' g L
 bel:Below C w w'
 ord:C<g/\g<E
theorem PS.num{C:Nat}{w w1 b:World}{g E:Nat}{d:Array Value}{L e:SC}(a:PS C w w1 g E d L)(f:RdrS C b g e)(c:Chg (·=g) w1 b)(h:C<=w1.heap.size):PS C w b g E d e:=
 ⟨a.res.chg c (by have:=a.ord;show ¬C=g;omega),a.box.chg c (by have:=a.ord;show ¬E=g;omega),f,a.bel.trans (c.below h λi j=>by have:=a.ord;omega),a.ord⟩
theorem PS.set{C:Nat}{w w1:World}{g E:Nat}{b:Array Value}{L:SC}(a:PS C w w1 g E b L)(i:Nat)(u:Value):PS C w (w1.setCell ⟨E,i,none⟩ u) g E (b.setIfInBounds i u) L:=
 ⟨a.res.far (p:=⟨E,i,none⟩) (by have:=a.ord;show C≠E;omega) u,a.box.set i u,a.rd.chg (M:=(·=E)) (Chg.set (Chg.refl _ _) ⟨E,i,none⟩ _ λ_=>rfl) (by have:=a.ord;show ¬g=E;omega) (λc d=>by have:=a.ord;omega),a.bel.setCell (p:=⟨E,i,none⟩) (by have:=a.ord;show C<=E;omega) u,a.ord⟩
theorem PS.below{C:Nat}{w w1 c:World}{g E:Nat}{d:Array Value}{L:SC}(a:PS C w w1 g E d L)(b:Below w1.heap.size w1 c):PS C w c g E d L:=
 ⟨a.res.below b a.res.lt,a.box.below b a.box.lt,a.rd.below b,a.bel.trans (b.mono (Nat.le_of_lt a.res.lt)),a.ord⟩
theorem PS.far{C D:Nat}{w w1 c:World}{g E:Nat}{d:Array Value}{L:SC}(a:PS C w w1 g E d L)(b:Chg (λe=>D<=e) w1 c)(f:E<D):PS C w c g E d L:=
 ⟨a.res.chg b (by have:=a.ord;show ¬D<=C;omega),a.box.chg b (by show ¬D<=E;omega),a.rd.chg b (by have:=a.ord;show ¬D<=g;omega) (λe h=>by have:=a.ord;omega),a.bel.trans (b.below (Nat.le_of_lt a.res.lt) λe h=>by have:=a.ord;omega),a.ord⟩
theorem Ei(m:cZ)(aM:m.objs.length<=1)(a:SE)(n c:Nat)(w:World)(hx:(rB (bX m)).ok w Any [slice a n c])(hm:gP m)(ax:By (bX m))(bf:∀x∈m.drives,x<64):
 Calls prog 370 #[slice a n c] w λl j=>∃b d e f K i,l=returned (.tuple #[.agg (bV m (slice b d e) (slice f K i)),bool true])/\(rI m.drives).ok j (Fr w.heap.size) [slice b d e]/\(rS 4 (m.objs.map df)).ok j (Fr w.heap.size) [slice f K i]/\Below w.heap.size w j:=by
 have Q:=hm.2.2.1;have E:=bn Q;have CP:=ae λb f d e K i w j k o q=>uw m aM b f d e K i Any w j k o q hm;obtain⟨⟨G,H⟩,I,-,J,⟨q6,q7⟩,q8,U⟩:=hm;obtain⟨R,f⟩:∃R,m.drives.length=R:=⟨_,rfl⟩;obtain⟨D,i⟩:∃D,m.objs.length=D:=⟨_,rfl⟩;rw[i] at aM;rw[f] at q7;have j:bX m=bT m.seq 4++(bT m.next 4++(m.K :: m.H :: m.Z :: m.extra :: R :: (m.drives++(D :: (m.objs.map jm).flatten)))):=by unfold bX;rw[f,i];simp
 have bh:=ae j;obtain⟨o,bi,-,-⟩:=lZ hx (bE n);have N:1<=n:=by rw[o,j,aI,dz];omega
 have bj:¬(n:Int)=0:=by omega
 have HX:=ae hx;have bk:=ae U;have ay:=ae f;have aR:=ae i;have aS:=ae ax;have bl:=ae Q;obtain⟨C,d⟩:∃C,C=w.heap.size:=⟨_,rfl⟩;have t:(w.alloc (.cells jB 68)).heap.size=w.heap.size+1:=by simp
 obtain⟨w0,e⟩:∃w0,w0=(w.alloc (.cells jB 68)).alloc (cells #[slice a n c,bool false] 441):=⟨_,rfl⟩;have q:Sz (Below C w w0):=ae (by rw[e,d];exact((aC _ _).alloc (aj _) _).alloc (by simp) _);have r:Sz (Blk w0 C 68 jB):=ae (by rw[e,d];exact(Blk.new w _ _).alloc _);have s:Sz (RdrS C w0 (C+1) (bX m)):=ae ⟨⟨ax,by omega⟩,a,n,c,by rw[e,d,<-t];exact Blk.new _ _ _,(rB (bX m)).keep hx λb _ A=>⟨q.o.block b (by omega),by show b<C;omega⟩⟩;have k:=ae e;have aT:=ae d;have u:=ae λw h=>vF C m.seq 4 4 rfl (bT m.next 4++(m.K :: m.H :: m.Z :: m.extra :: R :: (m.drives++(D :: (m.objs.map jm).flatten)))) (C+1) w (by decide) (yM (by omega)) h;have z:=ae λw h=>vF C m.next 4 4 rfl (m.K :: m.H :: m.Z :: m.extra :: R :: (m.drives++(D :: (m.objs.map jm).flatten))) (C+1) w (by decide) (yM (by omega)) h;have Z:=ae λx L w h=>Au C x L (C+1) w h;have CE:=ae λ(l:eB) (O:l∈m.objs) w h=>Ji C m.K m.H m.Z l.tries.length l [] (C+1) w h Q (by have:=(U.1 l O).2.1;omega) (by have V:=(U.1 l O).2.2.1;have h2:m.K*m.Z<=16*24:=bC (by omega) (by omega);omega) (by have V:=(U.1 l O).1.2.1;omega) rfl (U.1 l O).2.2.2.2.symm (by have V:=oU (U.1 l O) Q;omega);rw[j] at s;rw[<-d];clear hx ax Q E G H I J q6 q8 U f i e d t j o N;unfold dO at CE;unfold jB at k;go_enter func370,ntmps370;go_upto_region 2 with fail;rw[<-aT.o,<-k.o];clear k;go_wp2_with fail;refine(u.o w0 s.o).mono ?_;rintro S w1 ⟨rfl,o,j⟩;have f:=ae (r.o.chg j (by show ¬C=C+1;omega));have i:=ae (q.o.trans (j.below (Nat.le_of_lt r.o.lt) λk Q=>by omega));have t:=ae o;clear o j r q s u;go_wp2_with fail;refine(z.o w1 t.o).mono ?_;rintro S w2 ⟨rfl,o,j⟩;have d:=f.o.chg j (by show ¬C=C+1;omega);have q:=i.o.trans (j.below (Nat.le_of_lt f.o.lt) λk Q=>by omega);have E:=(aC w2.heap.size w2).alloc (aj _) (cells #[int i64 m.seq,int i64 m.next,int i64 0,int i64 0,int i64 0,int i64 0,slice none 0 0,slice none 0 0] 68);have e:Sz (PS C w _ (C+1) w2.heap.size _ _):=ae ⟨d.below E d.lt,Blk.new w2 68 #[int i64 m.seq,int i64 m.next,int i64 0,int i64 0,int i64 0,int i64 0,slice none 0 0,slice none 0 0],o.below E,q.trans (E.mono (Nat.le_of_lt d.lt)),by omega,o.lt.2⟩;clear o j d q E f i t z;go_wp2_with fail;generalize w2.alloc (cells #[int i64 m.seq,int i64 m.next,int i64 0,int i64 0,int i64 0,int i64 0,slice none 0 0,slice none 0 0] 68)=w3 at*
 generalize w2.heap.size=d at*;refine(Z.o _ _ w3 e.o.rd).mono ?_;rintro S w4 ⟨rfl,o,j⟩;have f:=ae (e.o.num o j (Nat.le_of_lt e.o.res.lt));clear o j e;go_wp2_with fail;refine(Z.o _ _ w4 f.o.rd).mono ?_;rintro S w5 ⟨rfl,o,j⟩;have i:=ae (f.o.num o j (Nat.le_of_lt f.o.res.lt));clear o j f;go_wp2_with fail;refine(Z.o _ _ w5 i.o.rd).mono ?_;rintro S w6 ⟨rfl,o,j⟩;have e:=ae (i.o.num o j (Nat.le_of_lt i.o.res.lt));clear o j i;obtain⟨x0,x1,x2,x3,x4,x5,x6,x7⟩:=bW e.o.box;have q:=e.o.box.frozen 2;have r:=e.o.box.frozen 3;have s:=e.o.box.frozen 4;have i:=((e.o.set 2 (int i64 m.K)).set 3 (int i64 m.H)).set 4 (int i64 m.Z);have f:Sz (PS C w _ (C+1) d #[int i64 m.seq,int i64 m.next,int i64 m.K,int i64 m.H,int i64 m.Z,int i64 0,slice none 0 0,slice none 0 0] _):=ae (by simpa using i);clear i;go_wp2_with fail;clear x0 x1 x2 x3 x4 x5 x6 x7 q r s e;generalize ((w6.setCell ⟨d,2,none⟩ (int i64 m.K)).setCell ⟨d,3,none⟩ (int i64 m.H)).setCell ⟨d,4,none⟩ (int i64 m.Z)=w7 at*;refine(Z.o _ _ w7 f.o.rd).mono ?_;rintro S e ⟨rfl,o,j⟩;have s:=ae (f.o.num o j (Nat.le_of_lt f.o.res.lt));clear o j f;have x5:e.cell? ⟨d,5,none⟩=some (int i64 0):=s.o.box.cell 5;have i:=s.o.box.frozen 5;have f:=s.o.set 5 (int i64 m.extra);have G:Sz (PS C w _ (C+1) d #[int i64 m.seq,int i64 m.next,int i64 m.K,int i64 m.H,int i64 m.Z,int i64 m.extra,slice none 0 0,slice none 0 0] _):=ae (by simpa using f);clear f;go_wp2_with fail;clear x5 i s;generalize e.setCell ⟨d,5,none⟩ (int i64 m.extra)=q at*;refine(Z.o _ _ q G.o.rd).mono ?_;rintro S f ⟨rfl,o,j⟩;have ab:Sz (PS C w f (C+1) d #[int i64 m.seq,int i64 m.next,int i64 m.K,int i64 m.H,int i64 m.Z,int i64 m.extra,slice none 0 0,slice none 0 0] (m.drives.drop 0++(D :: (m.objs.map jm).flatten))):=ae (G.o.num o j (Nat.le_of_lt G.o.res.lt));clear o j G;have aV:Sz (OwnI f f.heap.size (slice none 0 0) (m.drives.take 0)):=ae (OwnI.nil _ _);have P:Sz (d<f.heap.size):=ae ab.o.box.lt;go_wp2_with fail;go_loopw [27] (λac wr=>∃(k:Nat) (v:Value),k<=R/\ac=int i64 k/\Sz (PS C w wr (C+1) d #[int i64 m.seq,int i64 m.next,int i64 m.K,int i64 m.H,int i64 m.Z,int i64 m.extra,v,slice none 0 0] (m.drives.drop k++(D :: (m.objs.map jm).flatten)))/\Sz (OwnI wr f.heap.size v (m.drives.take k))/\Sz (f.heap.size<=wr.heap.size)) (λac _=>R-(intOf ac).toNat)
 case atStart=>exact⟨0,_,by omega,rfl,ab,aV,ae (aj _)⟩
 case round=>
  clear aV ab;obtain⟨k,v,bm,rfl,t,N,HH⟩:=hrel;obtain⟨u,r,z,rfl⟩:=N.o.sl;by_cases aX:k<R
  ·have au:(k:Int)<(R:Int):=by omega
   have i:k<m.drives.length:=(by rw[ay.o];exact aX);have H:m.drives.drop k++(D :: (m.objs.map jm).flatten)=m.drives.getD k 0 :: (m.drives.drop (k+1)++(D :: (m.objs.map jm).flatten)):=(by rw[drop_eq_getElem_cons i,af,ah i];rfl);have aq:Sz (m.drives.take (k+1)=m.drives.take k++[m.drives.getD k 0]):=ae (by rw[aO i,af,ah i];rfl);have ar:(m.drives.take k).length<=1000000:=(by rw[aH];omega);rw[H] at t;have T:=ae (t.o.below (aC _ _).drew);have CN:=ae (Z.o _ _ wr.drew T.o.rd);have az:=t.o.rd.bad;generalize m.drives.getD k 0=x at*;have an:=ae (N.o.below (aC _ _).drew);have q6:wr.cell? ⟨d,6,none⟩=some (slice u r z):=t.o.box.cell 6;clear i H t N;go_wp2_with fail
   go_region_law (first
    | (go_simp
       go_at_call 387;refine CN.o.mono ?_;rintro S e ⟨rfl,ap,W⟩;have s:=ae (T.o.num ap W (Nat.le_of_lt T.o.res.lt));have al:=ae (an.o.chgA W (by have:=s.o.ord;have:=P.o;omega));have ag:Sz (f.heap.size<=e.heap.size):=ae (aP HH.o W.size);have q8:e.cell? ⟨d,6,none⟩=some (slice u r z):=s.o.box.cell 6;have aA:∀X,(e.alloc X).cell? ⟨d,6,none⟩=some (slice u r z):=λX=>(((aC e.heap.size e).alloc (aj _) X).cell (p:=⟨d,6,none⟩) s.o.box.lt).trans (s.o.box.cell 6);clear ap W;go_simp)
    | (change (if _=true then Oper.wp _ (Oper.mk (some 38) _ _ _ _ _) _ _ _ _ else _)
       refine pz rfl ?_;refine Gv (w:=e.alloc (cells #[int i64 (x:Nat)] 3)) (C:=f.heap.size) (v:=slice u r z) (xs:=m.drives.take k) (y:=x) (g:=e.heap.size) rfl (.tmp 34) (.tmp 37) rfl (OwnI.below al.o ((aC _ e).alloc (aj _) _)) (aP ag.o ((aC e.heap.size e).alloc (aj _) _).size) ar (Blk.new e _ _) (by go_simp) (by go_simp) ?_;intro v9 q Y aa am;obtain⟨H,I,J,rfl⟩:=OwnI.sl Y;rw[<-aq.o] at Y;have E:=(aC e.heap.size e).alloc (aj _) (cells #[int i64 (x:Nat)] 3);have ai:Chg (λb=>f.heap.size<=b) e q:=(Chg.of E).trans (Chg.grown aa λb i A=>(OwnI.ltA (OwnI.below al.o E) b i).1);have G:=ae (s.o.far ai (by have:=P.o;omega));have ak:=ae Y;have f9:=G.o.box.frozen 6;have aB:Sz (e.heap.size<=q.heap.size):=ae ai.size;have U:q.cell? ⟨d,6,none⟩=some (slice u r z):=G.o.box.cell 6;clear Y aa am E ai))
   all_goals(
    go_simp;have hp:=G.o.set 6 (slice H I J);have aD:Sz (PS C w _ (C+1) d #[int i64 m.seq,int i64 m.next,int i64 m.K,int i64 m.H,int i64 m.Z,int i64 m.extra,slice H I J,slice none 0 0] _):=ae (by simpa using hp);have aa:Chg (·=d) q (q.setCell ⟨d,6,none⟩ (slice H I J)):=Chg.set (M:=(·=d)) (Chg.refl _ _) ⟨d,6,none⟩ _ λ_=>rfl;have aE:=ae (ak.o.keepO λb i=>aa.block b (ak.o.ltA b i).2 (by have:=(ak.o.ltA b i).1;have:=P.o;show ¬b=d;omega));have aF:Sz (f.heap.size<=(q.setCell ⟨d,6,none⟩ (slice H I J)).heap.size):=ae (aP (aP ag.o aB.o) aa.size);clear hp aa G ak s al an T;generalize q.setCell ⟨d,6,none⟩ (slice H I J)=am at*;go_wp2_with fail;go_roundw
    case rel=>exact⟨k+1,_,by omega,by go_num,aD,aE,aF⟩
    case measure=>simp[intOf];omega)
  ·obtain rfl:k=R:=by omega
   have hI:OwnI wr f.heap.size (slice u r z) m.drives:=(by have:=N.o;rwa [aN (by rw[ay.o];exact aj _)] at this);have hS:=t.o;rw[drop_of_length_le (by rw[ay.o];exact aj _),nil_append] at hS;have ar:=ae hI;have aq:=ae hS;clear N t hI hS;have CN:=ae (Z.o _ _ wr aq.o.rd);go_wp2_with fail;refine CN.o.mono ?_;rintro S am ⟨rfl,o,j⟩;have ab:Sz (PS C w am (C+1) d #[int i64 m.seq,int i64 m.next,int i64 m.K,int i64 m.H,int i64 m.Z,int i64 m.extra,slice u r z,slice none 0 0] ((m.objs.drop 0).map jm).flatten):=ae (aq.o.num o j (Nat.le_of_lt aq.o.res.lt));have a6:Sz (f.heap.size<=am.heap.size):=ae (aP HH.o j.size);have aY:Sz ((rI m.drives).ok am (λb=>f.heap.size<=b) [slice u r z]):=ae (gM (ar.o.chgA j (by have:=ab.o.ord;have:=P.o;omega)));have a0:Sz (OwnS am f.heap.size 65 4 (λb=>f.heap.size<=b) (slice none 0 0) ((m.objs.take 0).map df)):=ae (OwnS.nil _ _ _ _ _);clear o j aq ar CN;go_wp2_with fail;go_loopw [43] (λac wr=>∃(k:Nat) (v:Value),k<=D/\ac=int i64 k/\Sz (PS C w wr (C+1) d #[int i64 m.seq,int i64 m.next,int i64 m.K,int i64 m.H,int i64 m.Z,int i64 m.extra,slice u r z,v] ((m.objs.drop k).map jm).flatten)/\Sz (OwnS wr f.heap.size 65 4 (λb=>f.heap.size<=b) v ((m.objs.take k).map df))/\Sz ((rI m.drives).ok wr (λb=>f.heap.size<=b) [slice u r z])/\(k=0->v=slice none 0 0)/\Sz (f.heap.size<=wr.heap.size)) (λac _=>D-(intOf ac).toNat)
   case atStart=>exact⟨0,_,by omega,rfl,ab,a0,aY,λ_=>rfl,a6⟩
   case round=>
    clear ab a0 aY HH;rename World=>wx;obtain⟨ac,v,bo,rfl,t,HO,N,a7,HH⟩:=hrel;by_cases aX:ac<D
    ·obtain rfl:ac=0:=by omega
     obtain rfl:=a7 rfl
     obtain⟨l,O⟩:∃l,m.objs=[l]:=by
      have h:=aR.o;cases hm:m.objs with
      | nil=>rw[hm] at h;simp at h;omega
      | cons l aq=>rw[hm] at h;simp at h;exact⟨l,by rw[show aq=[] from eq_nil_of_length_eq_zero (by omega)]⟩
     have aq:l∈m.objs:=(by rw[O];exact mem_singleton.2 rfl);have A:((m.objs.drop 0).map jm).flatten=l.name.size :: (fU l.name++(bT l.obj 3++(bT l.len 2++(l.tries++[])))):=(by rw[O];simp[jm]);have HD:Sz (((m.objs.drop (0+1)).map jm).flatten=[]):=ae (by rw[O];rfl);have a3:Sz ((m.objs.take 0).map df=[]/\(m.objs.take (0+1)).map df=[df l]):=ae (by rw[O];exact⟨rfl,rfl⟩);rw[A] at t;rw[a3.o.1] at HO;have T:=ae (t.o.below (aC _ _).drew);have aK:=ae (CE.o l aq wx.drew T.o.rd);have az:=t.o.rd.bad;have bp:=ae (HO.o.new (aC _ wx).drew);have an:=ae ((rI m.drives).new N.o (aC _ wx).drew);obtain⟨x0,x1,x2,x3,x4,x5,x6,x7⟩:=bW t.o.box;have a8:([]:List Rp).length+1<=1000000:=(by decide);have ba:(0:Int)<(D:Int):=(by omega);obtain⟨nm,ob,ln,a4⟩:=l;unfold fJ at aK;simp only at aK;clear aq A O t N HO;go_wp2_with fail
     go_region_law (first
      | (go_simp
         go_at_call 388;refine aK.o.mono ?_;rintro S e ⟨tv,rfl,aL,ap,W⟩;obtain⟨O,aq,ar,rfl⟩:=aL.sl;have s:=ae (T.o.num ap W (Nat.le_of_lt T.o.res.lt));have bb:=ae aL;have br:C+1<d:=s.o.ord.2;have bc:Sz (OwnS e f.heap.size 65 4 (λb=>f.heap.size<=b) (slice none 0 0) []):=ae (OwnS.nil _ _ _ _ _);have al:=ae ((rI m.drives).keep an.o λb i A=>(⟨W.block b A (by have V:f.heap.size<=b:=i;have:=P.o;show ¬b=C+1;omega),i⟩:_/\f.heap.size<=b));have ag:Sz (f.heap.size<=e.heap.size):=ae (aP HH.o W.size);have bs:Sz (C<=wx.heap.size):=ae (Nat.le_of_lt T.o.res.lt);obtain⟨y0,y1,y2,y3,y4,y5,y6,y7⟩:=bW s.o.box;have aA:∀X au aw,e.cell? ⟨d,au,none⟩=some aw->(e.alloc X).cell? ⟨d,au,none⟩=some aw:=λX au aw h=>(((aC e.heap.size e).alloc (aj _) X).cell (p:=⟨d,au,none⟩) s.o.box.lt).trans h;have z7:=λX=>aA X 7 _ y7;clear ap W aL aA;go_simp)
      | (change (if _=true then Oper.wp _ (Oper.mk (some 56) _ _ _ _ _) _ _ _ _ else _)
         refine pz rfl ?_;refine Gu (w:=e.alloc (cells #[.string nm,int i64 ob,int i64 ln,slice O aq ar] 65)) (C:=f.heap.size) (v:=slice none 0 0) (L:=[]) (LX:=[df ⟨nm,ob,ln,a4⟩]) (F:=λb=>f.heap.size<=b) (m:=1) (c:=1) (ad:=⟨e.heap.size,0,none⟩) rfl (.tmp 50) (.tmp 55) rfl underlying66 sP rfl (by decide) (by decide) (bc.o.new ((aC _ e).alloc (aj _) _)) (by have:=ag.o;have:=P.o;have h:=((aC e.heap.size e).alloc (aj _) (cells #[.string nm,int i64 ob,int i64 ln,slice O aq ar] 65)).size;omega) a8 (Pz (Blk.new e _ _) ⟨[.string nm,int i64 ob,int i64 ln],[slice O aq ar],rfl,uf (by intro aw hu;simp at hu;rcases hu with rfl | rfl | rfl <;> rfl),(rI a4).keep (gM bb.o) λb i A=>⟨((aC e.heap.size e).alloc (aj _) _).block b A,⟨aP HH.o i,by simp[Value.ownBlock]⟩⟩⟩ rfl ⟨ag.o,by simp[Value.ownBlock]⟩) (by go_simp) (by go_simp) ?_;intro v9 q Y X aL au a5;obtain⟨H,I,J,rfl⟩:=Y.sl;rw[nil_append,<-a3.o.2] at Y;have E:=(aC e.heap.size e).alloc (aj _) (cells #[.string nm,int i64 ob,int i64 ln,slice O aq ar] 65);have ai:Chg (λb=>f.heap.size<=b) e q:=(Chg.of E).trans ⟨X.os,X.tape,X.output,aL,λb A _=>au b A (by simp[Value.ownBlock])⟩;have G:=ae (s.o.far ai P.o);have bd:=ae ((rI m.drives).keep al.o λb i A=>(⟨(au b (aW A E.size) (by simp[Value.ownBlock])).trans (E.block b A),i⟩:_/\f.heap.size<=b));have ak:=ae Y;have f9:=G.o.box.frozen 7;have aB:Sz (e.heap.size<=q.heap.size):=ae ai.size;have U:q.cell? ⟨d,7,none⟩=some (slice none 0 0):=G.o.box.cell 7
         have be:Sz (∀b,(Value.slice H I J).ownBlock=some b->d<b):=ae λb i=>by
          rcases a5 with h | ⟨b',h,bt⟩
          ·rw[h] at i;simp[Value.ownBlock] at i
          ·rw[h] at i;injection i with i;have:=ag.o;have:=P.o;have:=E.size;omega
         clear Y X aL au a5 E ai))
     all_goals(
      go_simp;have hp:=G.o.set 7 (slice H I J);have aD:Sz (PS C w _ (C+1) d #[int i64 m.seq,int i64 m.next,int i64 m.K,int i64 m.H,int i64 m.Z,int i64 m.extra,slice u r z,slice H I J] ((m.objs.drop (0+1)).map jm).flatten):=ae (by rw[HD.o];simpa using hp);have aa:∀b,b≠d->(q.setCell ⟨d,7,none⟩ (slice H I J)).heap[b]? =q.heap[b]? :=λb i=>bJ _ _ _ b i;have X:q.heap.size<=(q.setCell ⟨d,7,none⟩ (slice H I J)).heap.size:=(Chg.set (M:=(·=d)) (Chg.refl _ q) ⟨d,7,none⟩ (slice H I J) λ_=>rfl).size;have aE:=ae (ak.o.keepAt (λb i=>aa b (by have:=be.o b i;omega)) λb i _ _=>aa b (by have V:f.heap.size<=b:=i;have:=P.o;omega));have au:=ae ((rI m.drives).keep bd.o λb i A=>(⟨aa b (by have V:f.heap.size<=b:=i;have:=P.o;omega),i⟩:_/\f.heap.size<=b));have aF:Sz (f.heap.size<=(q.setCell ⟨d,7,none⟩ (slice H I J)).heap.size):=ae (aP (aP ag.o aB.o) X);clear hp aa X G ak s al an T;generalize q.setCell ⟨d,7,none⟩ (slice H I J)=am at*;go_wp2_with fail;go_roundw
      case rel=>exact⟨0+1,_,by omega,by go_num,aD,aE,au,λh=>by omega,aF⟩
      case measure=>simp[intOf];omega)
    ·obtain rfl:ac=D:=by omega
     obtain⟨H,K,I,rfl⟩:=HO.o.sl;have J:=HO.o;rw[aN (by rw[aR.o];exact aj _)] at J;have W:Sz ((rS 4 (m.objs.map df)).ok wx (λb=>f.heap.size<=b) [slice H K I]):=ae ((rS 4 _).more J.rep λb i _=>i.elim id id)
     have O:m.drives.length=r:=by
      obtain⟨a',c',X,-⟩:=dY N.o rfl;injection X with _ Y _;exact Y.symm
     have T:m.objs.length=K:=(by have:=J.len.1;rwa [aG] at this);have aa:=ae (CP.o u H r z K I wx (Rp.any _ N.o) O (Rp.any _ W.o) T);unfold bV at aa;have az:=t.o.rd.bad;have ba:¬(ac:Int)<(ac:Int):=(by omega);obtain⟨x0,x1,x2,x3,x4,x5,x6,x7⟩:=bW t.o.box;clear J O T HO CP CE Z;go_wp2_with fail;refine aa.o.mono ?_;rintro S ag ⟨aw,rfl,ai,T⟩;obtain⟨ap,aq,rfl,ak,-⟩:=ai.rd2 rfl;have J:=ae (t.o.below T);have al:=(rB (bX m)).new HX.o (aT.o▸J.o.bel);obtain⟨a',c',X,an,-⟩:=eU al rfl;injection X with e1 Y e3;subst e1 Y e3;have O:=ib (bX m) (bX m) _ _ a ap _ _ c aq ag an ak aS.o aS.o;rw[bq rfl] at O;replace O:=ae O;have ar:=ae ((rI m.drives).new N.o T);have au:=ae ((rS 4 (m.objs.map df)).new W.o T);clear ai T ak an al aa t N W az x0 x1 x2 x3 x4 x5 x6 x7;go_wp2_with fail;refine O.o.mono ?_;rintro l W ⟨rfl,rfl⟩;obtain⟨x0,x1,x2,x3,x4,x5,x6,x7⟩:=bW J.o.box;clear O
     go_wp2_with (change wpList _ _ _ (Oper.mk none (Op.store 68 _ _) _ _ _ _ :: _) _ _;refine wpList_store_row rfl 68 _ _ rfl C #[int i64 m.seq,int i64 m.next,int i64 m.K,int i64 m.H,int i64 m.Z,int i64 m.extra,slice u r z,slice H K I] rfl rfl 68 _ J.o.res (by kernel_rfl) rfl (by kernel_rfl) ?_)
     have T:=ae (J.o.res.row #[int i64 m.seq,int i64 m.next,int i64 m.K,int i64 m.H,int i64 m.Z,int i64 m.extra,slice u r z,slice H K I]);have Q:∀b,b≠C->(ag.setRow C #[int i64 m.seq,int i64 m.next,int i64 m.K,int i64 m.H,int i64 m.Z,int i64 m.extra,slice u r z,slice H K I]).heap[b]? =ag.heap[b]? :=λb i=>setRow_other _ _ _ _ (by first | exact i | exact i.symm);clear x0 x1 x2 x3 x4 x5 x6 x7;go_wp2_with fail
     (try simp only[Exit.inBlock,Exit.then])
     refine bodyPost_ret (dC rfl _ _ C 68 #[int i64 m.seq,int i64 m.next,int i64 m.K,int i64 m.H,int i64 m.Z,int i64 m.extra,slice u r z,slice H K I] (0,0) _ rfl T.o underlying68 rfl (by kernel_rfl)) rfl ?_;have hE:=P.o;have aa:=J.o.ord;exact⟨u,r,z,H,K,I,rfl,(rI _).keep ar.o λb i A=>⟨Q b (by have V:f.heap.size<=b:=i;omega),by have V:f.heap.size<=b:=i;show C<=b;omega⟩,(rS 4 _).keep au.o λb i A=>⟨Q b (by have V:f.heap.size<=b:=i;omega),by have V:f.heap.size<=b:=i;show C<=b;omega⟩,bS J.o.bel (aj _) _⟩
theorem JP(b:Nat)(v u l:Value)(w:World)(y:v.oneCell'=true)(z:u.oneCell'=true):
 Calls prog 324 #[l,.agg (yh b v u)] w λc a=>∃g,c=returned (.tuple #[slice (some ⟨g,0,none⟩) 1 1,bool true])/\w.heap.size<=g/\Blk a g 386 (yh b v u)/\Below w.heap.size w a:=by
 have f:=Blk.new w 386 (yh b v u);obtain⟨a,d⟩:∃a,a=w.alloc (cells (yh b v u) 386):=⟨_,rfl⟩;have e:Sz (Blk a w.heap.size 386 (yh b v u)):=ae (by rw[d];exact f);have c:Sz (Below w.heap.size w a):=ae (by rw[d];exact(aC _ _).alloc (aj _) _);have i:=ae d;unfold yh at*;clear f d;go_enter func324,ntmps324;go_upto_region 1 with fail;rw[<-i.o];clear i;obtain⟨k,m,n,o,p⟩:=ni e.o;have d:=(aC a.heap.size a).alloc (aj _) (cells #[int i64 b,int i64 0,int i64 1,v,u] 386);have i:=ae (Blk.new a 386 #[int i64 b,int i64 0,int i64 1,v,u]);have j:=ae (e.o.below d e.o.lt);have f:=(aC (a.alloc (cells #[int i64 b,int i64 0,int i64 1,v,u] 386)).heap.size (a.alloc (cells #[int i64 b,int i64 0,int i64 1,v,u] 386))).alloc (aj _) (cells #[int i64 1] 3);have q:=ae (Blk.new (a.alloc (cells #[int i64 b,int i64 0,int i64 1,v,u] 386)) 3 #[int i64 1]);have s:=ae (i.o.below f i.o.lt);have r:=ae (j.o.below f j.o.lt);have t:=ae ((c.o.trans (d.mono c.o.size)).trans (f.mono (aP c.o.size d.size)));have x:w.heap.size<=a.heap.size:=c.o.size;rw[show(a.alloc (cells #[int i64 b,int i64 0,int i64 1,v,u] 386)).heap.size=a.heap.size+1 by simp] at q;clear d f e j i c;go_wp2_with fail;clear k m n o p;generalize (a.alloc (cells #[int i64 b,int i64 0,int i64 1,v,u] 386)).alloc (cells #[int i64 1] 3)=c at*;go_loopw [6,7] (λd e wr=>d=slice (some ⟨a.heap.size,0,none⟩) 1 1/\e=pointer (some ⟨a.heap.size+1,0,none⟩)/\Sz (wr=c)) (λ_ _ _=>0)
 case atStart=>exact⟨by first | rfl | go_num,by first | rfl | go_num,ae rfl⟩
 case round=>
  obtain⟨rfl,rfl,d⟩:=hrel;obtain rfl:=d.o;have e:wr.cell? ⟨a.heap.size+1,0,none⟩=some (int i64 1):=q.o.cell 0;obtain⟨k,m,n,o,p⟩:=ni r.o;obtain⟨f,i,j,A,C⟩:=ni (show Blk wr.drew w.heap.size _ _ from r.o);go_wp2_with fail;go_region;go_wp2_with fail;go_ret2;exact⟨a.heap.size,rfl,x,s.o,t.o.drew⟩
theorem JQ(f n m c d:Nat)(v:Value)(a b:SE)(xs:SC)(w:World)(i:(rB xs).ok w Any [slice a n c])(j:(rB xs).ok w Any [slice b m d])(o:By xs):
 Calls prog 372 #[slice a n c,.agg (yh f v (slice b m d))] w λe g=>e=returned (bool true)/\Below w.heap.size w g:=by
 have g:=(aC w.heap.size w).alloc (aj _) (cells (yh f v (slice b m d)) 386);have u:=ae (Blk.new w 386 (yh f v (slice b m d)));have p:xs.length=n:=by obtain⟨h,-⟩:=lZ i (bE n);exact h.symm
 have q:xs.length=m:=by obtain⟨h,-⟩:=lZ j (bE m);exact h.symm
 obtain⟨z,A,e,r,-⟩:=eU ((rB xs).new i g) p;injection e with k x l;subst k l;obtain⟨C,D,e,s,-⟩:=eU ((rB xs).new j g) q;injection e with k x l;subst k l;have t:=ae (ib xs xs _ _ a b n m c d _ r s o o);rw[bq rfl] at t;have y:=ae g;clear i j r s g p q;unfold yh at*;go_enter func372,ntmps372;go_upto_region 1 with fail;generalize w.alloc (cells #[int i64 f,int i64 0,int i64 1,v,slice b m d] 386)=g at*;obtain⟨p,q,r,s,E⟩:=ni u.o;go_wp2_with fail;refine t.o.mono ?_;rintro e F ⟨rfl,rfl⟩;go_wp2_with fail;go_ret;exact⟨rfl,y.o⟩
theorem rI_n{l:SC}{w:World}{F:Nat->Prop}{a:SE}{n c:Nat}(b:(rI l).ok w F [slice a n c]):l.length=n:=by
 obtain⟨f,g,d,_⟩:=dY b rfl;injection d with _ e _;exact e.symm
theorem Fg{m:cZ}(a:jE m)(c:(bX m).length<=48):bR m=[eD m 0]:=by
 have d:=a.1;have b:ou (bX m).length=1:=by unfold ou;omega
 unfold bR;rw[b];rfl
theorem R8(d g q a e f:Nat)(s b j:SE)(r:SC)(w:World)(t:(rM [r]).ok w Any [slice s 1 q])(u:Blk w g 386 (yh d (slice j e f) (slice b 64 a)))(v:(rB r).ok w Any [slice b 64 a])(x:By r)(y:r.length=64):
 Calls prog 371 #[slice s 1 q,slice (some ⟨g,0,none⟩) 1 1,.func (.func 372) #[] #[]] w λz c=>z=returned (bool true)/\Below w.heap.size w c:=by
 have S:=ae t;have A:=ae u;have T:=ae v;have U:=ae x;have C:=ae y;have D:=ae (aC w.heap.size w);have V:Sz (∀c w,(callFunc 372 c).run prog w=.ok (.enter 372 c) w):=ae (enters_of func372 (by kernel_rfl) rfl);clear t u v x y;go_enter func371,ntmps371;go_wp2_with fail;go_loopw [17] (λi wr=>∃k:Nat,k<=1/\i=int i64 k/\Sz (Below w.heap.size w wr)) (λi _=>1-(intOf i).toNat)
 case atStart=>exact⟨0,by omega,rfl,D⟩
 case round=>
  clear D;obtain⟨k,hk,rfl,c⟩:=hrel;have W:k=0\/k=1:=(by omega);rcases W with rfl | rfl
  ·obtain⟨aX,cX,X,E,-⟩:=fE ((rM _).new S.o c.o) (n:=1) rfl
   injection X with Y _ Z;subst Y Z;obtain⟨bx,ox,F,G,rfl,ag,p,l,H,m,I⟩:=E.at (i:=0) (by omega);simp only[getD_cons_zero] at p l m;rw[C.o] at p l m;have J:(rB r).ok wr Any [slice F 64 G]:=⟨_,_,_,rfl,m,I,H,by rw[bL];exact C.o,λo=>by obtain⟨b',o',e',_,aa⟩:=l.2 o;exact⟨b',o',e',trivial,aa⟩⟩;have K:=ae J;have ab:=ae (A.o.below c.o A.o.lt);have L:=ae ((rB r).new T.o c.o);have o:=(aC wr.heap.size wr).alloc (aj _) (cells (yh d (slice j e f) (slice b 64 a)) 386);have HY:=ae (Blk.new wr 386 (yh d (slice j e f) (slice b 64 a)));have ac:=ae ((rB r).new K.o o);have ad:=ae ((rB r).new L.o o);have M:=ae (c.o.trans (o.mono c.o.size));unfold yh at*;obtain⟨N,O,P,Q,R⟩:=ni ab.o;rw[Nat.add_zero] at p;clear E l H m I J o K L;go_upto_region 7 with fail;clear N O P Q R;generalize wr.alloc (cells #[int i64 d,int i64 0,int i64 1,slice j e f,slice b 64 a] 386)=m at*;generalize wr.heap.size=H at*;obtain⟨N,O,P,Q,R⟩:=ni HY.o;have l:=ae (JQ d 64 64 G a (slice j e f) F b r m ac.o ad.o U.o);unfold yh at l;have I:=V.o
   go_wp2_with (go_at_fn 372;refine l.o.mono ?_;rintro z J ⟨rfl,o⟩)
   go_roundw
   case rel=>exact⟨1,by omega,by go_num,ae (M.o.trans (o.mono M.o.size))⟩
   case measure=>simp[intOf]
  ·go_wp2_with fail
   go_ret;exact⟨rfl,c.o⟩
theorem NA(m:cZ)(L:m.objs.length<=1)(g n c p:Nat)(a b:SE)(w:World)(M:gP m)(F:jE m)(ad:(bX m).length<=40)(ag:∀x∈m.drives,x<64)(D:Blk w g 386 (yh m.seq (slice a n c) (slice b 64 p)))(N:(rB (bX m)).ok w Any [slice a n c])(G:(rB (eD m 0)).ok w Any [slice b 64 p])(ai:By (eD m 0)):
 Calls prog 325 #[slice (some ⟨g,0,none⟩) 1 1] w λr l=>∃d f e i j k,r=returned (.tuple #[.agg (bV m (slice d f e) (slice i j k)),bool true])/\(rI m.drives).ok l (Fr w.heap.size) [slice d f e]/\(rS 4 (m.objs.map df)).ok l (Fr w.heap.size) [slice i j k]/\Below w.heap.size w l:=by
 have l:=(aC w.heap.size w).alloc (aj _) (.cells jB 68);have O:=ae (Blk.new w 68 jB);have H:=ae (D.below l D.lt);have ak:=ae ((rB _).new N l);have al:=ae ((rB _).new G l);have P:=ae l;have am:=ae λ(a:SE) (n c:Nat) w (h:(rB (bX m)).ok w Any [slice a n c])=>Ei m L a n c w h M F.2.2 ag;have I:=ae λw d i f e j k (o:(rI m.drives).ok w Any [slice d f e]) (q:(rS 4 (m.objs.map df)).ok w Any [slice i j k])=>mQ m L d i f e j k Any w o (rI_n o) q (by have:=xe q;rwa [aG] at this) M F;rw[Fg F (by omega)] at I;have CE:=ae λw d e (o:(rM [eD m 0]).ok w Any [slice d 1 e]) (D:Blk w g 386 (yh m.seq (slice a n c) (slice b 64 p))) (G:(rB (eD m 0)).ok w Any [slice b 64 p])=>R8 m.seq g e p n c d b a (eD m 0) w o D G ai (jO m 0);have Q:=ae ((lZ N (bE n)).1);have ay:n<=40:=by rw[Q.o];exact ad
 clear D N G ai M F ad ag L l;unfold yh jB at*;go_enter func325,ntmps325;go_wp2_with fail;generalize w.alloc (cells #[int i64 0,int i64 0,int i64 0,int i64 0,int i64 0,int i64 0,slice none 0 0,slice none 0 0] 68)=s at*;have an:Sz (OwnB s s.heap.size (slice none 0 0) []):=ae (OwnB.nil _ _);go_loopw [4,12] (λv o wr=>(o=int i64 0/\v=slice none 0 0/\Sz (wr=s))\/(o=int i64 1/\Sz (OwnB wr s.heap.size v (bX m))/\Sz (Below s.heap.size s wr))) (λ_ o _=>1-(intOf o).toNat)
 case atStart=>exact .inl ⟨rfl,rfl,ae rfl⟩
 case round=>
  rcases hrel with⟨rfl,rfl,HW⟩ | ⟨rfl,R,E⟩
  ·obtain rfl:=HW.o
   have l:=(aC wr.heap.size wr).alloc (aj _) (cells #[int i64 m.seq,int i64 0,int i64 1,slice a n c,slice b 64 p] 386);have U:=ae (Blk.new wr 386 #[int i64 m.seq,int i64 0,int i64 1,slice a n c,slice b 64 p]);have V:=ae (an.o.below l);have W:=ae ((rB _).new ak.o l);have q:=ae l;obtain⟨t,u,y,z,A⟩:=ni H.o;clear l;go_upto_region 5 with fail;clear t u y z A;generalize wr.alloc (cells #[int i64 m.seq,int i64 0,int i64 1,slice a n c,slice b 64 p] 386)=o at*;obtain⟨t,u,y,z,A⟩:=ni U.o;obtain⟨a',c',r,J,K,-⟩:=eU W.o Q.o.symm;injection r with X e2 Y;subst X Y;have Z:=q.o.size
   go_wp2_with (at_builtin;refine mM (w:=o) (C:=wr.heap.size) (v:=slice none 0 0) (xs:=[]) rfl _ _ rfl V.o Z (by simp;omega) rfl rfl K J ?_)
   intro v6 w6 S T _ _;have aa:=ae S;have ab:=ae (q.o.trans T);clear S T J K;go_wp2_with fail;go_roundw
   case rel=>exact .inr ⟨by go_num,aa,ab⟩
   case measure=>simp[intOf]
  ·obtain⟨a4,c4,rfl,-⟩:=R.o.rd2 Q.o.symm
   have S:=ae (am.o a4 n c4 wr ((rB _).more (gK R.o) λ_ _ _=>trivial));have T:=ae (H.o.below E.o H.o.lt);have J:=ae (O.o.below E.o O.o.lt);have ab:=ae ((rB _).new al.o E.o);have U:=ae (P.o.trans (E.o.mono P.o.size));clear am H O al ak an R E P;unfold bV at S I;go_wp2_with fail;refine S.o.mono ?_;rintro r o ⟨d,f,e,i,j,k,rfl,ac,ao,V⟩;have l:=(aC o.heap.size o).alloc (aj _) (cells #[int i64 m.seq,int i64 m.next,int i64 m.K,int i64 m.H,int i64 m.Z,int i64 m.extra,slice d f e,slice i j k] 68);have q:=V.trans (l.mono V.size);have K:=ae (Blk.new o 68 #[int i64 m.seq,int i64 m.next,int i64 m.K,int i64 m.H,int i64 m.Z,int i64 m.extra,slice d f e,slice i j k]);have W:Sz ((rI m.drives).ok (o.alloc (cells #[int i64 m.seq,int i64 m.next,int i64 m.K,int i64 m.H,int i64 m.Z,int i64 m.extra,slice d f e,slice i j k] 68)) (λb=>wr.heap.size<=b) [slice d f e]):=ae ((rI _).new ac l);have X:Sz ((rS 4 (m.objs.map df)).ok (o.alloc (cells #[int i64 m.seq,int i64 m.next,int i64 m.K,int i64 m.H,int i64 m.Z,int i64 m.extra,slice d f e,slice i j k] 68)) (λb=>wr.heap.size<=b) [slice i j k]):=ae ((rS 4 _).new ao l);have Y:=ae (T.o.below q T.o.lt);have Z:=ae (J.o.below q J.o.lt);have ap:=ae ((rB _).new ab.o q);have aa:=ae (U.o.trans (q.mono U.o.size));have aq:w.heap.size<wr.heap.size:=J.o.lt;clear l q V ac ao S T J ab U;go_upto_region 10 with fail;generalize o.alloc (cells #[int i64 m.seq,int i64 m.next,int i64 m.K,int i64 m.H,int i64 m.Z,int i64 m.extra,slice d f e,slice i j k] 68)=w3 at*;generalize o.heap.size=G7 at*;obtain⟨t,u,y,z,A,J,S,T⟩:=bW K.o;have ao:=ae (I.o w3 d i f e j k ((rI _).more W.o λ_ _ _=>trivial) ((rS 4 _).more X.o λ_ _ _=>trivial));go_wp2_with fail;refine ao.o.mono ?_;rintro r w8 ⟨v8,rfl,U,q⟩;obtain⟨a8,c8,rfl,-⟩:=U.val;have ar:=ae (Y.o.below q Y.o.lt);have V:=ae (Z.o.below q Z.o.lt);have ab:=ae (K.o.below q K.o.lt);have au:=ae ((rB _).new ap.o q);have av:=ae ((rI _).new W.o q);have aw:=ae ((rS 4 _).new X.o q);have ac:=ae (aa.o.trans (q.mono aa.o.size));have ax:=ae (CE.o w8 a8 c8 U.repAny ar.o au.o);clear U q Y Z K ap W X aa ao I CE t u y z A J S T;rw[aG];go_wp2_with fail;refine ax.o.mono ?_;rintro r K ⟨rfl,q⟩;have U:=ae (V.o.below q V.o.lt)
   have W:=ae (ab.o.below q ab.o.lt);have X:=ae ((rI _).new av.o q);have Y:=ae ((rS 4 _).new aw.o q);have Z:=ae (ac.o.trans (q.mono ac.o.size));clear q ar V ab au av aw ac ax;obtain⟨t,u,y,z,A,J,S,T⟩:=bW W.o
   go_wp2_with (change wpList _ _ _ (Oper.mk none (Op.store 68 _ _) _ _ _ _ :: _) _ _;refine wpList_store_row rfl 68 _ _ rfl w.heap.size #[int i64 m.seq,int i64 m.next,int i64 m.K,int i64 m.H,int i64 m.Z,int i64 m.extra,slice d f e,slice i j k] rfl rfl 68 _ U.o (by kernel_rfl) rfl (by kernel_rfl) ?_)
   have HR:=ae (U.o.row #[int i64 m.seq,int i64 m.next,int i64 m.K,int i64 m.H,int i64 m.Z,int i64 m.extra,slice d f e,slice i j k]);have V:∀b,wr.heap.size<=b->(K.setRow w.heap.size #[int i64 m.seq,int i64 m.next,int i64 m.K,int i64 m.H,int i64 m.Z,int i64 m.extra,slice d f e,slice i j k]).heap[b]? =K.heap[b]? :=λb q=>setRow_other _ _ _ _ (by omega);have aa:=ae ((rI _).keep X.o λb q _=>(⟨V b q,aP (Nat.le_of_lt aq) q⟩:_/\Fr w.heap.size b));have ab:=ae ((rS 4 _).keep Y.o λb q _=>(⟨V b q,aP (Nat.le_of_lt aq) q⟩:_/\Fr w.heap.size b));have q:=ae (bS Z.o (aj _) #[int i64 m.seq,int i64 m.next,int i64 m.K,int i64 m.H,int i64 m.Z,int i64 m.extra,slice d f e,slice i j k]);clear V U W X Y Z t u y z A J S T;generalize K.setRow w.heap.size #[int i64 m.seq,int i64 m.next,int i64 m.K,int i64 m.H,int i64 m.Z,int i64 m.extra,slice d f e,slice i j k]=U at*;go_wp2_with fail
   (try simp only[Exit.inBlock,Exit.then])
   refine bodyPost_ret (dC rfl _ _ w.heap.size 68 #[int i64 m.seq,int i64 m.next,int i64 m.K,int i64 m.H,int i64 m.Z,int i64 m.extra,slice d f e,slice i j k] (0,0) _ rfl HR.o underlying68 rfl (by kernel_rfl)) rfl ?_;exact⟨d,f,e,i,j,k,rfl,aa.o,ab.o,q.o⟩
end Go.Proofs.YtgccllbnfngpcaaGreatDoor
namespace Go.Proofs
open Go.Shelf
def Tryz.laysMan_ren:Go.Shelf.Ren:=⟨fun | 20=>389 | n=>n,fun | 24=>68 | 22=>259 | 3=>3 | 25=>394 | 4=>4 | 0=>0 | n=>n,fun | n=>n⟩
theorem Tryz.laysMan:Go.Proofs.SlLaysF0.n20 prog Tryz.laysMan_ren:= {
 mixed:=by kernel_rfl
 f20:=⟨Tryz.f389.name,by decide,func389.trans (congrArg some (by kernel_rfl))⟩
 t0:=underlying0
 a0:=Tryz.isAgg0
 z0:=Tryz.sizeOf0
 v0:=Tryz.zeroValue0
 t3:=underlying3
 a3:=Tryz.isAgg3
 z3:=Tryz.sizeOf3
 v3:=Tryz.zeroValue3
 t4:=underlying4
 a4:=Tryz.isAgg4
 z4:=Tryz.sizeOf4
 v4:=Tryz.zeroValue4
 t22:=underlying259
 a22:=Tryz.isAgg259
 z22:=Tryz.sizeOf259
 v22:=Tryz.zeroValue259
 t25:=underlying394
 a25:=Tryz.isAgg394
 z25:=Tryz.sizeOf394
 v25:=Tryz.zeroValue394 }
end Go.Proofs
