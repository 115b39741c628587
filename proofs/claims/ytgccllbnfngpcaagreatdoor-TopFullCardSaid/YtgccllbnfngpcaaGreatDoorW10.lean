import Derived.Test.YtgccllbnfngpcaaGreatDoorW9
import Derived.Lib.ConvBytes
import Derived.Laws.StructEq
import Derived.Shelf.Small.Wraps
import Derived.Shelf.Slices.Clone
import Derived.Shelf.Slices.CompactI
import Derived.Shelf.Slices.Cells
set_option linter.unusedVariables false
set_option maxRecDepth 100000
set_option maxHeartbeats 400000000
namespace Go.Proofs.YtgccllbnfngpcaaGreatDoor
open Go.RowKit _root_.Go.Proofs.Tryz List
open Value (int slice pointer bool)
open IntKind (i64)
open Ending (returned)
open Obj (cells)
def Ty(t:TypeId)(w:World)(b:Nat):Prop:=∃a c,w.heap[b]? =some (.cells a t c)
theorem Ty.lt{t:TypeId}{w:World}{b:Nat}(a:Ty t w b):b<w.heap.size:=by obtain⟨c,d,a⟩:=a;exact(Array.getElem?_eq_some_iff.1 a).1
theorem Ty.ne{t u:TypeId}{w:World}{b:Nat}(a:Ty t w b)(k:Ty u w b)(c:t≠u):False:=by
 obtain⟨d,e,a⟩:=a;obtain⟨f,g,k⟩:=k;rw[a] at k;injection k with k;injection k with _ k _;exact c k
theorem Ty.ne2{t u:TypeId}{w:World}{b g:Nat}(e:b=g)(a:Ty t w b)(k:Ty u w g)(c:t≠u):False:=by subst e;exact a.ne k c
theorem Ty.keep{t:TypeId}{w w':World}{b:Nat}(a:Ty t w b)(c:w'.heap[b]? =w.heap[b]?):Ty t w' b:=by obtain⟨d,e,a⟩:=a;exact⟨d,e,c.trans a⟩
theorem Blk.ty{w:World}{g:Nat}{t:TypeId}{a:Array Value}(b:Blk w g t a):Ty t w g:=⟨a,_,b⟩
theorem OwnS.ownTy{w:World}{C:Nat}{e:TypeId}{k:Nat}{F:Nat->Prop}{v:Value}{L:List Rp}(c:OwnS w C e k F v L):∀b,v.ownBlock=some b->Ty e w b:=by
 intro b a;obtain⟨g,d,_⟩:=c;rcases d.2 with⟨rfl,_⟩ | ⟨h,i,j,rfl,_,f,_⟩
 ·simp[Value.ownBlock] at a
 ·simp[Value.ownBlock] at a
  subst a;exact⟨_,_,f⟩
theorem mX{w w':World}{C e k n:Nat}{v:Value}{xs:List Value}(a:w.ownsRow C e k v n xs)(d:∀b,v.ownBlock=some b->w'.heap[b]? =w.heap[b]?):w'.ownsRow C e k v n xs:=by
 refine⟨a.1,?_⟩;rcases a.2 with f | ⟨c,g,h,rfl,i,j,l⟩
 ·exact .inl f
 ·exact .inr ⟨c,g,h,rfl,i,(d c rfl).trans j,l⟩
theorem OwnS.chg{w w':World}{C:Nat}{e t:TypeId}{k:Nat}{v:Value}{L:List Rp}{M:Nat->Prop}(f:OwnS w C e k (Ty t w) v L)(c:Chg M w w')(i:∀b,v.ownBlock=some b->¬M b)(g:∀b,M b->¬Ty t w b):OwnS w' C e k (Ty t w') v L:=by
 have j:=f.lt;obtain⟨l,m,n⟩:=f;exact⟨l,mX m λb a=>c.block b (j b a).2 (i b a),λh d o=>d.keep (n h d o) λb a h=>⟨c.block b h λd=>g b d a.1,a.1.keep (c.block b h λd=>g b d a.1),a.2⟩⟩
theorem OO(R:List PI)(F:Nat->Prop)(a:PK)(n c:Nat)(w:World)(m:(rM R).ok w F [slice a n c])(o:R.length=n)(W:n<=1000)(p:∀x∈R,x.length<=1000):
 Calls prog 39 #[slice a n c] w λq b=>∃v,q=returned v/\OwnS b w.heap.size 30 1 (Fr w.heap.size) v (R.map rB)/\Below w.heap.size w b:=by
 have E:PH (Sx w w [eR F (slice a n c) (rM R)]):=ae ((Sx.nil w).add (eR F _ _) m);have f:=ae o;have G:=ae p;have r:PH (OwnS w w.heap.size 30 1 (Fr w.heap.size) (slice none 0 0) ((R.take 0).map rB)):=ae (OwnS.nil _ _ _ _ _);have s:=ae (az w.heap.size w);clear m o p;go_enter func39,ntmps39;go_wp2_with fail;go_loopw [3,8] (λv d wr=>∃b:Nat,b<=n/\d=int i64 b/\PH (OwnS wr w.heap.size 30 1 (Fr w.heap.size) v ((R.take b).map rB))/\PH (Below w.heap.size w wr)) (λ_ d _=>n-(intOf d).toNat)
 case atStart=>exact⟨0,by omega,rfl,r,s⟩
 case round=>
  clear r s;obtain⟨b,X,rfl,d,e⟩:=hrel;have t:=ae (E.o.step e.o);obtain⟨H,I,J,rfl⟩:=d.o.sl;by_cases g:b<n
  ·have Y:(b:Int)<(n:Int):=by omega
   obtain⟨Z,cX,K,i,-⟩:=eZ (t.o.rep 0 rfl) f.o;injection K with L _ M;subst L M;obtain⟨bx,ox,N,O,rfl,aa,P,j,k,A,C⟩:=i.at g;have l:=G.o (R.getD b []) (by rw[af,ah (by rw[f.o];exact g)];exact aQ _)
   have u:PH ((R.take (b+1)).map rB=(R.take b).map rB++[rB (R.getD b [])]):=ae (by
    have y:b<R.length:=(by rw[f.o];exact g);rw[aN y,aU,af,ah y];rfl)
   have Q:((R.take b).map rB).length<=1000000:=(by rw[aC,aG];omega);have z:=ae (dJ (R.getD b []) _ N _ O wr j (aj _) k (by omega));have ab:PH ((R.getD b []).length<=1000):=ae l;clear i j k A C l;generalize j:R.getD b []=i at*;generalize S:i.length=T at*;generalize k:(R.take b).map rB=LL at*;clear j k;go_wp2_with fail;refine z.o.mono ?_;rintro q A ⟨v2,rfl,j,k⟩;obtain⟨U,V,rfl,-⟩:=j.rd2 S;have C:PH ((rB i).ok A (λl=>Fr w.heap.size l/\some l≠(Value.slice H I J).ownBlock) [slice U T V]):=ae (d.o.off (gG j) λl D=>⟨aP e.o.size D,.inr D⟩);have l:=ae k;have D:=e.o.size;have ac:=k.size;clear j k z t P
   go_wp2_with (at_builtin;refine gT (w:=wr) (w1:=A) rfl _ _ rfl underlying45 dA rfl (by decide) (by decide) d.o l.o D Q (R:=rB i) C.o rfl rfl rfl ?_)
   intro v6 w6 j k;rw[<-u.o] at j;have z:=ae j;have P:=ae (e.o.trans k);clear j k d C u l e;obtain⟨j,k,l,rfl⟩:=z.o.sl;go_wp2_with fail;go_roundw
   case rel=>exact⟨b+1,by omega,by go_num,z,P⟩
   case measure=>simp[intOf];omega
  ·obtain rfl:b=n:=by omega
   have i:PH ((R.take b).map rB=R.map rB):=ae (by rw[aJ (by rw[f.o];exact aj _)]);rw[i.o] at d;go_wp2_with fail;go_ret;exact⟨_,rfl,d.o,e.o⟩
theorem bP{w w':World}(a:Below w.drew.heap.size w.drew w'):Below w.heap.size w w':=((az _ w).drew).trans a
theorem OwnS.reTy{w w':World}{C:Nat}{e t:TypeId}{k:Nat}{v:Value}{L:List Rp}(c:OwnS w' C e k (Ty t w) v L)(d:∀b,Ty t w b->w'.heap[b]? =w.heap[b]?):OwnS w' C e k (Ty t w') v L:=c.base (aj _) λb a=>a.keep (d b a)
theorem kL{w:World}{C:Nat}{v:Value}{l:PI}(d:OwnB w C v l):(rB l).ok w (λb=>Ty 5 w b/\C<=b) [v]:=by
 obtain⟨g,h,rfl,i,j,m,e,f⟩:=dB (k:=1) d;rw[Nat.mul_one] at e f;refine⟨g,l.length,h,rfl,j,m,i,e,λn=> ?_⟩;obtain⟨b,o,p,⟨q,_⟩,a,r⟩:=f n;refine⟨b,o,p,⟨?_,q⟩,r⟩;rcases d.2 with⟨c,_⟩ | ⟨t,u,x,c,_,s,_⟩
 ·rw[c] at a;simp[Value.ownBlock] at a
 ·rw[c] at a;simp[Value.ownBlock] at a
  subst a;exact⟨_,_,s⟩
theorem Ju(g p f i:Nat)(v:Value)(R:List PI)(F:Nat->Prop)(w:World)(h:DrB w g p f v i)(a:(rM R).ok w F [v])(j:R.length<=1000)(k:∀x∈R,x.length<=1000):
 Calls prog 13 #[pointer (some ⟨g,0,none⟩)] w λb c=>∃v,b=returned v/\OwnS c w.heap.size 30 1 (Fr w.heap.size) v (R.map rB)/\Below w.heap.size w c:=by
 obtain⟨q,r,s,t,u,y,z⟩:=h.cells;obtain⟨l,m,rfl,-⟩:=eZ a rfl;have c:=ae (OO R F l _ m w a rfl j k);clear a;go_enter func13,ntmps13;go_wp2_with fail;refine c.o.mono ?_;rintro b A ⟨v,rfl,d,e⟩;have n:=ae d;have o:=ae e;clear d e c;go_wp2_with fail;go_ret;exact⟨_,rfl,n.o,o.o⟩
theorem FW(g p o e:Nat)(v:Value)(R:List PI)(r:PI)(a:PK)(c:Nat)(w:World)(h:DrB w g p o v e)(x:OwnS w 0 30 1 (Ty 5 w) v (R.map rB))(D:PwS w p)
 (S:Rd w w.heap.size a 64 (bF r))(ac:a=none->c=0)(aE:R.length<o)(aF:o<=512)(aK:e<=1000):
 Calls prog 136 #[pointer (some ⟨g,0,none⟩),slice a 64 c] w λd f=>d=returned (int i64 0)/\∃i,DrB f g p o i (e+1)/\OwnS f 0 30 1 (Ty 5 f) i ((R++[r]).map rB)/\
  Chg (λb=>b=g\/some b=v.ownBlock) w f/\(i.ownBlock=v.ownBlock\/∃b,i.ownBlock=some b/\w.heap.size<=b):=by
 have s:=ae (Bd p w D);have k:=ae D;obtain⟨i,j,rfl,-,-,-⟩:=x.val;rw[aC];have aL:¬(o:Int)<=(R.length:Int):=by omega
 have ar:r.length=64:=by have:=S.len;rwa [bG] at this
 have au:some g≠(Value.slice i R.length j).ownBlock:=λd=>by
  have:=x.ownTy g (by rw[aC];exact d.symm);exact(Blk.ty h).ne this (by decide)
 have l:=ae S;have m:=ae ac;obtain⟨E,T,K,G,U,V,W⟩:=h.cells;have f:=ae h;rw[aC] at x;have q:=ae x;have ad:=ae (show p≠g from λd=>by subst d;exact(Blk.ty D).ne (Blk.ty h) (by decide))
 have aw:PH (some p≠(Value.slice i R.length j).ownBlock):=ae (λd=>by
  have:=x.ownTy p d.symm;exact(Blk.ty D).ne this (by decide))
 have ax:(R.map rB).length<=1000000:=by rw[aC];omega
 rw[aC] at K;clear x D S h;rw[aC] at f;generalize aM:R.length=n at*;go_enter func136,ntmps136;clear s ac;go_wp2_with fail
 go_quiet (fail)
 have H:PH (DrB (w.drewN nq) g p o (slice i n j) e):=f;have X:PH (OwnS (w.drewN nq) 0 30 1 (Ty 5 (w.drewN nq)) (slice i n j) (R.map rB)):=ae (q.o.drewN nq);have y:PH (PwS (w.drewN nq) p):=k;have s:PH (Rd (w.drewN nq) (w.drewN nq).heap.size a 64 (bF r)):=l;have ag:PH (Chg (λb=>b=g\/some b=(Value.slice i n j).ownBlock) w (w.drewN nq)):=ae (Chg.of (below_drewN (az _ _) nq));have t:w.heap.size=(w.drewN nq).heap.size:=rfl;have ay:=ae t;clear E T K G U V W f q k l t;generalize w.drewN nq=w1 at*;obtain⟨E,T,K,G,U,V,W⟩:=H.o.cells;go_wp2_with fail;refine(Bd p w1 y.o).mono ?_;rintro d N ⟨rfl,rfl⟩;have CC:=ae (dJ r _ a 64 c N.drew s.o (aj _) m.o (by omega));clear s m;go_wp2_with fail;have f2:=Blk.frozen H.o 2
 go_region_law (first
  | (change (if _=true then Oper.wp _ (Oper.mk (some 44) _ _ _ _ _) _ _ _ _ else _)
     refine mR (w:=s) (C:=0) (F:=Ty 5 s) (v:=slice i n j) (L:=R.map rB) (R:=rB r) rfl _ _ rfl underlying45 dA rfl (by decide) (by decide) Y.o (bu _) ax ai.o rfl rfl rfl ?_;intro v4 t f u A q J;obtain⟨k,l,m,rfl⟩:=f.sl;have Z:=ae f;have O:=ae u;have ak:=ae A;have P:=ae q;have al:=ae J;have z:PH (DrB t g p o (slice i n j) e):=ae ((q g (Blk.lt I.o) au).trans I.o);have Q:=Blk.cell z.o 2;have aA:t.cell? ⟨g,2,none⟩=some (slice i n j):=Q;have aB:=Blk.frozen z.o 2;clear f u A q J Q)
  | (go_simp
     go_at_call 86;refine CC.o.mono ?_;rintro d s ⟨v3,rfl,q,A⟩;replace A:=bP A;have J:PH (Below N.heap.size N s):=ae A;have I:PH (DrB s g p o (slice i n j) e):=ae (Blk.below H.o A (Blk.lt H.o));have Y:PH (OwnS s 0 30 1 (Ty 5 s) (slice i n j) (R.map rB)):=ae (X.o.chg (M:=λ_=>False) (Chg.of A) (λ_ _ h=>h) (λ_ h=>h.elim));have ai:PH ((rB r).ok s (λb=>Ty 5 s b/\some b≠(Value.slice i n j).ownBlock) [v3]):=ae ((rB r).more (kL q) λb f _=>⟨f.1,λd=>by have h1:=(X.o.lt b d.symm).2;have h2:N.heap.size<=b:=f.2;omega⟩);have d0:s.cell? ⟨g,2,none⟩=some (slice i n j):=Blk.cell I.o 2;have d1:g<s.heap.size:=Blk.lt I.o;obtain⟨a3,k3,rfl,-⟩:=q.rd2 ar;clear q A;go_simp))
 all_goals(
  clear aA aB d0 d1 f2 CC E T K G U V W;have u:PH (DrB (t.setCell ⟨g,2,none⟩ (slice k l m)) g p o (slice k l m) e):=ae (Blk.set z.o 2 _);have q:some g≠(Value.slice k l m).ownBlock:=λd=>(Blk.ty z.o).ne (Z.o.ownTy g d.symm) (by decide)
  have aa:PH (OwnS (t.setCell ⟨g,2,none⟩ (slice k l m)) 0 30 1 (Ty 5 (t.setCell ⟨g,2,none⟩ (slice k l m))) (slice k l m) (R.map rB++[rB r])):=ae ((Z.o.reTy λb f=>P.o b f.lt λd=>f.ne (Y.o.ownTy b d.symm) (by decide)).chg (M:=(·=g)) ((Chg.refl (·=g) t).set ⟨g,2,none⟩ _ λ_=>rfl)
   (λb f d=>q (by rw[f,d])) (λb d f=>Ty.ne2 d f (Blk.ty z.o) (by decide)))
  have am:PH (Chg (λb=>b=g\/some b=(Value.slice i n j).ownBlock) w (t.setCell ⟨g,2,none⟩ (slice k l m))):=ae (((ag.o.trans (Chg.of J.o)).trans ⟨O.o.os,O.o.tape,O.o.output,ak.o,λan Q hM=>P.o an Q λd=>hM (.inr d)⟩).trans ((Chg.refl _ t).set ⟨g,2,none⟩ _ λ_=>.inl rfl));have ao:PH (PwS (t.setCell ⟨g,2,none⟩ (slice k l m)) p):=ae (Blk.far (P.o p (Blk.lt (Blk.below y.o J.o (Blk.lt y.o))) aw.o |>.trans (Blk.below y.o J.o (Blk.lt y.o))) ad.o _);have aD:PH ((Value.slice k l m).ownBlock=(Value.slice i n j).ownBlock\/∃b,(Value.slice k l m).ownBlock=some b/\w.heap.size<=b):=ae (al.o.elim .inl λ⟨b,d,h⟩=>.inr ⟨b,d,by have:=ay.o;have:=J.o.size;omega⟩);clear z Z P O ak al Y ai I J q ag X H y;generalize t.setCell ⟨g,2,none⟩ (slice k l m)=q at*;have G:q.cell? ⟨g,3,none⟩=some (int i64 e):=Blk.cell u.o 3;have f3:q.frozen? ⟨g,3,none⟩=false:=Blk.frozen u.o 3;have E:(q.setCell ⟨g,3,none⟩ (int i64 ((e:Int)+1))).cell? ⟨g,0,none⟩=some (pointer (some ⟨p,0,none⟩)):=Blk.cell (Blk.set u.o 3 _) 0;have Q:PH (DrB (q.setCell ⟨g,3,none⟩ (int i64 ((e:Int)+1))) g p o (slice k l m) (e+1)):=ae (Blk.set u.o 3 _)
  have ab:PH (OwnS (q.setCell ⟨g,3,none⟩ (int i64 ((e:Int)+1))) 0 30 1 (Ty 5 (q.setCell ⟨g,3,none⟩ (int i64 ((e:Int)+1)))) (slice k l m) (R.map rB++[rB r])):=ae (aa.o.chg (M:=(·=g)) ((Chg.refl (·=g) q).set ⟨g,3,none⟩ _ λ_=>rfl)
   (λb f d=>(Blk.ty u.o).ne (aa.o.ownTy g (by rw[f,d])) (by decide)) (λb d f=>Ty.ne2 d f (Blk.ty u.o) (by decide)))
  have ap:PH (Chg (λb=>b=g\/some b=(Value.slice i n j).ownBlock) w (q.setCell ⟨g,3,none⟩ (int i64 ((e:Int)+1)))):=ae (am.o.trans ((Chg.refl _ q).set ⟨g,3,none⟩ _ λ_=>.inl rfl));have aq:PH (PwS (q.setCell ⟨g,3,none⟩ (int i64 ((e:Int)+1))) p):=ae (Blk.far ao.o ad.o _);clear u aa am ao;go_wp2_with fail;generalize q.setCell ⟨g,3,none⟩ (int i64 ((e:Int)+1))=w6 at*;refine(ze p w6 aq.o).mono ?_;rintro d w7 ⟨rfl,rfl⟩;clear E G f3;go_wp2_with fail;refine(zg g p o (e+1) _ w7 Q.o).mono ?_;rintro d w8 ⟨rfl,hd,u⟩
  have aa:PH (OwnS w8 0 30 1 (Ty 5 w8) (slice k l m) (R.map rB++[rB r])):=ae (ab.o.chg u
   (λb f d=>(Blk.ty Q.o).ne (ab.o.ownTy g (by rw[f,d])) (by decide)) (λb d f=>Ty.ne2 d f (Blk.ty Q.o) (by decide)))
  have f:=ae hd;have am:=ae (ap.o.trans (u.mono λan _ d=>.inl d));clear hd u ab Q ap aq;go_wp2_with fail;go_ret;exact⟨rfl,_,f.o,by rw[aU];exact aa.o,am.o,aD.o⟩)
theorem AA(v:Value)(xs:PI)(C n s:Nat)(w:World)(p:OwnB w C v xs)(t:C<=w.heap.size)(F:n<4294967296)(hs:s<=4)(G:xs.length<=1000):
 Calls prog 195 #[v,int i64 n,int i64 s] w λc a=>∃b,c=returned b/\OwnB a C b (xs++bU n s)/\Below C w a:=by
 have q:PH (OwnB w C v (xs++(bU n s).take (s-s))):=ae (by rw[Nat.sub_self,take_zero,append_nil];exact p);have r:PH (Below C w w):=ae (az _ _);have u:IntKind.i64.wrap ((s:Int)-1)=(s:Int)-1:=by rw[IntKind.wrap_i64];omega
 obtain⟨H,I,rfl,-⟩:=p.rd;clear p;go_enter func195,ntmps195;go_wp2_with fail;go_loopw [0,7] (λb a wr=>∃g:Nat,g<=s/\a=int i64 ((g:Int)-1)/\PH (OwnB wr C b (xs++(bU n s).take (s-g)))/\PH (Below C w wr)) (λ_ a _=>(intOf a+1).toNat)
 case atStart=>exact⟨s,aj _,rfl,q,r⟩
 case round=>
  clear q r u;obtain⟨g,J,rfl,a,e⟩:=hrel;have m:C<=wr.heap.size:=aP t e.o.size;by_cases x:g=0
  ·subst x
   rw[Nat.sub_zero,aJ (by rw[cH];exact aj _)] at a;generalize b:xs++bU n s=z at*;have c:=ae b;clear b;obtain⟨A,D,rfl,-⟩:=a.o.rd;go_wp2_with fail;go_ret;exact⟨_,rfl,by rw[c.o];exact a.o,e.o⟩
  ·obtain⟨b,rfl⟩:∃b,g=b+1:=⟨g-1,by omega⟩
   have o:(xs++(bU n s).take (s-(b+1))).length<=1000000:=(by rw[aH,aG,cH];omega);have f:PH (xs++(bU n s).take (s-b)=xs++(bU n s).take (s-(b+1))++[n/256 ^ b%256]):=ae (by rw[rA n s b (by omega),append_assoc]);generalize xs++(bU n s).take (s-(b+1))=z at*;obtain⟨A,D,rfl,-⟩:=a.o.rd;have E:b=0\/b=1\/b=2\/b=3:=(by omega);rcases E with rfl | rfl | rfl | rfl
   ·go_wp2_with (at_builtin;refine fD (w:=wr) (C:=C) (y:=n%256) rfl _ _ ?hi rfl a.o m o rfl rfl ?_)
    case hi=>omega
    intro i j c d;have k:PH (OwnB j C i (xs++(bU n s).take (s-0))):=ae (by rw[f.o,show n/256 ^ 0%256=n%256 by simp];exact c);have l:=ae (e.o.trans d);clear c d a e f;go_wp2_with fail;go_roundw
    case rel=>exact⟨0,by omega,by go_num,k,l⟩
    case measure=>simp[intOf]
   ·go_wp2_with (at_builtin;refine fD (w:=wr) (C:=C) (y:=n/256%256) rfl _ _ ?hi rfl a.o m o rfl rfl ?_)
    case hi=>omega
    intro i j c d;have k:PH (OwnB j C i (xs++(bU n s).take (s-1))):=ae (by rw[f.o,show n/256 ^ 1%256=n/256%256 by simp];exact c);have l:=ae (e.o.trans d);clear c d a e f;go_wp2_with fail;go_roundw
    case rel=>exact⟨1,by omega,by go_num,k,l⟩
    case measure=>simp[intOf]
   ·go_wp2_with (at_builtin;refine fD (w:=wr) (C:=C) (y:=n/65536%256) rfl _ _ ?hi rfl a.o m o rfl rfl ?_)
    case hi=>omega
    intro i j c d;have k:PH (OwnB j C i (xs++(bU n s).take (s-2))):=ae (by rw[f.o,show n/256 ^ 2%256=n/65536%256 by simp];exact c);have l:=ae (e.o.trans d);clear c d a e f;go_wp2_with fail;go_roundw
    case rel=>exact⟨2,by omega,by go_num,k,l⟩
    case measure=>simp[intOf]
   ·go_wp2_with (at_builtin;refine fD (w:=wr) (C:=C) (y:=n/16777216%256) rfl _ _ ?hi rfl a.o m o rfl rfl ?_)
    case hi=>omega
    intro i j c d;have k:PH (OwnB j C i (xs++(bU n s).take (s-3))):=ae (by rw[f.o,show n/256 ^ 3%256=n/16777216%256 by simp];exact c);have l:=ae (e.o.trans d);clear c d a e f;go_wp2_with fail;go_roundw
    case rel=>exact⟨3,by omega,by go_num,k,l⟩
    case measure=>simp[intOf]
theorem fR(n a b:Int)(w:World):Calls prog 146 #[int i64 n,int i64 a,int i64 b] w λc d=>c=returned (bool (decide (a<=n/\n<=b)))/\d=w:=by
 by_cases d:a<=n
 ·by_cases e:n<=b
  ·have c:decide (a<=n/\n<=b)=true:=bf ⟨d,e⟩
   rw[c];have f:decide (a<=n)=true:=bf d;have g:decide (n<=b)=true:=bf e;go_enter func146,ntmps146;go_wp2_with fail;go_ret;exact⟨rfl,rfl⟩
  ·have c:decide (a<=n/\n<=b)=false:=decide_eq_false λh=>e h.2
   rw[c];have f:decide (a<=n)=true:=bf d;have g:decide (n<=b)=false:=decide_eq_false e;go_enter func146,ntmps146;go_wp2_with fail;go_ret;exact⟨rfl,rfl⟩
 ·have c:decide (a<=n/\n<=b)=false:=decide_eq_false λh=>d h.1
  rw[c];have f:decide (a<=n)=false:=decide_eq_false d;go_enter func146,ntmps146;go_wp2_with fail;go_ret;exact⟨rfl,rfl⟩
theorem kU(o b t:Nat)(w:World)(d:o<=16777215)(e:b<=8)(f:t<=16):Calls prog 114 #[int i64 o,int i64 b,int i64 t] w λa c=>a=returned (.int .u32 ((128*o+16*b+t:Nat):Int))/\c=w:=by
 go_enter func114,ntmps114;go_wp2_with fail;go_ret;refine⟨?_,rfl⟩;congr 2
def xx(b:Int)(l:PI):Bool:=(range l.length).all λa=>decide (((l.getD a 0:Nat):Int)<=b) && (a == 0 || decide (l.getD (a-1) 0<l.getD a 0))
theorem Gz(l:PI)(B:Nat)(a:PK)(n c:Nat)(e:Int)(w:World)(j:Rd w B a n (bH l))(z:n<=1000)(p:xx e l=true):
 Calls prog 147 #[slice a n c,int i64 e] w λk b=>k=returned (bool true)/\b=w:=by
 have b:l.length=n:=by have:=j.len;simpa[bH] using this
 have d:∀i,i<n->((l.getD i 0:Nat):Int)<=e/\(i=0\/l.getD (i-1) 0<l.getD i 0):=λi f=>by
  have h:=all_eq_true.1 p i (by rw[bA,b];exact f);rw[Bool.and_eq_true,Bool.or_eq_true,decide_eq_true_eq,decide_eq_true_eq,beq_iff_eq] at h;exact h
 have t:=ae d;have u:=ae j;have q:=ae b;clear p d j b;go_enter func147,ntmps147;go_wp2_with fail;go_loopw [9] (λi wr=>∃b:Nat,b<=n/\i=int i64 b/\wr=w) (λi _=>n-(intOf i).toNat)
 case atStart=>exact⟨0,by omega,rfl,rfl⟩
 case round=>
  obtain⟨b,A,rfl,rfl⟩:=hrel;by_cases r:b<n
  ·have C:(b:Int)<(n:Int):=by omega
   obtain⟨D,E,rfl,F,f⟩:=u.o.2 (by omega);obtain⟨s,m⟩:=t.o b r;have G:=f b _ (bT (l:=l) (i:=b) (by rw[q.o];exact r));have o:=ae (fR ((l.getD b 0:Nat):Int) 0 e wr);rw[bf (show(0:Int)<=((l.getD b 0:Nat):Int)/\((l.getD b 0:Nat):Int)<=e by omega)] at o;rcases Nat.eq_zero_or_pos b with g | g
   ·have d:¬(0:Int)<(b:Int):=by omega
    have y:decide ((0:Int)<(b:Int))=false:=decide_eq_false d;clear f s m g;generalize l.getD b 0=v at*;go_wp2_with fail;refine o.o.mono ?_;rintro k x ⟨rfl,rfl⟩;go_wp2_with fail;go_roundw
    case rel=>(try((repeat apply Exists.intro);refine⟨?_,rfl⟩));exact⟨b+1,by omega,by go_num,trivial⟩
    case measure=>simp[intOf];omega
   ·obtain⟨d,rfl⟩:∃d,b=d+1:=⟨b-1,by omega⟩
    have H:=f d _ (bT (l:=l) (i:=d) (by rw[q.o];omega));have y:l.getD d 0<l.getD (d+1) 0:=(by have:=m.resolve_left (by omega);simpa using this);have I:¬((l.getD (d+1) 0:Nat):Int)<=((l.getD d 0:Nat):Int):=(by omega);have J:=ae g;clear f s m y g;generalize l.getD (d+1) 0=v at*;generalize l.getD d 0=y at*;go_wp2_with fail;refine o.o.mono ?_;rintro k x ⟨rfl,rfl⟩;go_wp2_with fail;go_roundw
    case rel=>(try((repeat apply Exists.intro);refine⟨?_,rfl⟩));exact⟨d+2,by omega,by go_num,trivial⟩
    case measure=>simp[intOf];omega
  ·obtain rfl:b=n:=by omega
   go_wp2_with fail;go_ret;exact⟨rfl,rfl⟩
def okC(c:Nat):Prop:=(97<=c/\c<=122)\/(48<=c/\c<=57)\/c=45
instance(c:Nat):Decidable (okC c):=by unfold okC;infer_instance
def jG(s:ByteArray):Prop:=1<=s.size/\s.size<=12/\∀a,a<s.size->okC (s.data.toList.getD a 0).toNat
theorem zQ(w:World)(e:TypeId)(s:ByteArray):Below w.heap.size w (Lib.bytesWorld w e s):=⟨rfl,rfl,rfl,by rw[Lib.bytesWorld_size];omega,λa b=>Lib.bytesWorld_at_old w e s a b⟩
theorem Cb(w:World)(s:ByteArray):(convert 9 30 (.string s)).run prog w=.ok (slice (some ⟨w.heap.size,0,none⟩) s.size (grownCap w s.size 0 5)) (Lib.bytesWorld w 5 s):=
 Lib.run_convert_string_bytes w _ _ _ s underlying9 underlying30 underlying5
theorem wU(s:ByteArray)(w:World)(h:jG s):Calls prog 154 #[.string s] w λa b=>a=returned (bool true)/\Below w.heap.size w b:=by
 obtain⟨t,u,a⟩:=h;have l:=ae a;have c:=Cb w s;have m:=ae (zQ w 5 s);have n:=ae λb d=>Lib.bytesWorld_cell w 5 s b d;have g:(1:Int)<=(s.size:Int):=by omega
 have i:(s.size:Int)<=12:=by omega
 clear a;generalize grownCap w s.size 0 5=v at*;generalize Lib.bytesWorld w 5 s=o at*;generalize a:w.heap.size=x at*;have y:=ae a;clear a;go_enter func154,ntmps154
 go_wp2_with (simp only[c])
 generalize a:s.size=b at*;have j:=ae a;clear a c;go_loopw [8] (λc wr=>∃a:Nat,a<=b/\c=int i64 a/\PH (wr=o)) (λc _=>b-(intOf c).toNat)
 case atStart=>exact⟨0,by omega,rfl,ae rfl⟩
 case round=>
  obtain⟨a,z,rfl,e⟩:=hrel;obtain rfl:=e.o;by_cases k:a<b
  ·have A:(a:Int)<(b:Int):=by omega
   have C:=n.o a k;have p:=l.o a k;generalize (s.data.toList.getD a 0).toNat=c at*;rcases p with⟨d,f⟩ | ⟨d,f⟩ | d
   ·have q:¬(c:Int)<97:=by omega
    have r:¬(122:Int)<(c:Int):=(by omega);clear d f;go_wp2_with fail;go_roundw
    case rel=>exact⟨a+1,by omega,by go_num,(by first | exact e | exact trivial | exact ae trivial)⟩
    case measure=>simp[intOf];omega
   ·have q:(c:Int)<97:=by omega
    have r:¬(c:Int)<48:=(by omega);have D:¬(57:Int)<(c:Int):=(by omega);clear d f;go_wp2_with fail;go_roundw
    case rel=>exact⟨a+1,by omega,by go_num,(by first | exact e | exact trivial | exact ae trivial)⟩
    case measure=>simp[intOf];omega
   ·subst d
    go_wp2_with fail;go_roundw
    case rel=>exact⟨a+1,by omega,by go_num,(by first | exact e | exact trivial | exact ae trivial)⟩
    case measure=>simp[intOf];omega
  ·obtain rfl:a=b:=by omega
   have c:(1:Int)<=(s.size:Int):=(by rw[j.o];exact g);have d:(s.size:Int)<=12:=(by rw[j.o];exact i);clear g i;go_wp2_with fail;go_ret;exact⟨by simp,m.o⟩
def mE{α:Type}(p:α->Bool)(l:List α):Int:=if l.any p then (l.findIdx p:Nat) else-1
theorem qB{α:Type}{p:α->Bool}{l:List α}(b:∀x∈l,p x=false):mE p l= -1:=by
 unfold mE;rw[bh];intro c;obtain⟨x,d,a⟩:=any_eq_true.1 c;rw[b x d] at a;cases a
theorem tz{α:Type}{p:α->Bool}{l:List α}{k:Nat}(a:k<l.length)(b:p l[k]=true)(c:∀i (d:i<k),p (l[i]'(by omega))=false):mE p l=(k:Int):=by
 unfold mE;rw[bg (any_eq_true.2 ⟨_,aQ a,b⟩)];congr 1;exact(findIdx_eq a).2 ⟨b,λd e=>c d e⟩
theorem uX{α:Type}(p:α->Bool)(l:List α):decide (0<=mE p l)=l.any p:=by
 unfold mE;cases h:l.any p with
 | true=>rw[bg rfl];simp
 | false=>simp
theorem MI(p:Nat->Bool)(g:FuncId)(s:Array Value)(l:PI)(B:Nat)(a:PK)(n c:Nat)(w:World)(f:Rd w B a n (bH l))(y:B<=w.heap.size)(F:n<=1000000)
 (G:∀b w,(callFunc g b).run prog w=.ok (.enter g b) w)(t:∀x∈l,∀W,Below w.heap.size w W->Calls prog g (#[int i64 (x:Nat)]++s) W λb d=>b=returned (bool (p x))/\Below W.heap.size W d):
 Calls prog 123 #[slice a n c,.func (.func g) #[] s] w λb d=>b=returned (int i64 (mE p l))/\Below w.heap.size w d:=by
 have e:l.length=n:=by have:=f.len;simpa[bH] using this
 have z:=ae f;have d:=ae e;have A:=ae t;have u:=ae (az w.heap.size w);clear f e t;go_enter func123,ntmps123;go_wp2_with fail;go_loopw [8] (λi wr=>∃k:Nat,k<=n/\i=int i64 k/\PH (Below w.heap.size w wr)/\PH (∀i,i<k->p (l.getD i 0)=false)) (λi _=>n-(intOf i).toNat)
 case atStart=>exact⟨0,by omega,rfl,u,ae λi h=>absurd h (Nat.not_lt_zero i)⟩
 case round=>
  clear u;obtain⟨k,H,rfl,e,r⟩:=hrel;by_cases j:k<n
  ·have I:(k:Int)<(n:Int):=by omega
   obtain⟨J,K,rfl,L,m⟩:=(z.o.below e.o y).2 (by omega);have M:=m k _ (bT (l:=l) (i:=k) (by rw[d.o];exact j));have o:=ae (A.o (l.getD k 0) (by rw[af,ah (by rw[d.o];exact j)];exact aQ _) wr e.o);have v:PH (l.getD k 0=l[k]'(by rw[d.o];exact j)):=ae (by rw[af,ah (by rw[d.o];exact j)];rfl);clear m;cases hq:p (l.getD k 0) with
   | true=>
     rw[hq] at o;have C:=ae hq;clear hq;generalize l.getD k 0=x at*
     go_wp2_with (go_at_fn g;refine o.o.mono ?_;rintro b D ⟨rfl,q⟩)
     go_ret
     have b:=tz (p:=p) (l:=l) (k:=k) (by rw[d.o];exact j) (by rw[<-v.o];exact C.o) λi m=>by
      have:=r.o i m
      rwa [af,ah (by rw[d.o];omega)] at this
     rw[b];exact⟨rfl,e.o.trans (q.mono e.o.size)⟩
   | false=>
     rw[hq] at o
     have C:PH (∀i,i<k+1->p (l.getD i 0)=false):=ae λi m=>by
      rcases bq i k with h | h
      ·exact r.o i h
      ·obtain rfl:i=k:=by omega
       exact hq
     clear hq v;generalize l.getD k 0=x at*
     go_wp2_with (go_at_fn g;refine o.o.mono ?_;rintro b D ⟨rfl,q⟩)
     have E:=ae (e.o.trans (q.mono e.o.size));clear q;go_roundw
     case rel=>exact⟨k+1,by omega,by go_num,E,C⟩
     case measure=>simp[intOf];omega
  ·obtain rfl:k=n:=by omega
   go_wp2_with fail;go_ret;refine⟨?_,e.o⟩
   have b:=qB (p:=p) (l:=l) λx f=>by
    obtain⟨i,m,rfl⟩:=bC f;have:=r.o i (by rw[<-d.o];exact m)
    rwa [af,ah m] at this
   rw[b];rfl
theorem yN(p:Nat->Bool)(g:FuncId)(d:Array Value)(l:PI)(B:Nat)(a:PK)(n c:Nat)(w:World)(f:Rd w B a n (bH l))(k:B<=w.heap.size)(m:n<=1000000)
 (o:∀b w,(callFunc g b).run prog w=.ok (.enter g b) w)(i:∀x∈l,∀W,Below w.heap.size w W->Calls prog g (#[int i64 (x:Nat)]++d) W λb e=>b=returned (bool (p x))/\Below W.heap.size W e):
 Calls prog 126 #[slice a n c,.func (.func g) #[] d] w λb e=>b=returned (bool (l.any p))/\Below w.heap.size w e:=by
 have e:=ae (MI p g d l B a n c w f k m o i);rw[<-uX];clear f i;generalize mE p l=r at*;go_enter func126,ntmps126;go_wp2_with fail;refine e.o.mono ?_;rintro b s ⟨rfl,j⟩;have q:=ae j;clear j e;go_wp2_with fail;go_ret;exact⟨rfl,q.o⟩
structure cN where
 name:ByteArray
 obj:Nat
 len:Nat
 tries:PI
structure cQ where
 seq:Nat
 next:Nat
 K:Nat
 H:Nat
 Z:Nat
 extra:Nat
 drives:PI
 objs:List cN
def bQ(e:cN):Rp:=rP (rVs [.string e.name,int i64 e.obj,int i64 e.len]) (rI e.tries)
def d9(e:cN)(v:Value):Array Value:=#[.string e.name,int i64 e.obj,int i64 e.len,v]
def bV(m:cQ)(a b:Value):Array Value:=#[int i64 m.seq,int i64 m.next,int i64 m.K,int i64 m.H,int i64 m.Z,int i64 m.extra,a,b]
def Jo(m:cQ)(e:cN):Prop:=jG e.name/\e.obj<m.next/\e.len<=m.K*m.Z*8/\(∀a∈e.tries,a<=15)/\e.tries.length=ja (m.K*m.Z) e.len
theorem eB{w:World}{g:Nat}{t:TypeId}{a b c d:Value}(e:Blk w g t #[a,b,c,d]):w.cell? ⟨g,0,none⟩=some a/\w.cell? ⟨g,1,none⟩=some b/\w.cell? ⟨g,2,none⟩=some c/\w.cell? ⟨g,3,none⟩=some d:=⟨e.cell 0,e.cell 1,e.cell 2,e.cell 3⟩
theorem bY{w:World}{g:Nat}{t:TypeId}{a b c d e f i j:Value}(h:Blk w g t #[a,b,c,d,e,f,i,j]):w.cell? ⟨g,0,none⟩=some a/\w.cell? ⟨g,1,none⟩=some b/\w.cell? ⟨g,2,none⟩=some c/\w.cell? ⟨g,3,none⟩=some d/\
 w.cell? ⟨g,4,none⟩=some e/\w.cell? ⟨g,5,none⟩=some f/\w.cell? ⟨g,6,none⟩=some i/\w.cell? ⟨g,7,none⟩=some j:=⟨h.cell 0,h.cell 1,h.cell 2,h.cell 3,h.cell 4,h.cell 5,h.cell 6,h.cell 7⟩
theorem zR(x:Nat)(w:World)(c:x<=15):Calls prog 209 (#[int i64 (x:Nat)]++#[]) w λa b=>a=returned (bool false)/\Below w.heap.size w b:=by
 have b:=ae (fR (x:Nat) 0 15 w);rw[bf (show(0:Int)<=(x:Nat)/\((x:Nat):Int)<=15 by omega)] at b;show Calls prog 209 #[int i64 (x:Nat)] w _;go_enter func209,ntmps209;go_wp2_with fail;refine b.o.mono ?_;rintro a d ⟨rfl,rfl⟩;go_wp2_with fail;go_ret;exact⟨rfl,az _ _⟩
theorem Cc(m:cQ)(e:cN)(d f:Value)(a:PK)(n c:Nat)(F:Nat->Prop)(w:World)(g:(rI e.tries).ok w F [slice a n c])(t:e.tries.length=n)(X:n<=1000)(h:Jo m e)(u:fB m.K m.H m.Z=true)(Y:m.next<=16777216)(M:d.oneCell'=true)(v:f.oneCell'=true):
 Calls prog 148 #[.agg (bV m d f),.agg (d9 e (slice a n c))] w λe b=>e=returned (bool true)/\Below w.heap.size w b:=by
 obtain⟨E,Z,R,G,x⟩:=h;have L:=ba u;obtain⟨j,b⟩:∃j,j=(w.alloc (cells (bV m d f) 68)).alloc (cells (d9 e (slice a n c)) 65):=⟨_,rfl⟩
 have H:PH (Sx w j [bS (w.heap.size+1) 65 (d9 e (slice a n c)),bS w.heap.size 68 (bV m d f),eR F (slice a n c) (rI e.tries)]):=by
  rw[b];have M:=((((Sx.nil w).add (eR F (slice a n c) (rI e.tries)) g).alloc (cells (bV m d f) 68)).add (bS w.heap.size _ _) (Blk.new w _ _)).alloc (cells (d9 e (slice a n c)) 65);have v:=M.add (bS _ _ _) (Blk.new (w.alloc (cells (bV m d f) 68)) 65 (d9 e (slice a n c)));have e:(w.alloc (cells (bV m d f) 68)).heap.size=w.heap.size+1:=(by simp);rw[e] at v;exact ae v
 unfold bV d9 at*;obtain⟨S,y,o,p⟩:=e;obtain⟨sq,N,q,T,r,ex,dr,os⟩:=m;simp only at*;have I:=ae E;have U:=ae G;obtain⟨i,l⟩:∃i,i=q*r:=⟨_,rfl⟩;have aa:(q:Int)*(r:Int)=((i:Nat):Int):=by rw[<-Int.natCast_mul,l]
 have z:q*r<=16*24:=bn (by omega) (by omega);rw[<-l] at R x z;have ab:i<=384:=z;have A:=ae λw=>kr q T r o w u (by omega);rw[<-l,<-x,t] at A;have C:=ae λw (g:(rI p).ok w F [slice a n c])=>yN (λ_=>false) 209 #[] p w.heap.size a n c w (by obtain⟨a',c',e,O,-⟩:=Ae g;injection e with k D s;subst k s;rw[show(bH p).length=n by simpa[bH] using t] at O;exact O) (aj _) (by omega) (enters_of func209 (by kernel_rfl) rfl) (λJ g K _=>zR J K (U.o J g));have J:p.any (λ_=>false)=false:=by simp
 rw[J] at C;have K:=ae b;have ac:w.heap.size+1<j.heap.size:=by rw[b];simp
 unfold dD at A;clear g t E G x u L l z J b;go_enter func148,ntmps148;go_wp2_with fail;rw[<-K.o];generalize w.heap.size+1=V at*;generalize b:w.heap.size=ad at*;have ag:=ae b;clear b K;refine(wU S j I.o).mono ?_;rintro e x ⟨rfl,b⟩;have l:=ae (H.o.step b);clear b H I;obtain⟨z,k,D,s⟩:=eB (l.o.blk 0 rfl);obtain⟨E,G,P,m3,Q,H,I,J⟩:=bY (l.o.blk 1 rfl);have K:=ae (fR (y:Nat) 0 ((N:Int)-1) x);rw[bf (show(0:Int)<=(y:Nat)/\((y:Nat):Int)<=(N:Int)-1 by omega)] at K;have L:=ae (fR (o:Nat) 0 ((i:Int)*8) x);rw[bf (show(0:Int)<=(o:Nat)/\((o:Nat):Int)<=(i:Int)*8 by omega)] at L;go_wp2_with fail;refine K.o.mono ?_;rintro e w2 ⟨rfl,rfl⟩;clear K;go_wp2_with fail;refine L.o.mono ?_;rintro e x ⟨rfl,rfl⟩;clear L;go_wp2_with fail;refine(C.o _ (l.o.rep 2 rfl)).mono ?_;rintro e L ⟨rfl,b⟩;have K:=ae (l.o.step b);clear b l C z k D s E G P m3 Q H I J;obtain⟨z,k,D,s⟩:=eB (K.o.blk 0 rfl);obtain⟨E,G,P,m3,Q,H,I,J⟩:=bY (K.o.blk 1 rfl);have C:=ae (A.o L.drew);clear z k E G H I J;go_wp2_with fail
 go_region_law (go_simp
                go_at_call 103;refine C.o.mono ?_;rintro e W ⟨rfl,b⟩;have l:=ae (K.o.step (bP b));have ai:W.cell? ⟨V,3,none⟩=some (slice a n c):=(l.o.blk 0 rfl).cell 3;clear b)
 all_goals(
  go_simp;go_wp2_with fail;go_ret;exact⟨rfl,l.o.1⟩)
section
variable {B:Nat}
def Mt(w:World)(b:Nat):Prop:=Ty 88 w b\/Ty 30 w b\/Ty 96 w b
theorem Mt.keep{w w':World}{b:Nat}(a:Mt w b)(c:w'.heap[b]? =w.heap[b]?):Mt w' b:=a.elim (λa=>.inl (a.keep c)) λa=>a.elim (λa=>.inr (.inl (a.keep c))) λa=>.inr (.inr (a.keep c))
theorem Mt.not{w:World}{b:Nat}{t:TypeId}(c:Ty t w b)(d:t≠88)(e:t≠30)(f:t≠96):¬Mt w b:=λa=>by
 rcases a with a | a | a
 ·exact c.ne a d
 ·exact c.ne a e
 ·exact c.ne a f
abbrev ChgT(w w':World):Prop:=Chg (Mt w) w w'
theorem ChgT.trans{a b c:World}(d:ChgT a b)(k:ChgT b c):ChgT a c:=
 ⟨k.os.trans d.os,k.tape.trans d.tape,k.output.trans d.output,aP d.size k.size,λe f g=>by
   have h:=d.block e f g;exact(k.block e (aW f d.size) λe=>g (e.keep h.symm)).trans h⟩
theorem ChgT.below{a b:World}(c:Below a.heap.size a b):ChgT a b:=Chg.of c
def Fu(w:World)(b:Nat):Prop:=¬Mt w b
theorem Fu.keep{w w':World}{b:Nat}(a:Fu w b)(c:w'.heap[b]? =w.heap[b]?):Fu w' b:=λd=>a (d.keep c.symm)
theorem Rp.chgT(R:Rp){w w':World}{b:List Value}(f:R.ok w (Fu w) b)(c:ChgT w w'):R.ok w' (Fu w') b:=
 R.keep f λd a e=>⟨c.block d e a,a.keep (c.block d e a)⟩
theorem Rp.fu(R:Rp){w w':World}{a:List Value}(b:R.ok w (Fu w) a)(c:Below w.heap.size w w'):R.ok w' (Fu w') a:=R.chgT b (ChgT.below c)
theorem Blk.chgT{w w':World}{g:Nat}{t:TypeId}{a:Array Value}(b:Blk w g t a)(c:ChgT w w')(d:Fu w g):Blk w' g t a:=b.chg c d
theorem OwnS.repU{w:World}{C:Nat}{e:TypeId}{k:Nat}{v:Value}{L:List Rp}(c:OwnS w C e k (Fu w) v L)(a:e≠88/\e≠30/\e≠96):(rS k L).ok w (Fu w) [v]:=by
 have f:=c.ownTy;obtain⟨g,h,i⟩:=c;obtain⟨j,l,rfl,m,n,o,p,q⟩:=dB h;refine⟨j,L.length,l,rfl,n,o,m,rfl,g,p,λr=> ?_,λd b s=>b.more (i d b s) λb d _=>d.1⟩;obtain⟨b,s,t,⟨d,_⟩,u,x⟩:=q r;exact⟨b,s,t,Mt.not (f b u) a.1 a.2.1 a.2.2,x⟩
theorem qg{w:World}{C:Nat}{v:Value}{l:PI}(c:OwnI w C v l):(rI l).ok w (Fu w) [v]:=by
 obtain⟨f,g,rfl,h,i,j,d,e⟩:=dB (k:=1) c;rw[Nat.mul_one] at d e;refine⟨f,l.length,g,rfl,i,j,h,d,λm=> ?_⟩;obtain⟨n,o,p,⟨s,_⟩,a,q⟩:=e m;refine⟨n,o,p,?_,q⟩;rcases c.2 with⟨b,_⟩ | ⟨u,x,y,b,_,r,_⟩
 ·rw[b] at a;simp[Value.ownBlock] at a
 ·rw[b] at a;simp[Value.ownBlock] at a
  subst a;exact Mt.not (t:=3) ⟨_,_,r⟩ (by decide) (by decide) (by decide)
def DrR(w:World)(g p c:Nat)(R:List PI)(o:Option Nat):Prop:=∃a b,DrB w g p c a b/\OwnS w 0 30 1 (Ty 5 w) a (R.map rB)/\b<=R.length/\a.ownBlock=o/\∀a∈R,a.length=64
theorem DrR.below{w w':World}{g p b:Nat}{R:List PI}{o:Option Nat}(a:DrR w g p b R o)(c:Below w.heap.size w w'):DrR w' g p b R o:=by
 obtain⟨e,f,d,h,i⟩:=a;exact⟨e,f,Blk.below d c (Blk.lt d),h.chg (M:=λ_=>False) (Chg.of c) (λ_ _ a=>a) (λ_ a=>a.elim),i⟩
theorem OwnS.repAny{w:World}{C:Nat}{e:TypeId}{k:Nat}{F:Nat->Prop}{v:Value}{L:List Rp}(a:OwnS w C e k F v L):(rS k L).ok w Any [v]:=(rS k L).more a.rep λ_ _ _=>trivial
theorem DrR.ty{w:World}{g p a:Nat}{R:List PI}{o:Option Nat}(b:DrR w g p a R o):Ty 88 w g:=by obtain⟨d,e,c,_⟩:=b;exact Blk.ty c
theorem DrR.oty{w:World}{g p a:Nat}{R:List PI}{o:Option Nat}(c:DrR w g p a R o):∀b,o=some b->Ty 30 w b:=by
 obtain⟨h,i,j,d,k,e,_⟩:=c;intro b f;exact d.ownTy b (e.trans f)
end
def bO:cN:=⟨.empty,0,0,[]⟩
theorem qQ{L:List cN}{w:World}{F:Nat->Prop}{a:PK}{n c i:Nat}(j:(rS 4 (L.map bQ)).ok w F [slice a n c])(x:L.length=n)(k:i<n):
 ∃b o d e,a=some ⟨b,o,none⟩/\F b/\b<w.heap.size/\w.cell? ⟨b,o+i*4,none⟩=some (.string (L.getD i bO).name)/\w.cell? ⟨b,o+i*4+1,none⟩=some (int i64 (L.getD i bO).obj)/\w.cell? ⟨b,o+i*4+2,none⟩=some (int i64 (L.getD i bO).len)/\
  w.cell? ⟨b,o+i*4+3,none⟩=some (slice d (L.getD i bO).tries.length e)/\(rI (L.getD i bO).tries).ok w F [slice d (L.getD i bO).tries.length e]:=by
 have l:i<L.length:=by omega
 have m:(L.map bQ)[i]? =some (bQ (L.getD i bO)):=by rw[List.getElem?_map,af,ah l];rfl
 obtain⟨b,o,y,rfl,p,q,r,z,f⟩:=uQ j (by decide) k m;obtain⟨s,A,rfl,t,g⟩:=r;have u:s=[.string (L.getD i bO).name,int i64 (L.getD i bO).obj,int i64 (L.getD i bO).len]:=t.1;subst u;have v:=(rI (L.getD i bO).tries).len g;obtain⟨C,rfl⟩:=length_eq_one_iff.1 v;obtain⟨d,e,h,-⟩:=Ae g;rw[show(bH (L.getD i bO).tries).length=(L.getD i bO).tries.length by simp[bH]] at h;subst h;exact⟨b,o,d,e,rfl,p,q,f 0 _ rfl,f 1 _ rfl,f 2 _ rfl,f 3 _ rfl,g⟩
theorem Ed(p:cN->Bool)(g:FuncId)(u:Array Value)(L:List cN)(F:Nat->Prop)(a:PK)(n c:Nat)(w:World)(o:(rS 4 (L.map bQ)).ok w F [slice a n c])(v:L.length=n)(N:n<=1000000)
 (O:∀b w,(callFunc g b).run prog w=.ok (.enter g b) w)(y:∀x∈L,∀W,Below w.heap.size w W->∀q r,(rI x.tries).ok W F [slice q x.tries.length r]->Calls prog g (#[.agg (d9 x (slice q x.tries.length r))]++u) W λd b=>d=returned (bool (p x))/\Below W.heap.size W b):
 Calls prog 167 #[slice a n c,.func (.func g) #[] u] w λd b=>d=returned (int i64 (mE p L))/\Below w.heap.size w b:=by
 have C:=ae o;have e:=ae v;have D:=ae y;have z:=ae (az w.heap.size w);clear o v y;go_enter func167,ntmps167;go_wp2_with fail;go_loopw [8] (λb wr=>∃k:Nat,k<=n/\b=int i64 k/\PH (Below w.heap.size w wr)/\PH (∀b,b<k->p (L.getD b bO)=false)) (λb _=>n-(intOf b).toNat)
 case atStart=>exact⟨0,by omega,rfl,z,ae λb h=>absurd h (Nat.not_lt_zero b)⟩
 case round=>
  clear z;obtain⟨k,P,rfl,f,t⟩:=hrel;by_cases i:k<n
  ·have Q:(k:Int)<(n:Int):=by omega
   obtain⟨R,S,q,r,rfl,E,T,U,V,X,Y,m⟩:=qQ ((rS 4 _).new C.o f.o) e.o i;have s:L.getD k bO∈L:=(by rw[af,ah (by rw[e.o];exact i)];exact aQ _);have j:=ae (D.o (L.getD k bO) s wr f.o q r m);have A:PH (L.getD k bO=L[k]'(by rw[e.o];exact i)):=ae (by rw[af,ah (by rw[e.o];exact i)];rfl);unfold d9 at j;clear m s E;cases hq:p (L.getD k bO) with
   | true=>
     rw[hq] at j;have E:=ae hq;clear hq;generalize L.getD k bO=x at*;obtain⟨G,H,I,J⟩:=x;simp only at*
     go_wp2_with (go_at_fn g;refine j.o.mono ?_;rintro d K ⟨rfl,s⟩)
     go_ret
     have d:=tz (p:=p) (l:=L) (k:=k) (by rw[e.o];exact i) (by rw[<-A.o];exact E.o) λb m=>by
      have:=t.o b m
      rwa [af,ah (by rw[e.o];omega)] at this
     rw[d];exact⟨rfl,f.o.trans (s.mono f.o.size)⟩
   | false=>
     rw[hq] at j
     have E:PH (∀b,b<k+1->p (L.getD b bO)=false):=ae λb m=>by
      rcases bq b k with h | h
      ·exact t.o b h
      ·obtain rfl:b=k:=by omega
       exact hq
     clear hq A;generalize L.getD k bO=x at*;obtain⟨G,H,I,J⟩:=x;simp only at*
     go_wp2_with (go_at_fn g;refine j.o.mono ?_;rintro d K ⟨rfl,s⟩)
     have M:=ae (f.o.trans (s.mono f.o.size));clear s;go_roundw
     case rel=>exact⟨k+1,by omega,by go_num,M,E⟩
     case measure=>simp[intOf];omega
  ·obtain rfl:k=n:=by omega
   go_wp2_with fail;go_ret;refine⟨?_,f.o⟩
   have d:=qB (p:=p) (l:=L) λx o=>by
    obtain⟨b,m,rfl⟩:=bC o;have:=t.o b (by rw[<-e.o];exact m)
    rwa [af,ah m] at this
   rw[d];rfl
theorem Ee(p:cN->Bool)(g:FuncId)(d:Array Value)(L:List cN)(F:Nat->Prop)(a:PK)(n c:Nat)(w:World)(f:(rS 4 (L.map bQ)).ok w F [slice a n c])(k:L.length=n)(l:n<=1000000)
 (m:∀b w,(callFunc g b).run prog w=.ok (.enter g b) w)(i:∀x∈L,∀W,Below w.heap.size w W->∀b e,(rI x.tries).ok W F [slice b x.tries.length e]->Calls prog g (#[.agg (d9 x (slice b x.tries.length e))]++d) W λb e=>b=returned (bool (p x))/\Below W.heap.size W e):
 Calls prog 149 #[slice a n c,.func (.func g) #[] d] w λb e=>b=returned (bool (L.any p))/\Below w.heap.size w e:=by
 have e:=ae (Ed p g d L F a n c w f k l m i);rw[<-uX];clear f i;generalize mE p L=q at*;go_enter func149,ntmps149;go_wp2_with fail;refine e.o.mono ?_;rintro b r ⟨rfl,j⟩;have o:=ae j;clear j e;go_wp2_with fail;go_ret;exact⟨rfl,o.o⟩
theorem bL{P:Program}{id:Nat}{Q:Exit->Act->World->Prop}{a:Act}{w:World}{l:List Oper}(b:P.follows .mixedOrders=true)(c:Region.lexB .any l.toArray=true)
 (d:wpQuiet P l.toArray (λw'=>Below w.heap.size w w') (λe=>∀w',Below w.heap.size w w'->Q .normal e w') l a):(Code.region id l.toArray true).wp P Q a w:=
 wp_region_quiet (C:=λw'=>Below w.heap.size w w') b c ((az _ w).drew) (by simpa using d)
def Oz(m:cQ):Prop:=(∀a∈m.objs,Jo m a)/\(∀a,a+1<m.objs.length->Op.bytesLess (m.objs.getD a bO).name.toList (m.objs.getD (a+1) bO).name.toList=true)/\(∀a b,a<b->b<m.objs.length->(m.objs.getD a bO).obj≠(m.objs.getD b bO).obj)
def il(m:cQ):Prop:=(1<=m.seq/\m.seq<=2147483647)/\m.next<=16777216/\fB m.K m.H m.Z=true/\m.extra<=16/\(xx 63 m.drives=true/\m.drives.length<=64)/\m.objs.length<=12/\Oz m
theorem FG(e y:cN)(a:PK)(n c G:Nat)(v:Value)(w:World)(d:Blk w G 65 (d9 e v)):
 Calls prog 150 (#[.agg (d9 y (slice a n c))]++#[pointer (some ⟨G,0,none⟩)]) w λb f=>b=returned (bool (decide (y.obj=e.obj)))/\Below w.heap.size w f:=by
 show Calls prog 150 #[.agg (d9 y (slice a n c)),pointer (some ⟨G,0,none⟩)] w _
 have b:PH (Sx w (w.alloc (cells (d9 y (slice a n c)) 65)) [bS w.heap.size 65 (d9 y (slice a n c)),bS G 65 (d9 e v)]):=
  ae ((((Sx.nil w).add (bS G _ _) d).alloc _).add (bS _ _ _) (Blk.new w _ _))
 clear d;obtain⟨r,f,s,t⟩:=e;obtain⟨u,g,x,z⟩:=y;unfold d9 at*;simp only at*;by_cases h:g=f
 ·subst h
  rw[bf rfl];obtain⟨i,j,k,l⟩:=eB (b.o.blk 0 rfl);obtain⟨m,o,p,q⟩:=eB (b.o.blk 1 rfl);go_enter func150,ntmps150;go_wp2_with fail;go_ret;exact⟨by simp,b.o.1⟩
 ·rw[decide_eq_false h]
  have A:((g:Int) == (f:Int))=false:=(by rw[beq_eq_false_iff_ne];omega);obtain⟨i,j,k,l⟩:=eB (b.o.blk 0 rfl);obtain⟨m,o,p,q⟩:=eB (b.o.blk 1 rfl);go_enter func150,ntmps150;go_wp2_with fail;go_ret;exact⟨by simp[],b.o.1⟩
theorem I4{t:Nat}{L:List Rp}{w:World}{F:Nat->Prop}{a:PK}{n c k:Nat}(A:0<t)(h:(rS t L).ok w F [slice a n c])(i:k<=n):(rS t (L.take k)).ok w F [slice a k c]:=by
 obtain⟨C,D,E,b,G,j,l,H,g,I,m,o⟩:=h;injection b with b _;injection b with p q r;subst p q r;have J:k*t<=n*t:=Nat.mul_le_mul_right _ i;refine⟨a,k,c,rfl,by omega,j,l,by rw[aG];omega,g.take (k*t),by rw[aG];omega,λK=> ?_,λd s e=> ?_⟩
 ·obtain⟨u,v,b,x,y⟩:=m (by omega)
  refine⟨u,v,b,x,λd z f=>y d z ?_⟩;rw[List.getElem?_take] at f;split at f
  ·exact f
  ·cases f
 ·rw[List.getElem?_take] at e
  split at e
  ·rename_i u
   have f:=o d s e
   have v:d*t+t<=k*t:=by
    have:=Nat.mul_le_mul_right t (show d+1<=k by omega)
    rwa [Nat.succ_mul] at this
   have b:((g.take (k*t)).drop (d*t)).take t=(g.drop (d*t)).take t:=by
    rw[drop_take,take_take];congr 1;omega
   rw[b];exact f
  ·cases e
theorem mS{m:cQ}{e:cN}(b:Jo m e)(c:fB m.K m.H m.Z=true):e.tries.length<=8:=by
 have f:=ba c;have d:1<=m.K*m.Z:=bn (show 1<=m.K by omega) (show 1<=m.Z by omega);rw[b.2.2.2.2];rcases bq 8 (ja (m.K*m.Z) e.len) with a | a
 ·have g:=cnt_lt d a
  have h:=b.2.2.1;omega
 ·exact a
section
variable {B:Nat}
end
end Go.Proofs.YtgccllbnfngpcaaGreatDoor
namespace Go.Proofs
open Go.Shelf
def Tryz.lays215_ren:Go.Shelf.Ren:=⟨fun | 215=>253 | n=>n,fun | 3=>3 | 4=>4 | n=>n,fun | n=>n⟩
open Go.RowKit in
def Tryz.lays122_ren:Go.Shelf.Ren:=⟨fun | 122=>225 | 215=>253 | n=>n,fun | 3=>3 | 4=>4 | n=>n,fun | n=>n⟩
theorem Tryz.lays122:Go.Proofs.Lays.n122 prog Tryz.lays122_ren:= {
 mixed:=by kernel_rfl
 f122:=func225.trans (congrArg some (by kernel_rfl))
 f215:=func253.trans (congrArg some (by kernel_rfl))
 t3:=underlying3
 a3:=Tryz.isAgg3
 z3:=Tryz.sizeOf3
 v3:=Tryz.zeroValue3
 t4:=underlying4
 a4:=Tryz.isAgg4
 z4:=Tryz.sizeOf4
 v4:=Tryz.zeroValue4 }
open Go.RowKit in
theorem Tryz.cmp_Compare_int(x y:Int)(w:World):
 Calls prog 225 #[.int .i64 x,.int .i64 y] w λa b=>a=.returned (.int .i64 (Lib.compareInt x y))/\b=w:=Any.cmp_Compare_int Tryz.lays122 x y w
def Tryz.laysNm215_ren:Go.Shelf.Ren:=⟨fun | 15=>99 | n=>n,fun | 22=>22 | 3=>3 | 4=>4 | n=>n,fun | n=>n⟩
theorem Tryz.laysNm215:Go.Proofs.Lays2.n15 prog Tryz.laysNm215_ren:= {
 mixed:=by kernel_rfl
 f15:=func99.trans (congrArg some (by kernel_rfl))
 t3:=underlying3
 a3:=Tryz.isAgg3
 z3:=Tryz.sizeOf3
 v3:=Tryz.zeroValue3
 t4:=underlying4
 a4:=Tryz.isAgg4
 z4:=Tryz.sizeOf4
 v4:=Tryz.zeroValue4
 t22:=underlying22
 a22:=Tryz.isAgg22
 z22:=Tryz.sizeOf22
 v22:=Tryz.zeroValue22
 i3:=by kernel_rfl }
open Go.RowKit Go.Lib in
theorem Tryz.slices_Clone_int(b d n c:Nat)(a:List Int)(w:World)(g:n<=a.length)(h:n*8<=140737488355328)(i:∀j,j<a.length->w.cell? ⟨b,d+j,none⟩=some (.int .i64 (a.getD j 0))):
 Calls prog 99 #[.slice (some ⟨b,d,none⟩) n c] w λk f=>∃e,k=.returned e/\f.ownsRow w.heap.size 3 1 e n ((a.take n).map (Value.int .i64))/\e≠ .slice none 0 0/\Below w.heap.size w f:=Any.slices_Clone_int Tryz.laysNm215 b d n c a w g h i
open Go.RowKit Go.Lib in
theorem Tryz.slices_Clone_int_nil(n c:Nat)(w:World):
 Calls prog 99 #[.slice none n c] w λa b=>a=.returned (.slice none 0 0)/\b=w:=Any.slices_Clone_int_nil Tryz.laysNm215 n c w
open Go.RowKit Go.Lib in
theorem Tryz.slices_Clone_int_zero(a:Addr)(c:Nat)(w:World):
 Calls prog 99 #[.slice (some a) 0 c] w λe d=>∃b,e=.returned b/\d.ownsRow w.heap.size 3 1 b 0 []/\b≠ .slice none 0 0/\Below w.heap.size w d:=Any.slices_Clone_int_zero Tryz.laysNm215 a c w
def Tryz.laysNm220_ren:Go.Shelf.Ren:=⟨fun | 20=>203 | n=>n,fun | 22=>22 | 3=>3 | 4=>4 | 0=>0 | n=>n,fun | n=>n⟩
theorem Tryz.laysNm220:Go.Proofs.Lays2.n20 prog Tryz.laysNm220_ren:= {
 mixed:=by kernel_rfl
 f20:=func203.trans (congrArg some (by kernel_rfl))
 t0:=underlying0
 a0:=Tryz.isAgg0
 z0:=Tryz.sizeOf0
 v0:=Tryz.zeroValue0
 t3:=underlying3
 a3:=Tryz.isAgg3
 z3:=Tryz.sizeOf3
 v3:=Tryz.zeroValue3
 t4:=underlying4
 a4:=Tryz.isAgg4
 z4:=Tryz.sizeOf4
 v4:=Tryz.zeroValue4
 t22:=underlying22
 a22:=Tryz.isAgg22
 z22:=Tryz.sizeOf22
 v22:=Tryz.zeroValue22
 i3:=by kernel_rfl }
open Go.RowKit Go.Lib Go.Sort in
open Go.RowKit Go.Lib Go.Sort in
open Go.RowKit Go.Lib Go.Sort in
open Go.RowKit Go.Lib Go.Sort in
theorem Tryz.slices_Compact_int_cells(b d n c:Nat)(a:List Int)(w:World)(e:n<=a.length)(f:n<=9223372036854775807)(g:n<=c)(h:∀j,j<a.length->w.cell? ⟨b,d+j,none⟩=some (.int .i64 (a.getD j 0)))(i:∀j,j<n->w.frozen? ⟨b,d+j,none⟩=false):
 Calls prog 203 #[.slice (some ⟨b,d,none⟩) n c] w λk l=>k=.returned (.slice (some ⟨b,d,none⟩) (Lib.compact (a.take n)).length c)/\∃q,l=(w.drewN q).setCells b d ((Lib.compact (a.take n)++List.replicate (n-(Lib.compact (a.take n)).length) 0).map (Value.int .i64)):=Any.slices_Compact_int_cells Tryz.laysNm220 b d n c a w e f g h i
end Go.Proofs
namespace Go.Proofs.YtgccllbnfngpcaaGreatDoor
open Go.RowKit _root_.Go.Proofs.Tryz List
open Value (int slice pointer bool)
open IntKind (i64)
open Ending (returned)
open Obj (cells)
section
open Go.RowKit Go.Sort
theorem oP(L:PI):(L.map λa:Nat=>(a:Int)).map (Value.int .i64)=bH L:=by simp[bH]
theorem OwnI.ty{w:World}{C:Nat}{v:Value}{l:PI}(d:OwnI w C v l):∀b,v.ownBlock=some b->Ty 3 w b:=by
 intro b a;rcases d.2 with⟨c,_⟩ | ⟨f,g,h,c,_,e,_⟩
 ·rw[c] at a;simp[Value.ownBlock] at a
 ·rw[c] at a;simp[Value.ownBlock] at a
  subst a;exact⟨_,_,e⟩
theorem Ty.setCell{t:TypeId}{w:World}{b:Nat}(a:Ty t w b)(p:Addr)(v:Value):Ty t (w.setCell p v) b:=by
 by_cases c:b=p.block
 ·obtain⟨d,e,a⟩:=a
  subst c;unfold World.setCell;simp only[Ty,Array.getElem?_modify,if_true,a,Option.map_some];exact⟨_,_,rfl⟩
 ·exact a.keep (bE w p v b c)
theorem Ty.setCells{t:TypeId}{b g:Nat}:∀(vs:List Value) (o:Nat) {w:World},Ty t w b->Ty t (w.setCells g o vs) b
 | [],_,_,h=>h
 | v :: r,o,_,h=>Ty.setCells r (o+1) (h.setCell _ v)
theorem lI{B g:Nat}{a:World}(b:B<=g):∀(vs:List Value) (o:Nat) {w:World},Below B a w->Below B a (w.setCells g o vs)
 | [],_,_,h=>h
 | v :: r,o,_,h=>lI b r (o+1) (h.setCell (p:=⟨g,o,none⟩) b v)
theorem ll(L:PI)(F:Nat->Prop)(a:PK)(n c:Nat)(w:World)(j:(rI L).ok w F [slice a n c])(e:L.length=n)(u:n<=100000):
 Calls prog 99 #[slice a n c] w λb d=>∃v,b=returned v/\OwnI d w.heap.size v L/\Below w.heap.size w d:=by
 obtain⟨x,y,b,k,l,z,A⟩:=dI j e;injection b with m C o;subst m o;cases a with
 | none=>
   obtain rfl:=l rfl;obtain rfl:n=0:=(by omega);obtain rfl:L=[]:=eq_nil_of_length_eq_zero e;refine(Tryz.slices_Clone_int_nil 0 0 w).mono ?_;rintro b d ⟨rfl,rfl⟩;exact⟨_,rfl,OwnI.nil _ _,az _ _⟩
 | some p=>
   rcases Nat.eq_zero_or_pos n with h | h
   ·subst h
    obtain rfl:L=[]:=eq_nil_of_length_eq_zero e;refine(Tryz.slices_Clone_int_zero p c w).mono ?_;rintro b d ⟨v,rfl,f,-,g⟩;exact⟨_,rfl,f,g⟩
   ·obtain⟨q,r,b,g,s⟩:=k.2 h
    injection b with b;subst b;refine(Tryz.slices_Clone_int q r n c (L.map λi:Nat=>(i:Int)) w (by rw[aC];omega) (by omega) λt i=> ?_).mono ?_
    ·rw[aC] at i
     rw[s t _ (bT i)];congr 2;simp[ah i]
    ·rintro b d ⟨v,rfl,f,-,g⟩
     refine⟨_,rfl,?_,g⟩;rw[aJ (by rw[aC];omega),oP] at f;unfold OwnI;rw[e];exact f
theorem Ga(L:PI)(C n c:Nat)(a:PK)(w:World)(p:OwnI w C (slice a n c) L)(v:C<=w.heap.size)(F:0<n)(G:n<=100000):
 Calls prog 63 #[slice a n c] w λh b=>h=returned (.tuple #[])/\OwnI b C (slice a n c) (L.mergeSort leB)/\Below C w b:=by
 have k:L.length=n:=by obtain⟨H,I,h⟩:=p.lenA;injection h with i q r;exact q.symm
 obtain⟨g,e,j,i,s,l,x,y,z,A⟩:∃g e j,Value.slice a n c=slice (some ⟨g,0,none⟩) n e/\C<=g/\w.heap[g]? =some (.cells j 3 (0,0))/\n<=e/\e<=maxLen/\j.size=e*1/\j.toList.take (n*1)=bH L:=by
  have m:=p;unfold OwnI at m;rw[k] at m;rcases m.2 with⟨d,_⟩ | d
  ·injection d with _ b _;omega
  ·exact d
 injection i with i q r;subst i r;have f:(L.map λb:Nat=>(b:Int)).length=n:=by rw[aC];exact k
 have D:=holds_of_blockI (ss:=L.map λb:Nat=>(b:Int)) l (by rw[f,oP,<-Nat.mul_one n];exact A);have o:=Tryz.slices_Sort_int g 0 c (L.map λb:Nat=>(b:Int)) w D (Array.getElem?_eq_some_iff.1 l).1 (by rw[f];omega);rw[f] at o
 have E:(L.map λb:Nat=>(b:Int)).mergeSort (λb t=>decide (b<=t))=(L.mergeSort leB).map λb:Nat=>(b:Int):=by
  refine(map_mergeSort ?_).symm;intro a _ J _;simp[leB]
 rw[E] at o;have t:=λn os=>ownsRow_sortedI (n:=n) (os:=os) (ts:=(L.mergeSort leB).map λb:Nat=>(b:Int)) (ss:=L.map λb:Nat=>(b:Int)) (by rw[aC,(fG L).length_eq,aC]) s l (by rw[f];exact x) y z;rw[f] at t;refine o.mono ?_;rintro h K ⟨rfl,u,os,rfl⟩;refine⟨rfl,?_,(az C w).grown (grownBy_sortedI (w:=w) (g:=g) (n:=u) (os:=os) ((L.mergeSort leB).map λb:Nat=>(b:Int)).toArray) v (λM b=>by cases b;exact s)⟩;have d:=t u os;rw[oP] at d;unfold OwnI;rw[(fG L).length_eq,k];exact d
theorem rX{α:Type}[Inhabited α][DecidableEq α](a:List α):∀x∈Lib.compact a,x∈a:=by
 have b:∀c,c<=a.length->∀x∈Lib.compactUpTo a.toArray c,x∈a:=by
  intro c
  induction c with
  | zero=>intro _ x d;simp[Lib.compactUpTo] at d
  | succ c e=>
    intro f x d;rw[Lib.compactUpTo_succ] at d;rcases bz.1 d with b | b
    ·exact e (by omega) x b
    ·split at b
     ·rw[mem_singleton] at b
      rw[b];have:c<a.toArray.size:=(by simp;omega);rw[getElem!_pos a.toArray c this];simp
     ·simp at b
 exact b a.length (aj _)
theorem yp{α:Type}[Inhabited α][DecidableEq α](b:List α):∀x∈b,x∈Lib.compact b:=by
 have g:∀c,c<=b.length->∀a,a<c->b.toArray[a]! ∈Lib.compactUpTo b.toArray c:=by
  intro c
  induction c with
  | zero=>intro _ a d;omega
  | succ c f=>
    intro j a d;rw[Lib.compactUpTo_succ];by_cases h:a=c
    ·subst h
     by_cases e:Lib.keeps b.toArray a=true
     ·rw[bg e];simp
     ·rw[bh e,append_nil]
      have i:a≠0/\b.toArray[a]! =b.toArray[a-1]! :=by
       unfold Lib.keeps at e;simpa using e
      rw[i.2];exact f (by omega) (a-1) (by omega)
    ·exact mem_append_left _ (f (by omega) a (by omega))
 intro x f;obtain⟨a,d,rfl⟩:=bC f;have e:=g b.length (aj _) a d;rw[getElem!_pos b.toArray a (by simpa using d),getElem_toArray] at e;exact e
theorem yu(L:PI)(C n c:Nat)(a:PK)(w:World)(e:OwnI w C (slice a n c) L)(O:C<=w.heap.size)(E:0<n)(P:n<=100000):
 Calls prog 203 #[slice a n c] w λd k=>∃b m,d=returned (slice a m c)/\b.length=m/\m<=n/\(∀x∈b,x∈L)/\(∀x∈L,x∈b)/\(rI b).ok k (Ty 3 k) [slice a m c]/\Below C w k:=by
 have l:L.length=n:=by obtain⟨u,v,d⟩:=e.lenA;injection d with Q y z;exact y.symm
 obtain⟨g,rfl,F,R⟩:=e.formA l E
 have G:n<=c:=by
  have:=dB e;obtain⟨u,v,d,_,r,_⟩:=this;injection d with _ y z;omega
 refine(Tryz.slices_Compact_int_cells g 0 n c (L.map λx:Nat=>(x:Int)) w (by rw[aC];omega) (by omega) G (λo f=> ?_) (λo f=> ?_)).mono ?_
 ·rw[aC] at f
  rw[Nat.zero_add,(e.cellA l (by omega)).1];congr 2;simp[ah f]
 ·rw[Nat.zero_add];exact(e.cellA l f).2
 ·rintro d k ⟨rfl,p,rfl⟩
  rw[aJ (by rw[aC];omega)]
  obtain⟨b,h⟩:∃b:PI,Lib.compact (L.map λx:Nat=>(x:Int))=b.map λx:Nat=>(x:Int):=by
   refine⟨(Lib.compact (L.map λx:Nat=>(x:Int))).map Int.toNat,?_⟩;rw[map_map];refine(map_id _).symm.trans (map_congr_left λx i=> ?_);obtain⟨q,_,rfl⟩:=aY.1 (rX _ x i);simp
  have H:=Lib.compact_length_le (L.map λx:Nat=>(x:Int));rw[h,aC,aC] at H
  have I:∀x∈b,x∈L:=λx i=>by
   have j:((x:Nat):Int)∈Lib.compact (L.map λx:Nat=>(x:Int)):=(by rw[h];exact mem_map_of_mem i);obtain⟨q,J,d⟩:=aY.1 (rX _ _ j);have:q=x:=by omega
   rwa [<-this]
  have K:∀x∈L,x∈b:=λx i=>by
   have j:=yp (L.map λx:Nat=>(x:Int)) (x:Int) (mem_map_of_mem i);rw[h] at j;obtain⟨q,J,d⟩:=aY.1 j;have:q=x:=by omega
   rwa [<-this]
  have A:((Lib.compact (L.map λx:Nat=>(x:Int))++replicate (n-(Lib.compact (L.map λx:Nat=>(x:Int))).length) 0).map (Value.int .i64)).length=n:=by
   rw[h,aC,aH,aC,aI];omega
  have M:=Ty.setCells (g:=g) ((Lib.compact (L.map λx:Nat=>(x:Int))++replicate (n-(Lib.compact (L.map λx:Nat=>(x:Int))).length) 0).map (Value.int .i64)) 0 (w:=w.drewN p) (e.ty g rfl);have N:c<=maxLen:=(by obtain⟨u,v,d,_,_,S,_⟩:=dB e;injection d with _ _ z;omega);refine⟨b,b.length,by rw[h,aC],rfl,by omega,I,K,⟨_,b.length,c,rfl,by omega,N,λd=>(by cases d),by simp[bH],λj=>⟨g,0,rfl,M,λD T s=> ?_⟩⟩,?_⟩
  ·have t:D<b.length:=by have:=(List.getElem?_eq_some_iff.1 s).1;simpa[bH] using this
   rw[Nat.zero_add]
   have r:=World.cell?_setCells_in g ((Lib.compact (L.map λx:Nat=>(x:Int))++replicate (n-(Lib.compact (L.map λx:Nat=>(x:Int))).length) 0).map (Value.int .i64)) 0 (w.drewN p) (λo f=>by
    rw[A] at f;rw[Nat.zero_add];have:=(e.cellA l f).1;rw[show(w.drewN p).cell? ⟨g,o,none⟩=w.cell? ⟨g,o,none⟩ from rfl,this];rfl) D (by rw[A];omega)
   rw[Nat.zero_add] at r;rw[r];rw[bT t] at s;rw[<-s];congr 1;simp only[h,getElem_map];rw[getElem_append_left (by rw[aC];exact t),getElem_map,af,ah t];rfl
  ·exact(lI F _ 0 (below_drewN (az C w) p))
end
section
variable {B:Nat}
def Md(w:World)(b:Nat):Prop:=Ty 88 w b\/Ty 30 w b
theorem Md.keep{w w':World}{b:Nat}(a:Md w b)(c:w'.heap[b]? =w.heap[b]?):Md w' b:=a.elim (λa=>.inl (a.keep c)) λa=>.inr (a.keep c)
theorem Md.not{w:World}{b:Nat}{t:TypeId}(c:Ty t w b)(d:t≠88)(e:t≠30):¬Md w b:=λa=>by
 rcases a with a | a
 ·exact c.ne a d
 ·exact c.ne a e
abbrev ChgD(B:Nat)(w w':World):Prop:=Chg (λa=>B<=a/\Md w a) w w'
theorem ChgD.trans{a b c:World}(d:ChgD B a b)(k:ChgD B b c):ChgD B a c:=
 ⟨k.os.trans d.os,k.tape.trans d.tape,k.output.trans d.output,aP d.size k.size,λe f g=>by
   have h:=d.block e f g;exact(k.block e (aW f d.size) λe=>g ⟨e.1,e.2.keep h.symm⟩).trans h⟩
theorem ChgD.below{a b:World}(c:Below a.heap.size a b):ChgD B a b:=Chg.of c
theorem ChgD.toT{a b:World}(c:ChgD B a b):ChgT a b:=Chg.mono c λe _ d=>d.2.elim .inl λc=>.inr (.inl c)
theorem ChgD.lo{a b:World}(c:ChgD B a b)(d:B<=a.heap.size):Below B a b:=Chg.below c d λf e=>e.1
end
def qc(K H Z:Nat)(s:Int)(m:List PI)(k:Nat):PI:=(range k).flatMap λa=>gN K H Z s m a
theorem FS(K H Z:Nat)(s:Int)(m:List PI):qc K H Z s m 0=[]:=rfl
theorem wT(K H Z:Nat)(s:Int)(m:List PI)(k:Nat):qc K H Z s m (k+1)=qc K H Z s m k++gN K H Z s m k:=by
 unfold qc;rw[range_succ,flatMap_append];simp
theorem Jh{K H Z:Nat}{s:Int}{m:List PI}(a:fB K H Z=true)(b:MidOK K H Z s m)(k:Nat):(qc K H Z s m k).length=k*Z:=by
 induction k with
 | zero=>rw[FS];simp
 | succ k c=>rw[wT,aH,c,jJ a b,Nat.succ_mul]
theorem Mc(Z:Nat)(x:PI):∀k,k*Z<=x.length->((range k).flatMap λa=>(x.drop (a*Z)).take Z)=x.take (k*Z):=by
 intro k
 induction k with
 | zero=>intro _;simp
 | succ k a=>
   intro b;rw[Nat.succ_mul] at b;rw[range_succ,flatMap_append,a (by omega),Nat.succ_mul,take_add];simp
theorem Ji{K H Z:Nat}{s:Int}{x:PI}(c:fB K H Z=true)(d:By x)(e:x.length=K*Z)(f:dK K H Z s (range K)=true):qc K H Z s (wh K H Z s x) K=x:=by
 obtain⟨-,-,g⟩:=mL c d e f
 have h:qc K H Z s (wh K H Z s x) K=(range K).flatMap λb=>(x.drop (b*Z)).take Z:=by
  unfold qc;rw[flatMap_def,flatMap_def];congr 1;refine map_congr_left λb a=> ?_;have a:=bA.1 a;rw[g b a];unfold jk;rw[af,List.getElem?_map,List.getElem?_range a];rfl
 rw[h,Mc Z x K (by omega),aJ (by omega)]
theorem I7{w:World}{g:Nat}{t:TypeId}{i j k l m n o p a b c d b4 e f h:Value}(q:Blk w g t #[i,j,k,l,m,n,o,p]):
 Blk ((((((((w.setCell ⟨g,0,none⟩ a).setCell ⟨g,1,none⟩ b).setCell ⟨g,2,none⟩ c).setCell ⟨g,3,none⟩ d).setCell ⟨g,4,none⟩ b4).setCell ⟨g,5,none⟩ e).setCell ⟨g,6,none⟩ f).setCell ⟨g,7,none⟩ h) g t #[a,b,c,d,b4,e,f,h]:=by
 have:=(((((((q.set 0 a).set 1 b).set 2 c).set 3 d).set 4 b4).set 5 e).set 6 f).set 7 h;simpa using this
theorem oL{w a:World}{B g:Nat}{c d e f b4 h i j:Value}(k:Below B a w)(b:B<=g):
 Below B a ((((((((w.setCell ⟨g,0,none⟩ c).setCell ⟨g,1,none⟩ d).setCell ⟨g,2,none⟩ e).setCell ⟨g,3,none⟩ f).setCell ⟨g,4,none⟩ b4).setCell ⟨g,5,none⟩ h).setCell ⟨g,6,none⟩ i).setCell ⟨g,7,none⟩ j):=
 (((((((k.setCell (p:=⟨g,0,none⟩) b c).setCell (p:=⟨g,1,none⟩) b d).setCell (p:=⟨g,2,none⟩) b e).setCell (p:=⟨g,3,none⟩) b f).setCell (p:=⟨g,4,none⟩) b b4).setCell (p:=⟨g,5,none⟩) b h).setCell (p:=⟨g,6,none⟩) b i).setCell (p:=⟨g,7,none⟩) b j
theorem I8{w:World}{g:Nat}{t:TypeId}{c d e i j k f h a b4 b:Value}(l:Blk w g t #[c,d,e,i,j,k,f,h]):
 Blk (((w.setCell ⟨g,3,none⟩ a).setCell ⟨g,4,none⟩ b4).setCell ⟨g,5,none⟩ b) g t #[c,d,e,a,b4,b,f,h]:=by
 have:=((l.set 3 a).set 4 b4).set 5 b;simpa using this
theorem FK(b:PI)(g o k c n:Nat)(w:World)(e:Rd w w.heap.size (some ⟨g,0,none⟩) 55 (bF b))(f:By b)(h:0<k)(i:k<=4)(l:o+k<=55)(m:dY ((b.drop o).take k)=n):
 Calls prog 245 #[slice (some ⟨g,o,none⟩) k c] w λa d=>a=returned (int i64 n)/\∃j,d=w.drewN j:=by
 obtain⟨s,t,a,_,d⟩:=qD e h l;injection a with a;injection a with a p _;subst a p;rw[Nat.zero_add] at d;have:=Af ((b.drop o).take k) _ (some ⟨g,o,none⟩) k c w d (λq r=>f q (mem_of_mem_drop (bD r))) i;rw[m] at this;exact this
theorem zN(l m id K H Z i:Nat)(d s:PI)(a:PK)(c:Nat)(w:World)(ho:l<=16777215)(h8:m<8)(hi:id<=65535)(hk:fB K H Z=true)(hs:i<4294967296)
 (ac:d.length=Z)(ax:By d)(ad:s=cellL 1 (iR l m id K H Z i d))(T:Rd w w.heap.size a 64 (bF s))(r:By s)(hc:64<=c/\c<=maxLen):
 Calls prog 178 #[slice a 64 c] w λf b=>∃a' c',f=returned (.tuple #[uI l m id K H Z i (slice a' Z c'),bool true])/\(rB d).ok b (Fr w.heap.size) [slice a' Z c']/\Below w.heap.size w b:=by
 have a0:=ba hk;have ay:=iT l m id K H Z i d;obtain⟨u,y,t⟩:=LQ (kind:=1) (body:=iR l m id K H Z i d) (by omega) (by omega);rw[<-ad] at u y t;have v:=ae λw (h:Rd w w.heap.size a 64 (bF s))=>(xk s a c w h r hc).mono λf b (e:_/\_/\_)=>(⟨e.1 u,e.2.2⟩:(∃x,f=returned (.tuple #[int i64 (s.getD 3 0:Nat),x,bool true])/\OwnB b w.heap.size x ((s.drop 4).take 55))/\Below w.heap.size w b);rw[y,t] at v
 have S0:PH (Sx w (w.alloc (.cells ib 178)) [bS w.heap.size 178 ib,mF a 64 (bF s)]):=
  ae (((((Sx.nil w).add (mF a 64 (bF s)) T).alloc _).add (bS _ _ _) (Blk.new w 178 _)))
 have hZ:Z<=24:=by omega
 unfold ib at S0;obtain⟨g,e⟩:∃g,g=iR l m id K H Z i d++replicate (55-(iR l m id K H Z i d).length) 0:=⟨_,rfl⟩;rw[<-e] at v;have A:g.length=55:=by rw[e,aH,aI,ay,ac];omega
 have C:By g:=by
  rw[<-t] at e;rw[e];exact λj T=>r j (mem_of_mem_drop (bD T))
 have aA:=ae C;have ag:=ae A;have a1:=ae e
 have t1:dY ((g.drop 0).take 3)=l:=by
  have f:(g.drop 0).take 3=bU l 3:=(by rw[e];unfold iR;simp only[append_assoc];exact take_left' (cH _ _));rw[f];exact told3 (by omega)
 have t2:dY ((g.drop 3).take 1)=m:=by
  have f:(g.drop 3).take 1=bU m 1:=(by rw[e];rfl);rw[f];exact told1 (by omega)
 have t3:dY ((g.drop 4).take 2)=id:=by
  have f:(g.drop 4).take 2=bU id 2:=(by rw[e];rfl);rw[f];exact told2 (by omega)
 have t4:dY ((g.drop 6).take 1)=K:=by
  have f:(g.drop 6).take 1=[K]:=(by rw[e];rfl);rw[f];simp[dY]
 have t5:dY ((g.drop 7).take 1)=H:=by
  have f:(g.drop 7).take 1=[H]:=(by rw[e];rfl);rw[f];simp[dY]
 have t6:dY ((g.drop 8).take 1)=Z:=by
  have f:(g.drop 8).take 1=[Z]:=(by rw[e];rfl);rw[f];simp[dY]
 have t7:dY ((g.drop 9).take 4)=i:=by
  have f:(g.drop 9).take 4=bU i 4:=(by rw[e];rfl);rw[f];exact told4 hs
 have t8:(g.drop 13).take Z=d:=by
  have f:g.drop 13=d++replicate (55-(iR l m id K H Z i d).length) 0:=(by rw[e];rfl);rw[f];exact take_left' ac
 have z:PH (∀(q:Nat) (w:World),Rd w w.heap.size (some ⟨q,0,none⟩) 55 (bF g)->∀(o k c:Nat),0<k->k<=4->o+k<=55->Calls prog 245 #[slice (some ⟨q,o,none⟩) k c] w λf b=>f=returned (int i64 (dY ((g.drop o).take k):Nat))/\∃n,b=w.drewN n):=
  ae λq w h o k c O J b=>FK g q o k c _ w h aA.o O J b rfl
 obtain⟨tn,b⟩:∃tn:Nat->Nat->Nat,∀o k,dY ((g.drop o).take k)=tn o k:=⟨_,λ_ _=>rfl⟩;simp only[b] at z t1 t2 t3 t4 t5 t6 t7;clear b;have CM:=ae λw=>fK K H Z w;rw[hk] at CM;have CC:=ae λ(b:World) (q j:Nat) (h:Rd b b.heap.size (some ⟨q,13,none⟩) Z (bF d))=>dJ d _ (some ⟨q,13,none⟩) Z (j-13) b h (aj _) (λf=>by cases f) (by omega);have CP:=ae λ(a:PK) (c:Nat) (w:World) (O:Rd w w.heap.size a Z (bF d)) (J:a=none->c=0)=>oN l m id K H Z i d a c w ho h8 hi hk hs O ax J;have ao:=ae r;have ai:=ae ac;have ap:=ae ad;unfold dD at CM;unfold uI at CP ⊢;have a3:1<=Z:=by omega
 have a4:(i:Int)%4294967296=(i:Int):=by omega
 clear e A C r hc T ad u y t;go_enter func178,ntmps178;go_wp2_with fail;generalize w.alloc (cells #[int i64 0,int i64 0,int i64 0,int i64 0,int i64 0,int i64 0,.int .u32 0,slice none 0 0] 178)=w0 at*;refine(v.o _ (S0.o.rd 1 rfl)).mono ?_;rintro f b ⟨⟨x,rfl,C⟩,y⟩;have S1:=ae (S0.o.step y)
 obtain⟨q,j,rfl,hg⟩:∃q j,x=slice (some ⟨q,0,none⟩) 55 j/\55<=j/\j<=maxLen:=by
  have aq:OwnB b w0.heap.size x g:=C;obtain⟨q,aB,f,_⟩:=World.ownsRow.form aq (by rw[ag.o];omega);rw[ag.o] at f;subst f;have:=aq.caps;exact⟨q,aB,rfl,this.2⟩
 have u:=(jM C);rw[ag.o] at u;obtain⟨aa,cc,f,u,-⟩:=u;injection f with D P e3;subst D e3;have a5:=ae u;obtain⟨a6,a7⟩:=hg;have U:=ae (z.o q);have R1:PH (∀e,Rd (b.drewN e) (b.drewN e).heap.size (some ⟨q,0,none⟩) 55 (bF g)):=ae λe=>u;have V:PH (∀e t,Rd (((b.drewN e).alloc (.cells ib 178)).drewN t) (((b.drewN e).alloc (.cells ib 178)).drewN t).heap.size (some ⟨q,0,none⟩) 55 (bF g)):=ae λe t=>(u.below (below_drewN ((below_drewN (az b.heap.size b) e).alloc (aj _) (.cells ib 178)) t) (aj _)).more (by simp);have a8:(1:Int)<=(j:Int):=by omega
 have a9:¬j=1:=by omega
 have bb:(2:Int)<=(j:Int):=by omega
 have bc:¬j=2:=by omega
 have be:(3:Int)<=(j:Int):=by omega
 have bi:¬j=3:=by omega
 have bj:(4:Int)<=(j:Int):=by omega
 have bk:¬j=4:=by omega
 have bl:(6:Int)<=(j:Int):=by omega
 have bm:¬j=6:=by omega
 have bo:(7:Int)<=(j:Int):=by omega
 have bp:¬j=7:=by omega
 have br:(8:Int)<=(j:Int):=by omega
 have bt:¬j=8:=by omega
 have bv:(9:Int)<=(j:Int):=by omega
 have bw:¬j=9:=by omega
 have bx:(13:Int)<=(j:Int):=by omega
 have bB:¬j=13:=by omega
 clear z v y C P;have fz:∀e t n,(((b.drewN e).alloc (.cells ib 178)).drewN t).frozen? ⟨b.heap.size,n,none⟩=false:=λe t n=>(Blk.new (b.drewN e) _ _).frozen n;have cz:∀e t n,(((b.drewN e).alloc (.cells ib 178)).drewN t).cell? ⟨b.heap.size,n,none⟩=ib[n]? :=λe t n=>(Blk.new (b.drewN e) _ _).cell n;have ar:∀e n,((b.drewN e).alloc (.cells ib 178)).frozen? ⟨b.heap.size,n,none⟩=false:=λe n=>(Blk.new (b.drewN e) _ _).frozen n;have au:∀e n,((b.drewN e).alloc (.cells ib 178)).cell? ⟨b.heap.size,n,none⟩=ib[n]? :=λe n=>(Blk.new (b.drewN e) _ _).cell n;unfold ib at fz cz V ar au;go_upto_region 4 with fail;go_cut [7] (λx N=>x=pointer (some ⟨b.heap.size,0,none⟩)/\PH (Blk N b.heap.size 178 #[int i64 l,int i64 m,int i64 id,int i64 0,int i64 0,int i64 0,.int .u32 0,slice none 0 0])/\PH (Below b.heap.size b N))
 case first=>
  go_region_with (first
   | (go_at_call 245
      refine(U.o _ (by first | exact R1.o _ | exact V.o _ 0 | exact V.o _ _) _ _ _ (by decide) (by decide) (by decide)).mono ?_;rintro f R ⟨rfl,S,rfl⟩))
  all_goals(
   go_wp2_with fail;go_meet;refine⟨rfl,ae ?_,ae ?_⟩
   ·exact I7 (Blk.new (b.drewN 1) _ _)
   ·first
    | exact oL ((below_drewN (az b.heap.size b) _).alloc (aj _) _) (aj _)
    | exact oL (below_drewN ((below_drewN (az b.heap.size b) _).alloc (aj _) _) _) (aj _)
    | exact oL (below_drewN ((az b.heap.size b).alloc (aj _) _) _) (aj _))
 case rest=>
  obtain⟨rfl,t,v⟩:=hcut;have L:=v.o.size;have ak:=t.o.lt;have Q:∀e,Rd (wc.drewN e) (wc.drewN e).heap.size (some ⟨q,0,none⟩) 55 (bF g):=λe=>(u.below v.o (aj _)).more L;have M:=ae Q;have aD:∀e n,(wc.drewN e).frozen? ⟨b.heap.size,n,none⟩=false:=λe n=>t.o.frozen n;obtain⟨E,F,G,y,z,A,I,n⟩:=sJ t.o;have aE:∀e,(wc.drewN e).cell? ⟨b.heap.size,3,none⟩=some (int i64 0):=λe=>y;have aF:∀e,(wc.drewN e).cell? ⟨b.heap.size,4,none⟩=some (int i64 0):=λe=>z;have aK:∀e,(wc.drewN e).cell? ⟨b.heap.size,5,none⟩=some (int i64 0):=λe=>A;clear Q E F G y z A I n R1 V fz cz ar au;go_upto_region 5 with fail;go_cut [] (λN=>PH (Blk N b.heap.size 178 #[int i64 l,int i64 m,int i64 id,int i64 K,int i64 H,int i64 Z,.int .u32 0,slice none 0 0])/\PH (Below b.heap.size b N))
  case first=>
   go_region_with (first
    | (go_at_call 245
       refine(U.o _ (by first | exact M.o _ | exact M.o 1) _ _ _ (by decide) (by decide) (by decide)).mono ?_;rintro f R ⟨rfl,S,rfl⟩))
   all_goals(
    go_wp2_with fail;go_meet;refine⟨ae ?_,ae ?_⟩
    ·exact I8 (t.o.drewN _)
    ·exact(((below_drewN v.o _).setCell (p:=⟨b.heap.size,3,none⟩) (aj _) _).setCell (p:=⟨b.heap.size,4,none⟩) (aj _) _).setCell (p:=⟨b.heap.size,5,none⟩) (aj _) _)
  case rest=>
   clear t v M aD aE aF aK ak L;obtain⟨t,v⟩:=hcut;have L:=v.o.size;have ak:=t.o.lt;have Q:Rd wc wc.heap.size (some ⟨q,0,none⟩) 55 (bF g):=(u.below v.o (aj _)).more L;have M:=ae Q;clear Q;go_wp2_with fail;refine(U.o _ M.o _ _ _ (by decide) (by decide) (by decide)).mono ?_;rintro f w3 ⟨rfl,W,rfl⟩;have e:=ae (t.o.drewN W);have N:=ae (below_drewN v.o W);have b0:b.heap.size<=(wc.drewN W).heap.size:=L;clear t v M L ak U;generalize wc.drewN W=w4 at*;obtain⟨E,F,G,y,z,A,I,n⟩:=sJ e.o;have S:=e.o.frozen 6;have R:=e.o.set 6 (.int .u32 i);have X:PH (Blk (w4.setCell ⟨b.heap.size,6,none⟩ (.int .u32 i)) b.heap.size 178 #[int i64 l,int i64 m,int i64 id,int i64 K,int i64 H,int i64 Z,.int .u32 i,slice none 0 0]):=ae (by simpa using R);have Y:PH (Below b.heap.size b (w4.setCell ⟨b.heap.size,6,none⟩ (.int .u32 i))):=ae (N.o.setCell (p:=⟨b.heap.size,6,none⟩) (aj _) _);clear R e N;go_wp2_with fail;clear E F G y z A I n S;generalize w4.setCell ⟨b.heap.size,6,none⟩ (.int .u32 i)=w5 at*;refine(CM.o _).mono ?_;rintro f e ⟨rfl,r⟩;have N:=ae (X.o.below r X.o.lt);have S:=ae (Y.o.trans (r.mono Y.o.size));clear r X Y;obtain⟨E,F,G,y,z,A,I,n⟩:=sJ N.o
   have X:Rd e e.heap.size (some ⟨q,13,none⟩) Z (bF d):=by
    have O:Rd e e.heap.size (some ⟨q,0,none⟩) 55 (bF g):=(u.below S.o (aj _)).more S.o.size;obtain⟨b1,p,D,_,J⟩:=qD O (o:=13) (k:=Z) (by omega) (by omega);injection D with D;injection D with D P _;subst D P;rw[Nat.zero_add,t8] at J;exact J
   have ab:=ae (CC.o e q j X);have b2:(13:Int)+(Z:Int)<=(j:Int):=(by omega);have b3:(13:Int)<=13+(Z:Int):=(by omega);have b5:((13:Int)+(Z:Int)).toNat-13=Z:=(by omega);clear CC X;go_wp2_with fail;refine ab.o.mono ?_;rintro f X ⟨x,rfl,C,r⟩;obtain⟨a',c',rfl,al,aL⟩:=C.rd2 ai.o;have b6:=N.o.lt;have an:=ae (gG C);have Y:=ae (N.o.below r N.o.lt);have av:=ae (S.o.trans (r.mono S.o.size));clear E F G y z A I n al C r ab N S;have N:=Y.o.frozen 7;have n:=Y.o.cell 7;have R:=Y.o.set 7 (slice a' Z c');have ab:PH (Blk (X.setCell ⟨b.heap.size,7,none⟩ (slice a' Z c')) b.heap.size 178 #[int i64 l,int i64 m,int i64 id,int i64 K,int i64 H,int i64 Z,.int .u32 i,slice a' Z c']):=ae (by simpa using R);have al:PH (Below b.heap.size b (X.setCell ⟨b.heap.size,7,none⟩ (slice a' Z c'))):=ae (av.o.setCell (p:=⟨b.heap.size,7,none⟩) (aj _) _);have am:PH ((rB d).ok (X.setCell ⟨b.heap.size,7,none⟩ (slice a' Z c')) (Fr e.heap.size) [slice a' Z c']):=ae ((rB d).keep an.o λk S _=>⟨bE _ _ _ _ (by show k≠b.heap.size;have:e.heap.size<=k:=S;omega),S⟩);obtain⟨aw,aM,aO,aR,aS,aT,aV,aX⟩:=sJ ab.o;clear R an Y av;go_wp2_with fail;clear n N aw aM aO aR aS aT aV aX;generalize X.setCell ⟨b.heap.size,7,none⟩ (slice a' Z c')=w8 at*;obtain⟨a2,c2,P,av,-⟩:=fC am.o ai.o;injection P with e3 _ e4;subst e3 e4;refine(CP.o _ _ w8 av aL).mono ?_;rintro f N ⟨gc,rfl,aM,hK,r⟩;have aO:=ae (ab.o.below r ab.o.lt);have aR:=ae (al.o.trans (r.mono al.o.size));have aS:=ae ((rB d).new am.o r);have Y:=ae (S1.o.step aR.o);have aw:(cellL 1 (iR l m id K H Z i d)).length=64:=gA (by rw[iT];have:=ai.o;omega);have an:=qi hK;rw[aw] at an;have CE:=ae (j4 s (cellL 1 (iR l m id K H Z i d)) N.heap.size N.heap.size a (some ⟨gc,0,none⟩) 64 64 c 64 N (Y.o.rd 1 rfl) an ao.o (by rw[<-ap.o];exact ao.o));rw[bf ap.o] at CE;clear av hK r ab al am CP aw an aM;go_wp2_with fail;refine CE.o.mono ?_;rintro f av ⟨rfl,rfl⟩;have ab:=ae (Y.o.blk 0 rfl);have al:=ae Y.o.1;have h6:w.heap.size<e.heap.size:=(by have:=S1.o.1.size;omega);obtain⟨E,F,G,y,z,A,I,n⟩:=sJ aO.o;clear CE Y
   go_wp2_with (change wpList _ _ _ (Oper.mk none (Op.store 178 _ _) _ _ _ _ :: _) _ _;refine wpList_store_row rfl 178 _ _ rfl w.heap.size (qZ l m id K H Z i (slice a' Z c')) rfl rfl 178 _ ab.o (by kernel_rfl) rfl (JB _ _ _ _ _ _ _ _ _ _) ?_)
   clear E F G y z A I n;have Y:=ae (ab.o.row (qZ l m id K H Z i (slice a' Z c')));have am:=ae (bW al.o (aj _) (qZ l m id K H Z i (slice a' Z c')));have an:PH ((rB d).ok (N.setRow w.heap.size (qZ l m id K H Z i (slice a' Z c'))) (Fr w.heap.size) [slice a' Z c']):=ae ((rB d).keep aS.o λk S _=>⟨setRow_other N w.heap.size k _ (by have:e.heap.size<=k:=S;omega),by have:e.heap.size<=k:=S;show w.heap.size<=k;omega⟩);generalize N.setRow w.heap.size (qZ l m id K H Z i (slice a' Z c'))=S at*;go_wp2_with fail
   (try simp only[Exit.inBlock,Exit.then])
   refine bodyPost_ret (eD rfl _ _ w.heap.size 178 (qZ l m id K H Z i (slice a' Z c')) (0,0) _ rfl Y.o underlying178 rfl (by kernel_rfl)) rfl ?_;exact⟨_,_,rfl,an.o,am.o⟩
theorem EM{kind:Nat}{body:PI}(b:kind<256)(c:By body):By (cellL kind body):=by
 intro d a;unfold cellL fW b4 at a;simp only[bz,mem_cons,not_mem_nil,or_false] at a;rcases a with((rfl | rfl | rfl | rfl) | h | h) | (rfl | rfl | rfl | rfl) | rfl
 ·decide
 ·decide
 ·decide
 ·exact b
 ·exact c d h
 ·rw[eq_of_mem_replicate h];decide
 ·omega
 ·omega
 ·omega
 ·omega
 ·decide
theorem Nz{c e id K H Z f:Nat}{d:PI}(g:K<256)(i:H<256)(j:Z<256)(k:By d):By (iR c e id K H Z f d):=by
 intro a b;unfold iR at b;simp only[bz,mem_cons,not_mem_nil,or_false] at b;rcases b with((((h | h) | h) | (rfl | rfl | rfl)) | h) | h
 ·exact eY _ _ a h
 ·exact eY _ _ a h
 ·exact eY _ _ a h
 ·exact g
 ·exact i
 ·exact j
 ·exact eY _ _ a h
 ·exact k a h
theorem DI{q:Nat}(a:1<=q)(l:PI):∀k,k<=ja q l.length->((range k).map (fQ q l)).flatten.take l.length=l.take (k*q):=by
 intro k
 induction k with
 | zero=>intro _;simp
 | succ k b=>
   intro f;have g:=cnt_lt a (show k<ja q l.length by omega)
   have c:((range k).map (fQ q l)).flatten.length=k*q:=by
    rw[vg (q:=q) λe d=>by obtain⟨e,_,rfl⟩:=aY.1 d;exact Aq q l e];simp
   rw[range_succ,aU,map_cons,map_nil,flatten_append,flatten_cons,flatten_nil,append_nil,take_append,b (by omega),c,Nat.succ_mul,take_add];congr 1;unfold fQ;rw[take_append,aG,length_drop];rcases bq q (l.length-k*q) with d | d
   ·rw[Nat.min_eq_left (by omega),Nat.sub_self,replicate_zero,take_nil,append_nil,aJ (by rw[aG,length_drop];omega)]
   ·rw[Nat.min_eq_right (by omega),Nat.sub_self,take_zero,append_nil,aJ (by rw[aG,length_drop];omega)]
theorem Hv{q:Nat}(a:1<=q)(l:PI):(lw q l).flatten.take l.length=l:=by
 unfold lw;rw[DI a l _ (aj _),aJ (Kb a)]
