import Derived.Test.YtgccllbnfngpcaaGreatDoorW12
import Derived.Laws.FloatArith
import Derived.Laws.ComplexArith
import Derived.Shelf.SlSortCmp.WholeK
import Derived.Test.YtgccllbnfngpcaaGreatDoorChecked
set_option linter.unusedVariables false
set_option maxRecDepth 100000
set_option maxHeartbeats 400000000
namespace Go.Proofs.YtgccllbnfngpcaaGreatDoor
open Go.RowKit _root_.Go.Proofs.Tryz List
open Value (int slice pointer bool)
open IntKind (i64)
open Ending (returned)
open Obj (cells)
theorem kI{d:Array Value}{a b c g:Value}(h:d.toList.take 4=[a,b,c,g]):d[0]? =some a/\d[1]? =some b/\d[2]? =some c/\d[3]? =some g:=by
 have e:∀f,f<4->d[f]? =[a,b,c,g][f]? :=λf i=>by rw[<-h,List.getElem?_take,bu i];simp
 exact⟨e 0 (by omega),e 1 (by omega),e 2 (by omega),e 3 (by omega)⟩
theorem H5{d:Array Value}{a b c e:Value}(f:d.toList.take 4=[a,b,c,e])(v:Value):(d.setIfInBounds 3 v).toList.take 4=[a,b,c,v]:=by
 rw[Array.toList_setIfInBounds,take_set,f];rfl
structure EntB (w:World) (g cap:Nat) (cur:Array Value) (e:eB) (v:Value):Prop where
 blk:Blk w g 65 cur
 size:cur.size=cap*4
 c1:1<=cap
 c2:cap<=maxLen
 take:cur.toList.take 4=[.string e.name,int i64 e.obj,int i64 e.len,v]
theorem EntB.of{w:World}{C:Nat}{F:Nat->Prop}{v:Value}{e:eB}(d:OwnS w C 65 4 F v [df e]):∃g b f a c,v=slice (some ⟨g,0,none⟩) 1 b/\C<=g/\EntB w g b f e (slice a e.tries.length c)/\(rI e.tries).ok w F [slice a e.tries.length c]:=by
 obtain⟨k,i,l⟩:=d;have j:=l 0 _ rfl;have E:k.length=4:=by have:=i.1;simpa using this
 rw[Nat.zero_mul,drop_zero,aN (by omega)] at j;obtain⟨m,G,rfl,n,h⟩:=j;have o:m=[.string e.name,int i64 e.obj,int i64 e.len]:=n.1;subst o;have p:=(rI e.tries).len h;obtain⟨H,rfl⟩:=length_eq_one_iff.1 p;obtain⟨q,r,s,-⟩:=dY h rfl;subst s;rcases i.2 with⟨_,d⟩ | ⟨g,b,f,rfl,t,u,x,y,z,A⟩
 ·simp at d
 ·exact⟨g,b,f,q,r,rfl,t,⟨u,z,x,y,by simpa using A⟩,(rI _).more h λI D _=>D.1⟩
theorem EntB.rep{w:World}{g c:Nat}{f:Array Value}{e:eB}{v:Value}{F:Nat->Prop}(h:EntB w g c f e v)(i:(rI e.tries).ok w F [v])(j:F g):(rS 4 ([e].map df)).ok w F [slice (some ⟨g,0,none⟩) 1 c]:=by
 obtain⟨k,u,l,m,n⟩:=h;obtain⟨o,p,q,r⟩:=kI n;refine⟨_,1,c,rfl,l,m,λe=>(by cases e),rfl,[.string e.name,int i64 e.obj,int i64 e.len,v],rfl,λ_=>⟨g,0,rfl,j,λb s a=> ?_⟩,λb t d=> ?_⟩
 ·rw[Nat.zero_add,k.cell]
  rcases b with _ | _ | _ | _ | b
  ·exact o.trans a
  ·exact p.trans a
  ·exact q.trans a
  ·exact r.trans a
  ·simp at a
 ·cases b with
  | succ b=>simp at d
  | zero=>
    obtain rfl:df e=t:=(by simpa using d);exact⟨[.string e.name,int i64 e.obj,int i64 e.len],[v],rfl,uf (by intro s a;simp at a;rcases a with rfl | rfl | rfl <;> rfl),i⟩
theorem EntB.below{w w':World}{g b:Nat}{c:Array Value}{e:eB}{v:Value}(a:EntB w g b c e v)(d:Below w.heap.size w w'):EntB w' g b c e v:=⟨a.blk.below d a.blk.lt,a.size,a.c1,a.c2,a.take⟩
theorem EntB.set{w:World}{g b:Nat}{c:Array Value}{e:eB}{v:Value}(a:EntB w g b c e v)(u:Value):EntB (w.setCell ⟨g,3,none⟩ u) g b (c.setIfInBounds 3 u) e u:=⟨a.blk.set 3 u,by rw[Array.size_setIfInBounds];exact a.size,a.c1,a.c2,H5 a.take u⟩
theorem wu{w:World}{C:Nat}{v:Value}{l:SC}(b:OwnI w C v l):(rI l).ok w (λa=>Ty 3 w a/\C<=a) [v]:=by
 have e:=b.ty;obtain⟨f,g,rfl,h,i,j,c,d⟩:=dH (k:=1) b;rw[Nat.mul_one] at c d;refine⟨f,l.length,g,rfl,i,j,h,c,λm=> ?_⟩;obtain⟨a,n,o,⟨p,_⟩,q,r⟩:=d m;exact⟨a,n,o,⟨e a q,p⟩,r⟩
theorem yL(m:cZ)(e:eB)(U:m.objs=[e])(u o:SE)(r x s:Nat)(F:Nat->Prop)(w:World)(hd:(rI m.drives).ok w F [slice u r x])(am:m.drives.length=r)(hn:r<=1000)(J:(rS 4 (m.objs.map df)).ok w F [slice o 1 s])(an:e.tries.length<=1000):
 Calls prog 49 #[.agg (bV m (slice u r x) (slice o 1 s))] w λG C=>∃v a c,G=returned (.agg (bV m v (slice a 1 c)))/\OwnI C w.heap.size v m.drives/\(rS 4 (m.objs.map df)).ok C (λd=>Fu C d/\w.heap.size<=d) [slice a 1 c]/\Below w.heap.size w C:=by
 have V:=ae λw (h:(rI m.drives).ok w F [slice u r x])=>iV m.drives F u r x w h am (by omega)
 obtain⟨W,rfl⟩:∃b,o=some b:=by
  obtain⟨a',n',c',X,_,_,_,_,cs,_,h6,_⟩:=J;injection X with X _;injection X with q1 q2 q3;subst q1 q2 q3;obtain⟨d,aS,e,_⟩:=h6 (by omega);exact⟨_,e⟩
 have H:=ae λC (h:(rS 4 (m.objs.map df)).ok C (Bl w.heap.size) [slice (some W) 1 s])=>uD m.objs (Bl w.heap.size) W 1 s C h (by omega);rw[U] at J ⊢;rw[U] at H;obtain⟨o,f⟩:∃o,o=some W:=⟨_,rfl⟩;rw[<-f] at J H ⊢;obtain⟨i,b⟩:∃i,i=(w.alloc (cells #[int i64 m.seq,int i64 m.next,int i64 m.K,int i64 m.H,int i64 m.Z,int i64 m.extra,slice u r x,slice o 1 s] 68)).alloc (cells #[int i64 0,int i64 0,int i64 0,int i64 0,int i64 0,int i64 0,slice none 0 0,slice none 0 0] 68):=⟨_,rfl⟩;have g:(w.alloc (cells #[int i64 m.seq,int i64 m.next,int i64 m.K,int i64 m.H,int i64 m.Z,int i64 m.extra,slice u r x,slice o 1 s] 68)).heap.size=w.heap.size+1:=by simp
 have y:Sz (Blk i w.heap.size 68 #[int i64 m.seq,int i64 m.next,int i64 m.K,int i64 m.H,int i64 m.Z,int i64 m.extra,slice u r x,slice o 1 s]):=ae (by rw[b];exact(Blk.new w _ _).alloc _);have I:Sz (Blk i (w.heap.size+1) 68 #[int i64 0,int i64 0,int i64 0,int i64 0,int i64 0,int i64 0,slice none 0 0,slice none 0 0]):=ae (by rw[b,<-g];exact Blk.new _ _ _);have Y:Sz (Below w.heap.size w i):=ae (by rw[b];exact((aC _ _).alloc (aj _) _).alloc (by simp) _);have Z:=ae ((rI _).new hd Y.o);have P:=ae ((rS 4 _).new ((rS 4 _).bl J) Y.o);have j:=ae b;have aA:=ae an;unfold bV;clear hd am hn b g J an U f;go_enter func49,ntmps49;go_upto_region 1 with fail;rw[<-j.o];have ao:w.heap.size<i.heap.size:=y.o.lt;clear j;obtain⟨b,f⟩:∃b,b=w.heap.size:=⟨_,rfl⟩;rw[<-f] at y I ao P H ⊢;have z:i.cell? ⟨b,6,none⟩=some (slice u r x):=y.o.cell 6;have K:i.cell? ⟨b,7,none⟩=some (slice o 1 s):=y.o.cell 7;have HG:=ae f;clear f;go_cut [] (λf=>∃v vo,Sz (OwnI f i.heap.size v m.drives)/\Sz (OwnS f i.heap.size 65 4 (Bl b) vo [df e])/\Sz (Blk f b 68 #[int i64 m.seq,int i64 m.next,int i64 m.K,int i64 m.H,int i64 m.Z,int i64 m.extra,v,vo])/\Sz (Blk f (b+1) 68 #[int i64 0,int i64 0,int i64 0,int i64 0,int i64 0,int i64 0,slice none 0 0,slice none 0 0])/\Sz (Below b i f))
 case first=>
  go_region_law (first
   | (have HQ:=ab
      go_simp;go_at_call 100;refine(H.o D ((rS 4 _).new P.o f)).mono ?_;rintro G A ⟨Q,rfl,E,j⟩;have L:Sz (OwnI A i.heap.size R m.drives):=ae (ab.o.below j);have M:Sz (OwnS A i.heap.size 65 4 (Bl b) Q [df e]):=ae (E.base f.size λd g=>g.1);replace j:=f.trans (j.mono f.size);have q:=ae (y.o.below j y.o.lt);have ac:=ae (I.o.below j I.o.lt);have ag:=ae j;obtain⟨S,T,c4,rfl⟩:=M.o.sl;obtain⟨k,l,n,rfl⟩:=L.o.sl;have al:A.cell? ⟨b,6,none⟩=some (slice u r x):=q.o.cell 6;have ap:A.cell? ⟨b,7,none⟩=some (slice o 1 s):=q.o.cell 7;have aq:=q.o.frozen 6;have ar:=(q.o.set 6 (slice k l n)).frozen 7;have au:(A.setCell ⟨b,6,none⟩ (slice k l n)).cell? ⟨b,7,none⟩=some (slice o 1 s):=(by simpa using(q.o.set 6 (slice k l n)).cell 7);clear E j N f;go_simp)
   | (have HQ:=ai
      go_simp;go_at_call 99;refine(V.o D ((rI _).new Z.o f)).mono ?_;rintro G A ⟨R,rfl,E,j⟩;have M:Sz (OwnS A i.heap.size 65 4 (Bl b) Q [df e]):=ae (ai.o.new j);have L:Sz (OwnI A i.heap.size R m.drives):=ae (OwnI.base E f.size);replace j:=f.trans (j.mono f.size);have q:=ae (y.o.below j y.o.lt);have ac:=ae (I.o.below j I.o.lt);have ag:=ae j;obtain⟨S,T,c4,rfl⟩:=M.o.sl;obtain⟨k,l,n,rfl⟩:=L.o.sl;have al:A.cell? ⟨b,6,none⟩=some (slice u r x):=q.o.cell 6;have ap:A.cell? ⟨b,7,none⟩=some (slice o 1 s):=q.o.cell 7;have aq:=q.o.frozen 6;have ar:=(q.o.set 6 (slice k l n)).frozen 7;have au:(A.setCell ⟨b,6,none⟩ (slice k l n)).cell? ⟨b,7,none⟩=some (slice o 1 s):=(by simpa using(q.o.set 6 (slice k l n)).cell 7);clear E j N f;go_simp)
   | (go_simp
      go_at_call 99;refine(V.o i.drew Z.o).mono ?_;rintro G D ⟨R,rfl,N,f⟩;replace f:=bQ f;have ab:Sz (OwnI D i.heap.size R m.drives):=ae N;have O:=ae (y.o.below f y.o.lt);have av:D.cell? ⟨b,6,none⟩=some (slice u r x):=O.o.cell 6;have aa:D.cell? ⟨b,7,none⟩=some (slice o 1 s):=O.o.cell 7;go_simp)
   | (go_simp
      go_at_call 100;refine(H.o i.drew P.o).mono ?_;rintro G D ⟨Q,rfl,N,f⟩;replace f:=bQ f;have ai:Sz (OwnS D i.heap.size 65 4 (Bl b) Q [df e]):=ae (N.base (aj _) λd g=>g.1);have O:=ae (y.o.below f y.o.lt);have av:D.cell? ⟨b,6,none⟩=some (slice u r x):=O.o.cell 6;have aa:D.cell? ⟨b,7,none⟩=some (slice o 1 s):=O.o.cell 7;go_simp))
  all_goals(
   have ak:∀d,(Value.slice k l n).ownBlock=some d->d≠b:=λd g e=>Ty.ne2 e (L.o.ty d g) (Blk.ty q.o) (by decide);have aw:Below b i A:=ag.o.mono (by omega);go_simp;refine ‹∀(a':Act) (C:World),Met _ a' C->_› _ _ ?_;go_meet;refine⟨slice k l n,slice S T c4,ae (L.o.keepO λd g=>(bJ _ _ _ d (ak d g)).trans (bJ _ _ _ d (ak d g))),ae (M.o.keepAt (λd g=> ?_) λd g _ _=> ?_),ae ?_,ae ((ac.o.far (show b+1≠b by omega) _).far (show b+1≠b by omega) _),ae ((aw.setCell (p:=⟨b,6,none⟩) (aj _) _).setCell (p:=⟨b,7,none⟩) (aj _) _)⟩
   ·have h:d≠b:=λe=>Ty.ne2 e (M.o.ownTy d g) (Blk.ty q.o) (by decide)
    exact(bJ _ _ _ d h).trans (bJ _ _ _ d h)
   ·have h:d≠b:=λe=>by have C:d<b:=g;omega
    exact(bJ _ _ _ d h).trans (bJ _ _ _ d h)
   ·simpa using(q.o.set 6 (slice k l n)).set 7 (slice S T c4))
 case rest=>
  obtain⟨v,vo,HO,j,L,HZ,HB⟩:=hcut;rename World=>w5;clear z K H P Z;obtain⟨k,l,n,rfl⟩:=HO.o.sl;obtain⟨f,q,aT,O,Q,rfl,A,C,D⟩:=EntB.of j.o;have R:=ae C;have ap:=ae D;have S:=ae A;clear C D A j V;obtain⟨nm,ob,ln,j⟩:=e;simp only at*;have K:w5.cell? ⟨b,7,none⟩=some (slice (some ⟨f,0,none⟩) 1 q):=L.o.cell 7;go_wp2_with fail;clear K;go_loopw [15] (λA wr=>(A=int i64 0/\Sz (wr=w5))\/(A=int i64 1/\∃aq ab ac,Sz (OwnI wr i.heap.size (slice k l n) m.drives)/\Sz (Blk wr b 68 #[int i64 m.seq,int i64 m.next,int i64 m.K,int i64 m.H,int i64 m.Z,int i64 m.extra,slice k l n,slice (some ⟨f,0,none⟩) 1 q])/\Sz (Blk wr (b+1) 68 #[int i64 0,int i64 0,int i64 0,int i64 0,int i64 0,int i64 0,slice none 0 0,slice none 0 0])/\Sz (Below b i wr)/\Sz (EntB wr f q aq ⟨nm,ob,ln,j⟩ (slice ab j.length ac))/\Sz ((rI j).ok wr (λd=>Ty 3 wr d/\b<=d) [slice ab j.length ac]))) (λA _=>1-(intOf A).toNat)
  case atStart=>exact .inl ⟨rfl,ae rfl⟩
  case round=>
   rcases hrel with⟨rfl,HW⟩ | ⟨rfl,aq,ab,ac,ag,ar,M,au,ai,av⟩
   ·obtain rfl:=HW.o
    have CT:=ae λA (h:(rI j).ok A (Bl b) [slice O j.length Q])=>iV j (Bl b) O j.length Q A h rfl (by have:=aA.o;omega);have K:wr.cell? ⟨b,7,none⟩=some (slice (some ⟨f,0,none⟩) 1 q):=L.o.cell 7;have e3:wr.cell? ⟨f,3,none⟩=some (slice O j.length Q):=(Blk.cell R.o.blk 3).trans (kI R.o.take).2.2.2;have aw:=ae (show b<=wr.heap.size from HB.o.size |> aP (Nat.le_of_lt ao));go_upto_region 5 with fail
    go_region_law (go_simp
                   go_at_call 99;refine(CT.o wr.drew ap.o).mono ?_;rintro G A ⟨v6,rfl,ak,D⟩;replace D:=bQ D;have al:=ae (L.o.below D L.o.lt);have ax:=ae (HZ.o.below D HZ.o.lt);have E:=ae (R.o.below D);have N:=ae (HO.o.below D);have T:=ae (HB.o.trans (D.mono aw.o));have ay:=ae ak;obtain⟨C,z,rfl⟩:=ak.lenA;have aa:A.cell? ⟨b,7,none⟩=some (slice (some ⟨f,0,none⟩) 1 q):=al.o.cell 7;have aB:A.cell? ⟨f,3,none⟩=some (slice O j.length Q):=(Blk.cell E.o.blk 3).trans (kI E.o.take).2.2.2;have aD:A.frozen? ⟨f,3,none⟩=false:=E.o.blk.frozen 3;clear ak D;go_simp)
    all_goals(
     clear K e3 aa aB aD CT;have ak:b≠f:=(by have:=S.o;omega);have az:b+1≠f:=(by have:=S.o;have:=I.o.lt;omega);have aE:=ae (al.o.far (p:=⟨f,3,none⟩) ak (slice C j.length z));have aF:=ae (ax.o.far (p:=⟨f,3,none⟩) az (slice C j.length z));have aK:=ae (E.o.set (slice C j.length z));have aL:Sz (OwnI (A.setCell ⟨f,3,none⟩ (slice C j.length z)) i.heap.size (slice k l n) m.drives):=ae (N.o.keepO λd g=>bJ _ _ _ d λe=>Ty.ne2 e (N.o.ty d g) (Blk.ty E.o.blk) (by decide));have aM:Sz (Below b i (A.setCell ⟨f,3,none⟩ (slice C j.length z))):=ae (T.o.setCell (p:=⟨f,3,none⟩) (by show b<=f;have:=S.o;omega) _)
     have aR:Sz ((rI j).ok (A.setCell ⟨f,3,none⟩ (slice C j.length z)) (λd=>Ty 3 (A.setCell ⟨f,3,none⟩ (slice C j.length z)) d/\b<=d) [slice C j.length z]):=ae ((rI j).keep (wu ay.o) λd g hl=>by
      have h:(A.setCell ⟨f,3,none⟩ (slice C j.length z)).heap[d]? =A.heap[d]? :=bJ _ _ _ d λe=>Ty.ne2 e g.1 (Blk.ty E.o.blk) (by decide);exact⟨h,g.1.keep h,aP aw.o g.2⟩)
     clear al ax E N T ay L HZ R HO HB ap ak az;generalize A.setCell ⟨f,3,none⟩ (slice C j.length z)=w7 at*;go_wp2_with fail;go_roundw
     case rel=>exact .inr ⟨by go_num,_,_,_,aL,aE,aF,aM,aK,aR⟩
     case measure=>simp[intOf])
   ·obtain⟨G,x1,x2,x3,x4,x5,x6,x7⟩:=bW ar.o
    have E:Sz ((rS 4 ([(⟨nm,ob,ln,j⟩:eB)].map df)).ok wr (λd=>(d=f\/Ty 3 wr d)/\b<=d) [slice (some ⟨f,0,none⟩) 1 q]):=ae (ai.o.rep ((rI j).more av.o λd g _=>⟨.inr g.1,g.2⟩) ⟨.inl rfl,by have:=S.o;omega⟩);have D:=ae (Blk.ty ai.o.blk)
    go_wp2_with (change wpList _ _ _ (Oper.mk none (Op.store 68 _ _) _ _ _ _ :: _) _ _;refine wpList_store_row rfl 68 _ _ rfl (b+1) #[int i64 m.seq,int i64 m.next,int i64 m.K,int i64 m.H,int i64 m.Z,int i64 m.extra,slice k l n,slice (some ⟨f,0,none⟩) 1 q] rfl rfl 68 _ M.o (by kernel_rfl) rfl (by kernel_rfl) ?_)
    have HR:=ae (M.o.row #[int i64 m.seq,int i64 m.next,int i64 m.K,int i64 m.H,int i64 m.Z,int i64 m.extra,slice k l n,slice (some ⟨f,0,none⟩) 1 q]);have T:=ae (bS au.o (Nat.le_succ b) #[int i64 m.seq,int i64 m.next,int i64 m.K,int i64 m.H,int i64 m.Z,int i64 m.extra,slice k l n,slice (some ⟨f,0,none⟩) 1 q])
    have C:∀d,(d=f\/Ty 3 wr d)->(wr.setRow (b+1) #[int i64 m.seq,int i64 m.next,int i64 m.K,int i64 m.H,int i64 m.Z,int i64 m.extra,slice k l n,slice (some ⟨f,0,none⟩) 1 q]).heap[d]? =wr.heap[d]? :=λd g=>setRow_other _ _ _ _ (by
     intro e;rcases g with h | h
     ·subst h
      exact Ty.ne2 (by first | exact e | exact e.symm) D.o (Blk.ty M.o) (by decide)
     ·exact Ty.ne2 (by first | exact e | exact e.symm) h (Blk.ty M.o) (by decide))
    have N:Sz (OwnI (wr.setRow (b+1) #[int i64 m.seq,int i64 m.next,int i64 m.K,int i64 m.H,int i64 m.Z,int i64 m.extra,slice k l n,slice (some ⟨f,0,none⟩) 1 q]) i.heap.size (slice k l n) m.drives):=ae (ag.o.keepO λd g=>C d (.inr (ag.o.ty d g)))
    have aa:Sz ((rS 4 ([(⟨nm,ob,ln,j⟩:eB)].map df)).ok (wr.setRow (b+1) #[int i64 m.seq,int i64 m.next,int i64 m.K,int i64 m.H,int i64 m.Z,int i64 m.extra,slice k l n,slice (some ⟨f,0,none⟩) 1 q]) (λd=>Fu (wr.setRow (b+1) #[int i64 m.seq,int i64 m.next,int i64 m.K,int i64 m.H,int i64 m.Z,int i64 m.extra,slice k l n,slice (some ⟨f,0,none⟩) 1 q]) d/\b<=d) [slice (some ⟨f,0,none⟩) 1 q]):=ae ((rS 4 _).keep E.o λd g hl=>⟨C d g.1,by
     have h:=C d g.1;rcases g.1 with e | e
     ·exact Mt.not (t:=65) ((e▸D.o).keep h) (by decide) (by decide) (by decide)
     ·exact Mt.not (e.keep h) (by decide) (by decide) (by decide),g.2⟩)
    clear ar M au ag ai av E D C G x1 x2 x3 x4 x5 x6 x7;generalize wr.setRow (b+1) #[int i64 m.seq,int i64 m.next,int i64 m.K,int i64 m.H,int i64 m.Z,int i64 m.extra,slice k l n,slice (some ⟨f,0,none⟩) 1 q]=A at*;go_wp2_with fail
    (try simp only[Exit.inBlock,Exit.then])
    refine bodyPost_ret (results_cell_row rfl _ _ (b+1) 68 #[int i64 m.seq,int i64 m.next,int i64 m.K,int i64 m.H,int i64 m.Z,int i64 m.extra,slice k l n,slice (some ⟨f,0,none⟩) 1 q] (0,0) _ rfl HR.o underlying68 rfl (by kernel_rfl)) rfl ?_;rw[<-HG.o];exact⟨_,_,_,rfl,N.o.base (by omega),aa.o,(HG.o▸Y.o).trans T.o⟩
def xA(a c d:Nat)(b:SC):SC:=cellL 2 (bT a 4++[c,d,b.length]++b)
theorem Gx(n:Nat):bT n 4=[n/16777216%256,n/65536%256,n/256%256,n%256]:=by
 simp[bT]
theorem OwnB.ofBlk{w:World}{C g:Nat}{l:SC}(a:Blk w g 5 (bO l))(b:C<=g)(c:l.length<=maxLen):OwnB w C (slice (some ⟨g,0,none⟩) l.length l.length) l:=
 ⟨by rw[bL,Nat.mul_one],.inr ⟨g,l.length,bO l,rfl,b,a,aj _,c,by simp[bO,bL],by simp[bO,bL,aN]⟩⟩
theorem MQ(l d e:Nat)(b:SC)(a:SE)(n c:Nat)(w:World)(hs:l<4294967296)(X:d<=255)(Y:e<=255)(m:Rd w w.heap.size a n (bK b))(r:By b)(Z:n<=48)(F:a=none->c=0):
 Calls prog 125 #[int i64 l,int i64 d,int i64 e,slice a n c] w λs f=>∃g,s=returned (slice (some ⟨g,0,none⟩) 64 64)/\w.heap.size<=g/\Blk f g 5 (bO (xA l d e b))/\Below w.heap.size w f:=by
 have p:b.length=n:=by have:=m.len;rwa [bL] at this
 obtain⟨f,t⟩:∃f,f=l/16777216:=⟨_,rfl⟩;obtain⟨i,u⟩:∃i,i=l/65536%256:=⟨_,rfl⟩;obtain⟨j,v⟩:∃j,j=l/256%256:=⟨_,rfl⟩;obtain⟨k,x⟩:∃k,k=l%256:=⟨_,rfl⟩;have G:Sz (xA l d e b=cellL 2 ([f,i,j,k,d,e,n]++b)):=ae (by unfold xA;rw[Gx,p,show l/16777216%256=l/16777216 by omega,t,u,v,x];rfl);have H:(l:Int)/16777216=(f:Int):=by omega
 have I:(l:Int)/65536%256=(i:Int):=by omega
 have J:(l:Int)/256%256=(j:Int):=by omega
 have K:(l:Int)%256=(k:Int):=by omega
 have L:(d:Int)%256=(d:Int):=by omega
 have M:(e:Int)%256=(e:Int):=by omega
 have N:(n:Int)%256=(n:Int):=by omega
 have O:Sz (By [f,i,j,k,d,e,n]):=ae (by intro q m;simp at m;omega);have o:=(aC w.heap.size w).alloc (aj _) (cells (bO [f,i,j,k,d,e,n]) 5);have y:=ae o;have z:=ae (m.below o (aj _));have A:Sz (OwnB (w.alloc (cells (bO [f,i,j,k,d,e,n]) 5)) w.heap.size (slice (some ⟨w.heap.size,0,none⟩) 7 7) [f,i,j,k,d,e,n]):=ae (OwnB.ofBlk (Blk.new w _ (bO [f,i,j,k,d,e,n])) (aj _) (by simp[maxLen]));have D:[f,i,j,k,d,e,n].length+n<=1000000:=by simp;omega
 have E:=o.size;have P:=ae r;have Q:=ae p;clear t u v x m r o p;go_enter func125,ntmps125
 go_wp2_with (at_builtin;refine mM (w:=w.alloc (cells (bO [f,i,j,k,d,e,n]) 5)) (C:=w.heap.size) (xs:=[f,i,j,k,d,e,n]) (ys:=b) rfl _ _ rfl A.o E D rfl rfl F z.o ?_)
 intro v2 R p t S T;have u:([f,i,j,k,d,e,n]++b).length=n+7:=by rw[aI,Q.o];simp;omega
 obtain⟨U,V,rfl,v,W⟩:=p.rd2 u;have o:=ae (y.o.trans t);have x:=ae (wF 2 ([f,i,j,k,d,e,n]++b) U (n+7) V R (by omega) (by omega) v (λq m=>(bF.1 m).elim (O.o q) (P.o q)) (by omega));clear p t S T u v W A z y H I J K L M N D E;generalize [f,i,j,k,d,e,n]++b=A at*;go_wp2_with fail;refine x.o.mono ?_;rintro s D ⟨g,rfl,p,t,u⟩;have v:=ae t;have y:=ae (o.o.trans (u.mono o.o.size));have z:=ae (aP o.o.size p);clear p t u x;go_wp2_with fail;go_ret;exact⟨g,rfl,z.o,by rw[G.o];exact v.o,y.o⟩
theorem xu:(prog.info? 165).map (λa=>(a.zero,a.size,a.bytes))=some (some (.agg #[int i64 0,slice none 0 0]),2,32):=by kernel_rfl
theorem Fu.fd{w:World}{b:Nat}(a:Fu w b):Fd w b:=λc=>a (c.elim .inl λa=>.inr (.inl a))
theorem DZ(L:SC)(F:Nat->Prop)(a:SE)(n c:Nat)(w:World)(k:(rI L).ok w F [slice a n c])(l:L.length=n)(M:n<=64)(N:0<n)(m:∀x∈L,1<=x/\x<=512):
 Calls prog 87 #[slice a n c] w λd b=>∃v,d=returned (.tuple #[v,bool true])/\OwnI b w.heap.size v (range n)/\Below w.heap.size w b:=by
 have z:Sz (Sx w w [eR F (slice a n c) (rI L)]):=ae ((Sx.nil w).add (eR F (slice a n c) (rI L)) k);have o:=ae l;have A:=ae m;have p:Sz (OwnI w w.heap.size (slice none 0 0) (range 0)):=ae (OwnI.nil _ _);have q:=ae (aC w.heap.size w);have O:(n:Int)<=64:=by omega
 clear k l m;go_enter func87,ntmps87;go_wp2_with fail;go_loopw [4,9] (λv b wr=>∃e:Nat,e<=n/\b=int i64 e/\Sz (OwnI wr w.heap.size v (range e))/\Sz (Below w.heap.size w wr)) (λ_ b _=>n-(intOf b).toNat)
 case atStart=>exact⟨0,by omega,rfl,p,q⟩
 case round=>
  clear p q;obtain⟨e,P,rfl,g,f⟩:=hrel;have D:=ae (z.o.step f.o)
  obtain⟨Q,b,R,j,E⟩:∃a n c,_=Value.slice a n c/\n=e:=by
   obtain⟨r,s,d⟩:=g.o.lenA;exact⟨r,_,s,d,bg⟩
  subst j;subst E;by_cases G:b<n
  ·have S:(b:Int)<(n:Int):=by omega
   have i:b<L.length:=(by rw[o.o];exact G);obtain⟨r,s,d,t,-⟩:=dY (D.o.rep 0 rfl) o.o;injection d with j T H;subst j H;obtain⟨U,V,rfl,W,u⟩:=t.2 (by omega);have X:=u b (int i64 (L.getD b 0:Nat)) (dh i);have I:=A.o (L.getD b 0) (by rw[af,ah i];exact aQ i);generalize L.getD b 0=x at*;have Y:¬(512:Int)<(x:Int):=(by omega);have Z:(0:Int)<(x:Int):=(by omega);have J:(range b).length<=1000000:=(by rw[bg];omega);have K:=f.o.size;clear u t I i
   go_wp2_with (at_builtin;refine l5 (w:=wr) (C:=w.heap.size) (y:=b) rfl _ _ rfl rfl g.o K J rfl rfl ?_)
   intro v2 w2 i t;rw[<-range_succ] at i;have u:=ae i;have I:=ae (f.o.trans t);clear i t g f;go_wp2_with fail;go_roundw
   case rel=>exact⟨b+1,by omega,by go_num,u,I⟩
   case measure=>simp[intOf];omega
  ·obtain rfl:b=n:=by omega
   have i:(0:Int)<(b:Int):=(by omega);go_wp2_with fail;go_ret2;exact⟨_,rfl,g.o,f.o⟩
section
variable {B:Nat}
end
section
variable {B:Nat}
def Ar(a:ByteArray)(e:eB):Bool:=e.name.toList == a.toList
theorem Jj(b:ByteArray)(y:eB)(a:SE)(n c G:Nat)(w:World)(e:Blk w G 9 #[.string b]):
 Calls prog 168 (#[.agg (fJ y (slice a n c))]++#[pointer (some ⟨G,0,none⟩)]) w λd f=>d=returned (bool (Ar b y))/\Below w.heap.size w f:=by
 show Calls prog 168 #[.agg (fJ y (slice a n c)),pointer (some ⟨G,0,none⟩)] w _
 have d:Sz (Sx w (w.alloc (cells (fJ y (slice a n c)) 65)) [bY w.heap.size 65 (fJ y (slice a n c)),bY G 9 #[.string b]]):=
  ae ((((Sx.nil w).add (bY G _ _) e).alloc _).add (bY _ _ _) (Blk.new w _ _))
 clear e;obtain⟨f,g,i,j⟩:=y;unfold fJ at*;simp only at*;obtain⟨k,l,m,o⟩:=fO (d.o.blk 0 rfl);have p:(w.alloc (cells #[.string f,int i64 g,int i64 i,slice a n c] 65)).cell? ⟨G,0,none⟩=some (.string b):=(d.o.blk 1 rfl).cell 0;go_enter func168,ntmps168;go_wp2_with fail;go_ret;exact⟨rfl,d.o.1⟩
end
section
variable {B:Nat}
def iD(o b t:Nat):Nat:=128*o+16*b+t
def uB(K H Z o b t:Nat):Prop:=t<16/\ek K H Z (iD o b t:Nat) (range K)=true/\∀a,a<t->ek K H Z (iD o b a:Nat) (range K)=false
theorem Qn(K H Z o b t:Nat)(w:World)(s:fQ K H Z=true)(u:o<=16777215)(v:b<=8)(m:uB K H Z o b t):
 Calls prog 155 #[dO K H Z,int i64 o,int i64 b] w λa e=>a=returned (.tuple #[int i64 t,bool true])/\Below w.heap.size w e:=by
 have I:Sz (Sx w (w.alloc (cells #[int i64 K,int i64 H,int i64 Z] 25)) [bY w.heap.size 25 #[int i64 K,int i64 H,int i64 Z]]):=
  ae ((((Sx.nil w).alloc _).add (bY _ _ _) (Blk.new w 25 #[int i64 K,int i64 H,int i64 Z])))
 have J:=ae λ(a:Nat) (c:a<=16) w=>ma o b a w u v c;have x:=ae λ(a:Nat) (c:a<=16) w=>ng K H Z (iD o b a:Nat) w s (by omega) (by unfold iD;omega);have y:=ae m;have P:=m.1;clear s u v m;unfold dO at x ⊢;go_enter func155,ntmps155;go_wp2_with fail;generalize w.alloc (cells #[int i64 K,int i64 H,int i64 Z] 25)=i at*;have z:=ae (aC i.heap.size i);go_loopw [9] (λc wr=>∃a:Nat,a<=t/\c=int i64 a/\Sz (Below i.heap.size i wr)) (λc _=>16-(intOf c).toNat)
 case atStart=>exact⟨0,by omega,rfl,z⟩
 case round=>
  clear z;obtain⟨a,Q,rfl,n⟩:=hrel;have j:=ae (I.o.step n.o);have R:(a:Int)<16:=(by omega);have A:=ae (J.o a (by omega));have f:=ae (x.o a (by omega));obtain⟨C,D,E⟩:=lJ (j.o.blk 0 rfl);have L:a=t\/a<t:=(by omega);rcases L with F | k
  ·have G:=ae F
   clear F;rw[show ek (K:Nat) H Z (iD o b a:Nat) (range K)=true from by rw[G.o];exact y.o.2.1] at f;unfold iD at f;go_upto_region 4 with fail;clear C D E;refine dn (by kernel_rfl) (by kernel_rfl) ?_
   iterate 6 (
    with_reducible refine wpQuiet_step (λp c=> ?_)
    go_simp
    first
    | refine c _ ?_
    | refine⟨_,λ_ _=>rfl,c _ ?_⟩
    | (apply Exists.intro
       refine⟨λe d=> ?_,c _ ?_⟩
       ·obtain⟨M,N,O⟩:=lJ ((j.o.step d).blk 0 rfl)
        first
        | (go_simp
           first | exact rfl | exact⟨rfl,rfl⟩)
        | (go_at_call 114
           refine(A.o e).mono ?_;rintro q g ⟨rfl,rfl⟩;exact⟨rfl,d⟩)
        | (go_at_call 214
           refine(f.o e).mono ?_;rintro q g ⟨rfl,r⟩;exact⟨rfl,d.trans (r.mono d.size)⟩))
    clear c p)
   with_reducible refine wpQuiet_nil ?_
   intro g l;go_wp2_with fail;go_ret2;exact⟨by rw[G.o];rfl,(j.o.step l).1⟩
  ·rw[show ek (K:Nat) H Z (iD o b a:Nat) (range K)=false from y.o.2.2 a k] at f
   have G:=ae k;clear k;unfold iD at f;go_upto_region 4 with fail;clear C D E;refine dn (by kernel_rfl) (by kernel_rfl) ?_
   iterate 6 (
    with_reducible refine wpQuiet_step (λp c=> ?_)
    go_simp
    first
    | refine c _ ?_
    | refine⟨_,λ_ _=>rfl,c _ ?_⟩
    | (apply Exists.intro
       refine⟨λe d=> ?_,c _ ?_⟩
       ·obtain⟨M,N,O⟩:=lJ ((j.o.step d).blk 0 rfl)
        first
        | (go_simp
           first | exact rfl | exact⟨rfl,rfl⟩)
        | (go_at_call 114
           refine(A.o e).mono ?_;rintro q g ⟨rfl,rfl⟩;exact⟨rfl,d⟩)
        | (go_at_call 214
           refine(f.o e).mono ?_;rintro q g ⟨rfl,r⟩;exact⟨rfl,d.trans (r.mono d.size)⟩))
    clear c p)
   with_reducible refine wpQuiet_nil ?_
   intro g l;have q:=ae (n.o.trans (l.mono n.o.size));clear l;go_wp2_with fail;have k:=G.o;go_roundw
   case rel=>exact⟨a+1,by omega,by go_num,q⟩
   case measure=>simp[intOf];omega
end
theorem Ll(x f:Value)(w:World):Calls prog 282 #[x,int i64 0,int i64 1,f] w λa b=>a=returned (.tuple #[])/\b=w:=by
 go_enter func282,ntmps282;go_wp2_with fail;go_loopw [8] (λa wr=>a=int i64 1/\Sz (wr=w)) (λ_ _=>0)
 case atStart=>exact⟨rfl,ae rfl⟩
 case round=>
  obtain⟨rfl,a⟩:=hrel;go_wp2_with fail
  (try simp only[Exit.inBlock,Exit.then])
  refine bodyPost_end (results_none rfl _ _ _) rfl ?_;exact⟨rfl,a.o⟩
theorem Lm(x f:Value)(l:Int)(w:World):Calls prog 228 #[x,int i64 0,int i64 1,int i64 l,f] w λa b=>a=returned (.tuple #[])/\b=w:=by
 have b:=ae λw=>Ll x f w;go_enter func228,ntmps228;go_wp2_with fail;go_loopw [1,2] (λc d wr=>c=int i64 0/\d=int i64 1/\Sz (wr=w)) (λ_ _ _=>0)
 case atStart=>exact⟨rfl,rfl,ae rfl⟩
 case round=>
  obtain⟨rfl,rfl,c⟩:=hrel;go_wp2_with fail;refine(b.o wr).mono ?_;rintro a d ⟨rfl,rfl⟩;go_wp2_with fail
  (try simp only[Exit.inBlock,Exit.then])
  refine bodyPost_ret (results_none rfl _ _ _) rfl ?_;exact⟨rfl,c.o⟩
theorem Iu(a:SE)(c:Nat)(f:Value)(w:World):Calls prog 163 #[slice a 1 c,f] w λb d=>b=returned (.tuple #[])/\d=w:=by
 have d:=ae λw=>Tryz.bits_Len 1 w (by omega) (by omega);have e:=ae λg w=>Lm (slice a 1 c) f g w;go_enter func163,ntmps163;go_wp2_with fail;refine(d.o w).mono ?_;rintro b g ⟨rfl,rfl⟩;go_wp2_with fail;refine(e.o _ _).mono ?_;rintro b i ⟨rfl,rfl⟩;go_wp2_with fail
 (try simp only[Exit.inBlock,Exit.then])
 refine bodyPost_end (results_none rfl _ _ _) rfl ?_;exact⟨rfl,rfl⟩
section
variable {B:Nat}
theorem vQ:zeroCells96= #[int i64 0,int i64 0,int i64 0,int i64 0,int i64 0,int i64 0,slice none 0 0,slice none 0 0,pointer none,int i64 0]++Array.replicate 64 (pointer none):=by kernel_rfl
theorem Bc{j k l m n o p q s t a b c d b4 e f g h i:Value}{r:Array Value}:
 ((((((((((#[j,k,l,m,n,o,p,q,s,t]++r).setIfInBounds 0 a).setIfInBounds 1 b).setIfInBounds 2 c).setIfInBounds 3 d).setIfInBounds 4 b4).setIfInBounds 5 e).setIfInBounds 6 f).setIfInBounds 7 g).setIfInBounds 8 h).setIfInBounds 9 i= #[a,b,c,d,b4,e,f,g,h,i]++r:=by
 apply Array.ext';simp
theorem zG(k:Nat)(w:World)(F:Nat->Prop):(rS k (([]:List eB).map df)).ok w F [slice none 0 0]:=
 ⟨none,0,0,rfl,aj _,bE _,λ_=>rfl,rfl,[],by simp,λa=>absurd a (by omega),λb c a=>by simp at a⟩
end
section
variable {B:Nat}
def Fm(w:World)(b:Nat):Prop:=Fu w b/\¬Ty 68 w b
theorem Fm.keep{w w':World}{b:Nat}(a:Fm w b)(c:w'.heap[b]? =w.heap[b]?):Fm w' b:=⟨a.1.keep c,λd=>a.2 (d.keep c.symm)⟩
theorem Rp.fm(R:Rp){w w':World}{a:List Value}(e:R.ok w (Fm w) a)(b:Below w.heap.size w w'):R.ok w' (Fm w') a:=
 R.keep e λc f d=>⟨b.block c d,f.keep (b.block c d)⟩
theorem Rp.fmU(R:Rp){w:World}{a:List Value}(b:R.ok w (Fm w) a):R.ok w (Fu w) a:=R.more b λd c _=>c.1
theorem OwnS.repM{w:World}{C:Nat}{e:TypeId}{k:Nat}{v:Value}{L:List Rp}(c:OwnS w C e k (Fm w) v L)(b:e≠88/\e≠30/\e≠96)(h:e≠68):(rS k L).ok w (Fm w) [v]:=by
 have d:=c.ownTy;obtain⟨i,j,l⟩:=c;obtain⟨m,n,rfl,o,p,q,r,s⟩:=dH j;refine⟨m,L.length,n,rfl,p,q,o,rfl,i,r,λt=> ?_,λf a g=>a.more (l f a g) λa f _=>f.1⟩;obtain⟨a,u,x,⟨f,_⟩,g,y⟩:=s t;exact⟨a,u,x,⟨Mt.not (d a g) b.1 b.2.1 b.2.2,λz=>(d a g).ne z h⟩,y⟩
theorem rF{w:World}{C:Nat}{v:Value}{l:SC}(a:OwnI w C v l):(rI l).ok w (Fm w) [v]:=by
 obtain⟨f,g,rfl,h,i,j,b,c⟩:=dH (k:=1) a;rw[Nat.mul_one] at b c;refine⟨f,l.length,g,rfl,i,j,h,b,λm=> ?_⟩;obtain⟨d,n,o,⟨s,_⟩,p,q⟩:=c m;refine⟨d,n,o,?_,q⟩;have e:=a.ty d p;exact⟨Mt.not e (by decide) (by decide) (by decide),λr=>e.ne r (by decide)⟩
end
section
open Go Ieee
theorem xB(N P:Nat)(a:N≠0):(N*2 ^ P).log2=N.log2+P:=by
 have b:=(Nat.log2_eq_iff (n:=N*2 ^ P) (k:=N.log2+P) (by have:=Nat.pow_pos (n:=P) (show 0<2 by omega);exact Nat.mul_ne_zero a (by omega))).2;refine b ⟨?_,?_⟩
 ·rw[Nat.pow_add];exact Nat.mul_le_mul_right _ (Nat.log2_self_le a)
 ·rw[show N.log2+P+1=(N.log2+1)+P by omega,Nat.pow_add]
  exact Nat.mul_lt_mul_of_pos_right Nat.lt_log2_self (Nat.pow_pos (by omega))
theorem ze(s:Bool)(K a:Nat)(b:K≠0):Toward.even.cut s (K*2 ^ a) a=K:=by
 have c:=xB K a b;have d:=Nat.pow_pos (n:=a) (show 0<2 by omega)
 have e:(1<<<min a ((K*2 ^ a).log2+2):Nat)=2 ^ a:=by
  rw[c,Nat.min_eq_left (by omega),Nat.one_shiftLeft]
 unfold Toward.cut;simp only[e,Nat.mul_div_cancel _ d,Nat.mul_mod_left];have f:decide (2 ^ a<2*0)=false:=decide_eq_false (by omega);have g:((2:Nat) ^ a == 2*0)=false:=by rw[beq_eq_false_iff_ne];omega
 rw[f,g];rfl
theorem zf(s:Bool):double.read (double.word s 0)=.number s 0 (-1074):=by cases s <;> decide +kernel
theorem Jt(s:Bool)(a K:Nat)(i:a<=1074)(j:4503599627370496<=K)(k:K<9007199254740992):
 double.read (double.word s (a*4503599627370496+K))=.number s K ((a:Int)-1074):=by
 have b:double.signWeight=9223372036854775808:=by decide
 have c:double.binade=4503599627370496:=by decide
 have d:double.infRung=9218868437227405312:=by decide
 have e:double.leastPlace= -1074:=by decide
 have f:double.word s (a*4503599627370496+K)/9223372036854775808%2=s.toNat:=by
  unfold Format.word;rw[b];cases s <;> simp <;> omega
 have g:double.word s (a*4503599627370496+K)%9223372036854775808=a*4503599627370496+K:=by
  unfold Format.word;rw[b];cases s <;> simp <;> omega
 unfold Format.read;simp only[b,c,d,e,f,g];rw[bA (by omega),bu (by omega)];have h:(s.toNat == 1)=s:=by cases s <;> rfl
 rw[h,show 4503599627370496+(a*4503599627370496+K)%4503599627370496=K by omega,show(a*4503599627370496+K)/4503599627370496-1=a by omega];congr 1
 all_goals omega
theorem AA(s:Bool)(N P:Nat)(d:N<9007199254740992):
 ∃Q:Nat,double.read (double.nearest s (N*2 ^ P) (-(P:Int)))=.number s (N*2 ^ Q) (-(Q:Int)):=by
 by_cases c:N=0
 ·subst c
  obtain⟨Q,a⟩:∃Q:Nat,Q=1074:=⟨_,rfl⟩;refine⟨Q,?_⟩;unfold Format.nearest;rw[bu (Nat.zero_mul _),zf,Nat.zero_mul,a];rfl
 ·have v:=Nat.pow_pos (n:=P) (show 0<2 by omega)
  have e:=xB N P c
  have w:N.log2<=52:=by
   have:=(Nat.log2_lt c (k:=53)).2 (by simpa using d);omega
  have f:N*2 ^ P≠0:=Nat.mul_ne_zero c (by omega);refine⟨52-N.log2,?_⟩;have g:=Nat.log2_self_le c;have h:=Nat.lt_log2_self (n:=N);generalize N.log2=b at*;obtain⟨a,i⟩:∃a,a=52-b:=⟨_,rfl⟩;rw[<-i]
  have j:4503599627370496<=N*2 ^ a:=by
   have:2 ^ b*2 ^ a<=N*2 ^ a:=Nat.mul_le_mul_right _ g;rw[<-Nat.pow_add,show b+a=52 by omega] at this;simpa using this
  have l:N*2 ^ a<9007199254740992:=by
   have:N*2 ^ a<2 ^ (b+1)*2 ^ a:=Nat.mul_lt_mul_of_pos_right h (Nat.pow_pos (by omega));rw[<-Nat.pow_add,show b+1+a=53 by omega] at this;simpa using this
  have m:double.binade=4503599627370496:=(by decide);have o:double.infRung=9218868437227405312:=(by decide);have p:double.leastPlace= -1074:=(by decide);have q:double.fractionBits=52:=rfl;unfold Format.nearest;rw[bA f];simp only[e,m,o,p,q];have r:max (-(P:Int)+((b+P:Nat):Int)-((52:Nat):Int)) (-1074)= -(a:Int):=(by omega);rw[r]
  have t:Toward.even.cut s ((N*2 ^ P)<<<(-(P:Int)- -(a:Int)).toNat) (-(a:Int)- -(P:Int)).toNat=N*2 ^ a:=by
   rcases Nat.le_total P a with u | u
   ·rw[show(-(P:Int)- -(a:Int)).toNat=a-P by omega,show(-(a:Int)- -(P:Int)).toNat=0 by omega,Nat.shiftLeft_eq,Nat.mul_assoc,<-Nat.pow_add,show P+(a-P)=a by omega]
    have:=ze s (N*2 ^ a) 0 (by omega);simpa using this
   ·rw[show(-(P:Int)- -(a:Int)).toNat=0 by omega,show(-(a:Int)- -(P:Int)).toNat=P-a by omega,Nat.shiftLeft_zero,show N*2 ^ P=(N*2 ^ a)*2 ^ (P-a) by rw[Nat.mul_assoc,<-Nat.pow_add,show a+(P-a)=P by omega]]
    exact ze s (N*2 ^ a) (P-a) (by omega)
  rw[t,show(-(a:Int)- -1074).toNat=1074-a by omega,Nat.min_eq_left (by omega),Jt s (1074-a) _ (by omega) j l];congr 1;omega
def Fz(b:Nat)(n:Int):Prop:=∃(c:Bool) (a d:Nat),double.read b=.number c (a*2 ^ d) (-(d:Int))/\n=if c then-(a:Int) else a
theorem Cq{s:Bool}{N P:Nat}(a:N<9007199254740992):Fz (double.write (.number s (N*2 ^ P) (-(P:Int)))) (if s then-(N:Int) else N):=by
 obtain⟨b,c⟩:=AA s N P a;exact⟨s,N,b,c,rfl⟩
theorem pJ(s:Bool)(N P M:Nat)(b:P<=M):signed s (N*2 ^ P) (M-P)=(if s then-(N:Int) else N)*2 ^ M:=by
 have a:(N*2 ^ P)<<<(M-P)=N*2 ^ M:=by rw[Nat.shiftLeft_eq,Nat.mul_assoc,<-Nat.pow_add,show P+(M-P)=M by omega]
 unfold signed;rw[a];cases s <;> simp[Int.neg_mul]
theorem EQ(n:Int)(M:Nat):(n*2 ^ M).natAbs=n.natAbs*2 ^ M:=by
 rw[Int.natAbs_mul,Int.natAbs_pow];rfl
theorem RJ(M:Nat):(2:Int) ^ M≠0:=by
 have:0<(2:Int) ^ M:=Int.pow_pos (by omega);omega
theorem zg{s t:Bool}{N P L Q:Nat}{a b:Int}(k:a=if s then-(N:Int) else N)(l:b=if t then-(L:Int) else L)(m:(a+b).natAbs<9007199254740992):
 ∃r,(((Datum.number s (N*2 ^ P) (-(P:Int))).sum (.number t (L*2 ^ Q) (-(Q:Int)))).map double.write)=some r/\Fz r (a+b):=by
 obtain⟨c,q⟩:∃c,c=max P Q:=⟨_,rfl⟩;have n:min (-(P:Int)) (-(Q:Int))= -(c:Int):=by omega
 have o:signed s (N*2 ^ P) (-(P:Int)- -(c:Int)).toNat+signed t (L*2 ^ Q) (-(Q:Int)- -(c:Int)).toNat=(a+b)*2 ^ c:=by
  rw[show(-(P:Int)- -(c:Int)).toNat=c-P by omega,show(-(Q:Int)- -(c:Int)).toNat=c-Q by omega,pJ s N P c (by omega),pJ t L Q c (by omega),<-k,<-l,Int.add_mul]
 unfold Datum.sum;simp only[n,o,EQ,Option.map_some];refine⟨_,rfl,?_⟩;have g:=λd=>Cq (s:=d) (P:=c) m;have h:0<(2:Int) ^ c:=Int.pow_pos (by omega);by_cases i:a+b=0
 ·have:=g (if (a+b)*2 ^ c=0 then s && t else decide ((a+b)*2 ^ c<0))
  have f:(if (if (a+b)*2 ^ c=0 then s && t else decide ((a+b)*2 ^ c<0))=true then-(((a+b).natAbs:Nat):Int) else ((a+b).natAbs:Int))=a+b:=by
   rw[i];simp
  rw[f] at this;exact this
 ·have p:(a+b)*2 ^ c≠0:=Int.mul_ne_zero i (RJ c)
  rw[bA p];have:=g (decide ((a+b)*2 ^ c<0))
  have j:(a+b)*2 ^ c<0↔a+b<0:=by
   constructor
   ·intro d
    rcases Int.lt_or_le (a+b) 0 with e | e
    ·exact e
    ·have:=Int.mul_nonneg e (Int.le_of_lt h);omega
   ·intro d
    exact Int.mul_neg_of_neg_of_pos d h
  have f:(if decide ((a+b)*2 ^ c<0)=true then-(((a+b).natAbs:Nat):Int) else ((a+b).natAbs:Int))=a+b:=by
   by_cases d:a+b<0
   ·rw[bu (bq (j.2 d))];omega
   ·rw[bA (by rw[decide_eq_true_eq];exact λe=>d (j.1 e))];omega
  rw[f] at this;exact this
theorem AB{x y:Nat}{a b:Int}(c:Fz x a)(d:Fz y b)(e:(a+b).natAbs<9007199254740992):∃r,floatBits .add .f64 x y=some r/\Fz r (a+b):=by
 obtain⟨j,k,l,f,g⟩:=c;obtain⟨m,n,o,h,i⟩:=d;show ∃r,((double.read x).sum (double.read y)).map double.write=some r/\_;rw[f,h];exact zg g i e
theorem ER{x y:Nat}{a b:Int}(d:Fz x a)(e:Fz y b)(c:(a-b).natAbs<9007199254740992):∃r,floatBits .sub .f64 x y=some r/\Fz r (a-b):=by
 obtain⟨j,k,l,f,g⟩:=d;obtain⟨t,m,n,h,i⟩:=e;show ∃r,((double.read x).sum (double.read y).opposite).map double.write=some r/\_;rw[f,h];rw[Int.sub_eq_add_neg] at c ⊢;exact zg (t:= !t) g (by rw[i];cases t <;> simp) c
theorem ut{x y:Nat}{a b:Int}(i:Fz x a)(j:Fz y b)(q:(a*b).natAbs<9007199254740992):∃r,floatBits .mul .f64 x y=some r/\Fz r (a*b):=by
 obtain⟨s,c,P,k,g⟩:=i;obtain⟨f,d,e,l,h⟩:=j;show ∃r,((double.read x).product (double.read y)).map double.write=some r/\_;rw[k,l];unfold Datum.product;simp only[Option.map_some];refine⟨_,rfl,?_⟩;have m:c*2 ^ P*(d*2 ^ e)=(c*d)*2 ^ (P+e):=by rw[Nat.pow_add,Nat.mul_mul_mul_comm]
 have n: -(P:Int)+ -(e:Int)= -((P+e:Nat):Int):=by omega
 have o:c*d<9007199254740992:=by
  have:(a*b).natAbs=c*d:=by
   rw[Int.natAbs_mul,g,h];cases s <;> cases f <;> simp
  omega
 rw[m,n];have:=Cq (s:=s ^^ f) (P:=P+e) o
 have p:(if (s ^^ f)=true then-((c*d:Nat):Int) else ((c*d:Nat):Int))=a*b:=by
  rw[g,h];cases s <;> cases f <;> simp[Int.neg_mul,Int.mul_neg]
 rw[p] at this;exact this
theorem Cr{x y:Nat}{a b:Int}(h:Fz x a)(i:Fz y b):FloatKind.f64.format.order x y=some (compare a b):=by
 obtain⟨j,k,e,l,m⟩:=h;obtain⟨n,o,f,g,p⟩:=i;show(double.read x).order (double.read y)=_;rw[l,g];obtain⟨c,r⟩:∃c,c=max e f:=⟨_,rfl⟩;have q:min (-(e:Int)) (-(f:Int))= -(c:Int):=by omega
 unfold Datum.order;simp only[q];rw[show(-(e:Int)- -(c:Int)).toNat=c-e by omega,show(-(f:Int)- -(c:Int)).toNat=c-f by omega,pJ j k e c (by omega),pJ n o f c (by omega),<-m,<-p];have g:0<(2:Int) ^ c:=Int.pow_pos (by omega);congr 1;rcases Int.lt_trichotomy a b with d | d | d
 ·rw[Int.compare_eq_lt.2 d,Int.compare_eq_lt.2 (Int.mul_lt_mul_of_pos_right d g)]
 ·subst d;rw[Int.compare_eq_eq.2 rfl,Int.compare_eq_eq.2 rfl]
 ·rw[Int.compare_eq_gt.2 d,Int.compare_eq_gt.2 (Int.mul_lt_mul_of_pos_right d g)]
theorem jK:Fz 0 0:=by
 obtain⟨a,b⟩:∃a:Nat,a=1074:=⟨_,rfl⟩;refine⟨false,0,a,?_,rfl⟩;rw[Nat.zero_mul,b];exact zf false
theorem ES:Fz 4607182418800017408 1:=⟨false,1,52,by decide +kernel,rfl⟩
def Cz(r i:Nat)(x y:Int):Prop:=Fz r x/\Fz i y
theorem RL{a b c d:Nat}{x y u v:Int}(e:Cz a b x y)(f:Cz c d u v)(g:(x+u).natAbs<9007199254740992)(h:(y+v).natAbs<9007199254740992):
 ∃r i,cSumBits .add .f64 a b c d=some (r,i)/\Cz r i (x+u) (y+v):=by
 obtain⟨r,j,k⟩:=AB e.1 f.1 g;obtain⟨i,l,m⟩:=AB e.2 f.2 h;exact⟨r,i,by unfold cSumBits;rw[j,l];rfl,k,m⟩
theorem RN{a b c d:Nat}{x y u v:Int}(e:Cz a b x y)(f:Cz c d u v)(g:(x-u).natAbs<9007199254740992)(h:(y-v).natAbs<9007199254740992):
 ∃r i,cSumBits .sub .f64 a b c d=some (r,i)/\Cz r i (x-u) (y-v):=by
 obtain⟨r,j,k⟩:=ER e.1 f.1 g;obtain⟨i,l,m⟩:=ER e.2 f.2 h;exact⟨r,i,by unfold cSumBits;rw[j,l];rfl,k,m⟩
theorem PK{a b:Nat}{x y:Int}(c:Cz a b x y)(t:x.natAbs<9007199254740992)(u:y.natAbs<9007199254740992):
 ∃r i,cMulBits a b 0 4607182418800017408=some (r,i)/\Cz r i (-y) x:=by
 obtain⟨v,f,g⟩:=ut c.1 jK (by omega);obtain⟨w,h,j⟩:=ut c.2 ES (by omega);obtain⟨k,l,d⟩:=ER g j (by omega);obtain⟨z,m,n⟩:=ut c.1 ES (by omega);obtain⟨A,o,p⟩:=ut c.2 jK (by omega);obtain⟨q,s,e⟩:=AB n p (by omega);refine⟨k,q,?_,?_,?_⟩
 ·unfold cMulBits
  rw[f,h,Option.bind_some,Option.bind_some,l,Option.bind_some,m,o,Option.bind_some,Option.bind_some,s];rfl
 ·rw[show x*0-y*1= -y by omega] at d;exact d
 ·rw[show x*1+y*0=x by omega] at e;exact e
end
section
def vV:Nat->Int×Int->Int×Int | 0,p=>p | k+1,p=>(-(vV k p).2,(vV k p).1)
theorem KT(k:Nat)(x y:Int):((vV k (x,y)).1.natAbs=x.natAbs/\(vV k (x,y)).2.natAbs=y.natAbs)\/((vV k (x,y)).1.natAbs=y.natAbs/\(vV k (x,y)).2.natAbs=x.natAbs):=by
 induction k with
 | zero=>exact .inl ⟨rfl,rfl⟩
 | succ k b=>simp only[vV,Int.natAbs_neg];rcases b with a | a;exact .inr ⟨a.2,a.1⟩;exact .inl ⟨a.2,a.1⟩
theorem mod4(n:Int):(n.tmod 4+4).tmod 4=n%4:=by
 have b:=Int.emod_nonneg n (show(4:Int)≠0 by omega);have c:=Int.emod_lt_of_pos n (show(0:Int)<4 by omega);rw[Int.tmod_eq_emod (a:=n)];split
 ·rw[Int.tmod_eq_emod_of_nonneg (by omega)];omega
 ·rw[Int.tmod_eq_emod_of_nonneg (by omega)];omega
theorem DT(r i:Nat)(x y n:Int)(s: -9223372036854775808<=n/\n<=9223372036854775807)(w:World)(h:Cz r i x y)(t:x.natAbs<9007199254740992)(u:y.natAbs<9007199254740992):
 Calls prog 340 #[.complex .f64 r i,int i64 n] w λc d=>∃a b,c=returned (.complex .f64 a b)/\Cz a b (vV (n%4).toNat (x,y)).1 (vV (n%4).toNat (x,y)).2/\w=d:=by
 have v:=mod4 n;have k:=Int.emod_nonneg n (show(4:Int)≠0 by omega);have a:=Int.emod_lt_of_pos n (show(0:Int)<4 by omega);generalize n%4=b at*;obtain⟨b,rfl⟩:=Int.eq_ofNat_of_zero_le k;rw[Int.toNat_natCast]
 have z: -4<n.tmod 4/\n.tmod 4<4:=by
  rw[Int.tmod_eq_emod];have A:=Int.emod_nonneg n (show(4:Int)≠0 by omega);have C:=Int.emod_lt_of_pos n (show(0:Int)<4 by omega);split <;> omega
 have D:b<4:=by omega
 have l:=ae h;clear h a;generalize E:n.tmod 4=d at*;go_enter func340,ntmps340;go_wp2_with fail
 go_loop [0,9] (λe c=>∃(a r i:Nat),a<=b/\c=int i64 a/\e=.complex .f64 r i/\Sz (Cz r i (vV a (x,y)).1 (vV a (x,y)).2)) (λ_ c=>b-(intOf c).toNat)
 case atStart=>exact⟨0,r,i,by omega,rfl,rfl,l⟩
 case round=>
  obtain⟨a,c,e,F,rfl,rfl,f⟩:=hrel;have G:=KT a x y;by_cases H:a<b
  ·obtain⟨g,j,m,o⟩:=PK f.o (by omega) (by omega)
   have p:=λd w=>run_complex_mul (P:=prog) w d c e 0 4607182418800017408 g j m;have q:=ae o
   go_wp2_with (simp only[p])
   go_round
   case rel=>exact⟨a+1,g,j,by omega,by go_num,rfl,q⟩
   case measure=>simp[intOf] <;> omega
  ·obtain rfl:a=b:=by omega
   go_wp2_with fail;go_ret;exact⟨c,e,rfl,f.o,rfl⟩
structure Sp where
 x:Int
 y:Int
 dx:Int
 dy:Int
 left:Int
 leg:Int
 sec:Bool
def Sp.start:Sp:=⟨0,0,1,0,1,1,false⟩
def Sp.leg'(s:Sp):Int:=if s.sec then s.leg+1 else s.leg
def Sp.on(s:Sp):Sp:=
 if 0<s.left-1 then ⟨s.x+s.dx,s.y+s.dy,s.dx,s.dy,s.left-1,s.leg,s.sec⟩
 else ⟨s.x+s.dx,s.y+s.dy,-s.dy,s.dx,s.leg',s.leg',!s.sec⟩
def Sp.small(s:Sp):Prop:=s.x.natAbs<1000000/\s.y.natAbs<1000000/\s.dx.natAbs<1000000/\s.dy.natAbs<1000000/\(0<=s.left/\s.left<1000000)/\(0<=s.leg/\s.leg<1000000)
def OG(w:World)(g:Nat)(s:Sp):Prop:=∃a b c d:Nat,Cz a b s.x s.y/\Cz c d s.dx s.dy/\
 Blk w g 341 #[.complex .f64 a b,.complex .f64 c d,int i64 s.left,int i64 s.leg,.bool s.sec]
theorem Bg(w:World):
 Calls prog 278 #[] w λb a=>∃g,b=returned (pointer (some ⟨g,0,none⟩))/\w.heap.size<=g/\OG a g Sp.start/\Below w.heap.size w a:=by
 go_enter func278,ntmps278;go_wp2_with fail;go_ret;exact⟨_,rfl,aj _,⟨0,0,4607182418800017408,0,⟨jK,jK⟩,⟨ES,jK⟩,Blk.new _ _ _⟩,(aC _ _).alloc (aj _) _⟩
theorem x8(P:Program)(w:World)(a:Addr)(m:Mode)(k:FloatKind)(x y:Nat):(store a (.complex k x y) m).run P w=stored P w a (.complex k x y) m:=run_store P w a _ m rfl
attribute [local go_sem] x8
theorem eZ{w w':World}{g:Nat}(a:w.grownBy w' (some g))(i:Nat)(v:Value):w.grownBy (w'.setCell ⟨g,i,none⟩ v) (some g):=
 ⟨a.os,a.tape,a.output,by have:=a.size;simpa using this,λb d c=>(heap_setCell_other w' ⟨g,i,none⟩ b _ (λe=>c (by simp[e]))).trans (a.block b d c)⟩
theorem KU(g:Nat)(s:Sp)(w:World)(h:OG w g s)(hs:s.small):
 Calls prog 279 #[pointer (some ⟨g,0,none⟩)] w λt a=>(∃v,t=returned v)/\OG a g s.on/\w.grownBy a (some g):=by
 obtain⟨O,Q,u,x,left,H,y⟩:=s;obtain⟨z,A,c,d,C,e,b⟩:=h;obtain⟨I,J,K,b4,L,M⟩:=hs;simp only at I J K b4 L M C e b;obtain⟨f,i,a,o⟩:=RL C e (by omega) (by omega);have p:=λj w=>run_complex_sum (P:=prog) w .add (Or.inl rfl) j .f64 z A c d f i a;have j:=b.cell 0;have k:=b.cell 1;have l:=b.cell 2;have m:=b.cell 3;have n:=b.cell 4;have D:=b.frozen 0;simp at j k l m n;go_enter func279,ntmps279
 go_wp2_with (simp only[p])
 go_still_tail 11,(by kernel_rfl)
 change wpList _ _ _ _ _ w.drew;clear j k l m n D p a;have a:Blk w.drew g 341 #[.complex .f64 z A,.complex .f64 c d,int i64 left,int i64 H,.bool y]:=b;have q:w.grownBy w.drew (some g):=⟨rfl,rfl,rfl,aj _,λ_ _ _=>rfl⟩;clear b;generalize w.drew=R at*;have D:=a.frozen 0;have S:=a.frozen 1;have T:=a.frozen 2;have U:=a.frozen 3;have V:=a.frozen 4;have j:=a.cell 0;have k:=a.cell 1;have l:=a.cell 2;have m:=a.cell 3;have n:=a.cell 4;simp at j k l m n;have b:=ae a;have p:=ae q;clear a q;by_cases a:0<left-1
 ·go_wp2_with fail
  (try simp only[Exit.inBlock,Exit.then])
  refine bodyPost_ret (results_none rfl _ _ _) rfl ?_;refine⟨⟨_,rfl⟩,?_,eZ (eZ p.o _ _) _ _⟩;rw[Sp.on,bu a];exact⟨f,i,c,d,o,e,(b.o.set 0 _).set 2 _⟩
 ·have N:¬1<left:=by omega
  have W:=ae N;go_wp2_with fail;refine(DT c d u x 1 (by omega) _ e (by omega) (by omega)).mono ?_;rintro t X ⟨q,r,rfl,E,rfl⟩;have F:Sz (Cz q r (-x) u):=ae E;clear E;have E:=ae o;have G:=ae a;clear o a;cases y
  ·go_wp2_with fail
   go_end0
   refine⟨⟨_,rfl⟩,?_,eZ (eZ (eZ (eZ (eZ p.o _ _) _ _) _ _) _ _) _ _⟩;rw[Sp.on,bA (Int.not_lt.2 G.o)];exact⟨f,i,q,r,E.o,F.o,((((b.o.set 0 _).set 2 _).set 1 _).set 4 _).set 2 _⟩
  ·go_wp2_with fail
   go_end0
   refine⟨⟨_,rfl⟩,?_,eZ (eZ (eZ (eZ (eZ (eZ p.o _ _) _ _) _ _) _ _) _ _) _ _⟩;rw[Sp.on,bA (Int.not_lt.2 G.o)];exact⟨f,i,q,r,E.o,F.o,(((((b.o.set 0 _).set 2 _).set 1 _).set 3 _).set 4 _).set 2 _⟩
end
def Sp.it:Nat->Sp | 0=>Sp.start | n+1=>(Sp.it n).on
instance(s:Sp):Decidable s.small:=by unfold Sp.small;exact inferInstance
def Sp.chk:Nat->Sp->Bool | 0,s=>decide s.small | k+1,s=>decide s.small && Sp.chk k s.on
theorem Sw:Sp.chk 4100 Sp.start=true:=by decide +kernel
theorem Sy(n:Nat):∀(j k:Nat),k<=n->Sp.chk n (Sp.it j)=true->(Sp.it (j+k)).small:=by
 induction n with
 | zero=>intro j k b a;obtain rfl:k=0:=Nat.le_zero.1 b;exact bn a
 | succ n c=>
   intro j k b a;rw[Sp.chk,Bool.and_eq_true] at a;cases k with
   | zero=>exact bn a.1
   | succ k=>
     have:=c (j+1) k (by omega) a.2
     rwa [show j+1+k=j+(k+1) by omega] at this
theorem Om{k:Nat}(a:k<=4100):(Sp.it k).small:=by
 have:=Sy 4100 0 k a Sw
 rwa [Nat.zero_add] at this
def KF(n:Int):Int×Int:=if 0<=n/\n<4096 then ((Sp.it n.toNat).x,(Sp.it n.toNat).y) else (0,0)
theorem qC{P:Program}{Q:Exit->Act->World->Prop}{a:Act}{w:World}{i j k rest:Code}(l:Nat)(e:Nat->Act->World->Prop)(s:Nat)
 (u:findLabel (i.seq (j.seq (k.seq ((Code.label l).seq rest)))) l=some (Code.skip.seq rest))
 (first:i.wp P (Exit.then (λa w=>j.wp P (Exit.then (λa w=>k.wp P (Exit.then (e s) (Exit.jump l (λ_ _=>False) Q)) a w) (Exit.jump l (λ_ _=>False) Q)) a w) (Exit.jump l (λ_ _=>False) Q)) a w)
 (t:∀n a w,e n a w->rest.wp P (Exit.jump l (λg h=>∃c,c<n/\e c g h) Q) a w):(Code.scope (i.seq (j.seq (k.seq ((Code.label l).seq rest))))).wp P Q a w:=by
 have m:∀ {o:Code} {p q:Act->World->Prop} {a:Act} {w:World},o.wp P (Exit.then p (Exit.jump l (λ_ _=>False) Q)) a w->(∀a w,p a w->q a w)->o.wp P (Exit.then q (Exit.jump l (λa w=>∃n,e n a w) Q)) a w:=by
  intro o p q a w d v;refine wp_mono d ?_;intro f g h b;cases f with
  | normal=>exact v _ _ b
  | goto l'=>exact b.2.elim
  | exit id=>exact b
  | ret=>exact b
  | panic ch=>exact b
  | outgrown=>exact b
 refine wp_scope_jumps l (λa w=>∃n,e n a w) (λa w=>leastOf (λn=>e n a w)) u ?_ ?_
 ·refine wp_seq (m first λa w d=>wp_seq (m d λa w d=>wp_seq (m d λa w d=>wp_seq (wp_label ?_))))
  refine wp_mono (t s a w d) ?_;intro f g h b;cases f with
  | goto l'=>exact⟨b.1,let ⟨c,_,r⟩:=b.2;⟨c,r⟩⟩
  | normal=>exact b
  | exit id=>exact b
  | ret=>exact b
  | panic ch=>exact b
  | outgrown=>exact b
 ·intro a w x
  refine wp_seq (wp_skip ?_);refine wp_mono (t _ a w (leastOf_spec x).1) ?_;intro f g h b;cases f with
  | goto l'=>
    obtain⟨y,c,z,r⟩:=b;exact⟨y,⟨c,r⟩,Nat.lt_of_le_of_lt ((leastOf_spec ⟨c,r⟩).2 c r) z⟩
  | normal=>exact b
  | exit id=>exact b
  | ret=>exact b
  | panic ch=>exact b
  | outgrown=>exact b
theorem Oo(n:Int)(L: -9223372036854775808<=n/\n<=9223372036854775807)(w:World):
 Calls prog 219 #[int i64 n] w λk d=>∃r i,k=returned (.complex .f64 r i)/\Cz r i (KF n).1 (KF n).2/\Below w.heap.size w d:=by
 by_cases e:0<=n/\n<4096
 ·have f:KF n=((Sp.it n.toNat).x,(Sp.it n.toNat).y):=bu e
  rw[f];clear f;obtain⟨b,rfl⟩:=Int.eq_ofNat_of_zero_le e.1;rw[Int.toNat_natCast];have S:b<4096:=(by omega);clear L e;go_enter func219,ntmps219;go_wp2_with fail
  refine qC 0 (λn l d=>∃(a c:Nat) (o p q u8 s t u v x y z A C D E F G H:Value),(a<=b/\n=b-a/\w.heap.size<=c/\Sz (OG d c (Sp.it a))/\Sz (Below w.heap.size w d))/\
   l= { tmps:=#[int i64 b,undef,.complex .f64 0 0,pointer (some ⟨c,0,none⟩),int i64 a,o,p,q,u8,s,t,u,v,x,y,z,A,C,D,E,F,G,H],defers:=[] }) b rfl ?_ ?_
  ·go_wp2_with fail
   refine(Bg _).mono ?_;rintro k K ⟨c,rfl,m,I,J⟩;have j:=ae I;have g:=ae J;clear I J;go_wp2_with fail;exact⟨0,c,_,_,_,_,_,_,_,_,_,_,_,_,_,_,_,_,_,_,⟨by omega,by omega,m,j,g⟩,rfl⟩
  ·rintro n l wr ⟨a,c,o,p,q,u8,s,t,u,v,x,y,z,A,C,D,E,F,G,H,⟨T,rfl,m,j,g⟩,rfl⟩
   by_cases I:a=b
   ·have M:((a:Int) == (b:Int))=true:=by rw[I,beq_self_eq_true]
    obtain⟨N,O,U,V,J,P,K⟩:=j.o;have Q:=K.cell 0;simp at Q;have R:=ae J;clear J P K;go_wp2_with fail;simp only[Exit.jump];go_ret;exact⟨N,O,rfl,by rw[<-I];exact R.o,g.o⟩
   ·have M:((a:Int) == (b:Int))=false:=by rw[beq_eq_false_iff_ne];omega
    go_wp2_with fail;refine(KU c (Sp.it a) _ j.o (Om (by omega))).mono ?_;rintro k N ⟨⟨R,rfl⟩,J,K⟩;have O:=ae J
    have P:Sz (Below w.heap.size w N):=by
     refine g.o.trans ?_;exact((aC _ wr).grown K g.o.size (λU Q=>by simp at Q;omega))
    clear J K;go_wp2_with fail;go_step3;exact⟨rfl,b-(a+1),by omega,a+1,c,_,_,_,_,_,_,_,_,_,_,_,_,_,_,_,_,_,_,⟨by omega,by omega,m,O,P⟩,rfl⟩
 ·have f:KF n=(0,0):=bA e
  rw[f];clear f;go_enter func219,ntmps219;go_wp2_with fail;refine qC 0 (λn l d=>False) 0 rfl ?_ (λ_ _ _ h=>h.elim);by_cases a:n<0
  ·go_wp2_with fail
   simp only[Exit.jump];go_ret;exact⟨0,0,rfl,⟨jK,jK⟩,aC _ _⟩
  ·have b:4096<=n:=by omega
   clear e;go_wp2_with fail;simp only[Exit.jump];go_ret;exact⟨0,0,rfl,⟨jK,jK⟩,aC _ _⟩
def farI(x y u v:Int):Int:=(x-u)*(x-u)+(y-v)*(y-v)
theorem KV{x:Int}(a:x.natAbs<=10000):0<=x*x/\x*x<=100000000:=by
 have b:0<=x*x:=by
  rcases Int.le_total 0 x with a | a
  ·exact Int.mul_nonneg a a
  ·exact Int.mul_nonneg_of_nonpos_of_nonpos a a
 refine⟨b,?_⟩;have c:(x*x).natAbs<=10000*10000:=by rw[Int.natAbs_mul];exact bC a a
 omega
theorem Hl(d e f g:Nat)(x y u v:Int)(i:Cz d e x y)(j:Cz f g u v)(s:(x-u).natAbs<=10000)(t:(y-v).natAbs<=10000)(w:World):
 Calls prog 220 #[.complex .f64 d e,.complex .f64 f g] w λa b=>∃r,a=returned (.float .f64 r)/\Fz r (farI x y u v)/\w=b:=by
 have z:=KV s;have A:=KV t;obtain⟨G,H,k,b,c⟩:=RN i j (by omega) (by omega);obtain⟨I,l,m⟩:=ut b b (by omega);obtain⟨J,n,o⟩:=ut c c (by omega);obtain⟨K,p,q⟩:=AB m o (by omega);have C:=λa w=>run_complex_sum (P:=prog) w .sub (Or.inr rfl) a .f64 _ _ _ _ _ _ k;have D:=λa w=>run_float_arith (P:=prog) w .mul a .f64 _ _ _ l;have E:=λa w=>run_float_arith (P:=prog) w .mul a .f64 _ _ _ n;have F:=λa w=>run_float_arith (P:=prog) w .add a .f64 _ _ _ p;have a:=ae q;clear i j b c m o q k l n p z A;go_enter func220,ntmps220
 go_wp2_with (simp only[C,D,E,F])
 go_ret;exact⟨_,rfl,a.o,rfl⟩
theorem Gz(x:Nat)(a:Int)(w:World)(b:Fz x a):Calls prog 281 #[.float .f64 x] w λc d=>c=returned (bool false)/\d=w:=by
 have c:FloatKind.f64.format.order x x=some .eq:=by rw[Cr b b];simp
 go_enter func281,ntmps281;go_wp2_with fail;go_ret;exact⟨by first | rfl | (simp[c]),rfl⟩
theorem RI(b o n c:Nat)(x:Int)(a:x≠0)(w:World)(f:0<n)(g:w.cell? ⟨b,o,none⟩=some (int i64 x)):Calls prog 223 #[slice (some ⟨b,o,none⟩) n c] w λd e=>d=returned (int i64 x)/\e=w:=by
 have e:(0:Int)<(n:Int):=by omega
 have i:(x == 0)=false:=by rw[beq_eq_false_iff_ne];exact a
 go_enter func223,ntmps223;go_wp2_with fail;go_loopw [8] (λd wr=>d=int i64 0/\Sz (wr=w)) (λ_ _=>0)
 case atStart=>exact⟨rfl,ae rfl⟩
 case round=>
  obtain⟨rfl,d⟩:=hrel;obtain rfl:=d.o;go_wp2_with fail;go_ret;exact⟨rfl,rfl⟩
theorem ms01:[0,1].mergeSort leB=[0,1]:=by simp[mergeSort,leB]
theorem O8:Ao 2 (nW (tq 0 0))=[0,1]:=by
 unfold Ao;rw[show rZ (kV 2) (nW (tq 0 0))=2 by kernel_rfl];unfold BH;rw[bu (by kernel_rfl)];unfold chosen;rw[show(jR false (Int.toNat 2) (qh (kV 2) (nW (tq 0 0))) (Int.toNat ((2:Nat):Int))).take (Int.toNat ((2:Nat):Int))=[0,1] by kernel_rfl];exact ms01
theorem w_row(i:Int)(a:0<=i/\i<=65535):nG 1 1 4 0 i=yx 2 (Ao 2 (nW (tq 0 i))):=by
 unfold nG;rw[bu ⟨by decide,a⟩];rfl
theorem O9:ek 1 1 4 (0:Nat) (range 1)=true:=by
 have a:fK 1 1 4 (0:Nat) (range 1)=[[3,1],[1,1]]:=by
  show dD 1 1 1++[nG 1 1 4 0 0]=_;rw[w_row 0 (by omega),O8]
  kernel_rfl
 have b:(eT [[3,1],[1,1]]).length=2:=by kernel_rfl
 unfold ek;rw[a,b];rfl
theorem LD:(prog.info? 277).map (λa=>(a.zero,a.size,a.bytes))=some (some (.agg #[int i64 0,.float .f64 0]),2,16):=by kernel_rfl
def uU(s x:Nat):Rp:=Gg [int i64 s,.float .f64 x]
theorem Ri(L:SC)(F:Nat->Prop)(a:SE)(n c id:Nat)(w:World)(e:(rI L).ok w F [slice a n c])(b:L.length=n)(f:0<n):
 Calls prog 161 #[slice a n c,int i64 id] w λd g=>d=returned (int i64 (L.getD (id%n) 0:Nat))/\g=w:=by
 obtain⟨o,p,d,g,-⟩:=dY e b;injection d with j q k;subst j k;obtain⟨r,s,rfl,t,i⟩:=g.2 f;have l:id%n<n:=Nat.mod_lt _ f;have u:=i (id%n) _ (dh (by rw[b];exact l));have v:Int.tmod (id:Int) (n:Int)=((id%n:Nat):Int):=by rw[Int.tmod_eq_emod_of_nonneg (by omega)];rfl
 have x:((n:Int) == 0)=false:=by rw[beq_eq_false_iff_ne];omega
 have y:¬n=0:=by omega
 have z:¬(n:Int)=0:=by omega
 generalize id%n=m at*;have A:(m:Int)<(n:Int):=by omega
 clear e g i b;go_enter func161,ntmps161;go_wp2_with fail;go_ret;exact⟨rfl,rfl⟩
end Go.Proofs.YtgccllbnfngpcaaGreatDoor
namespace Go.Proofs
open Go.Shelf
def Tryz.laysFar_ren:Go.Shelf.Ren:=⟨fun | 6=>221 | 15=>121 | 14=>280 | 28=>193 | 29=>194 | 20=>341 | 21=>342 | 22=>343 | 23=>344 | 24=>345 | 25=>346 | 26=>347 | 27=>348 | 46=>377 | 47=>249 | 48=>250 | 49=>378 | 50=>379 | 57=>391 | n=>n,fun | 22=>272 | 24=>277 | 25=>281 | 3=>3 | 39=>181 | 0=>0 | 53=>31 | 55=>248 | 4=>4 | 46=>241 | 45=>240 | 50=>214 | 5=>5 | 9=>9 | 66=>310 | 70=>314 | 76=>374 | 77=>375 | n=>n,fun | n=>n⟩
theorem Tryz.laysFar:Go.Proofs.SlLaysF0.n6 prog Tryz.laysFar_ren:= {
 mixed:=by kernel_rfl
 f6:=⟨Tryz.f221.name,by decide,func221.trans (congrArg some (by kernel_rfl))⟩
 f14:=⟨Tryz.f280.name,by decide,func280.trans (congrArg some (by kernel_rfl))⟩
 f15:=func121.trans (congrArg some (by kernel_rfl))
 f20:=⟨Tryz.f341.name,by decide,func341.trans (congrArg some (by kernel_rfl))⟩
 f21:=⟨Tryz.f342.name,by decide,func342.trans (congrArg some (by kernel_rfl))⟩
 f22:=⟨Tryz.f343.name,by decide,func343.trans (congrArg some (by kernel_rfl))⟩
 f23:=⟨Tryz.f344.name,by decide,func344.trans (congrArg some (by kernel_rfl))⟩
 f24:=⟨Tryz.f345.name,by decide,func345.trans (congrArg some (by kernel_rfl))⟩
 f25:=⟨Tryz.f346.name,by decide,func346.trans (congrArg some (by kernel_rfl))⟩
 f26:=⟨Tryz.f347.name,by decide,func347.trans (congrArg some (by kernel_rfl))⟩
 f27:=⟨Tryz.f348.name,by decide,func348.trans (congrArg some (by kernel_rfl))⟩
 f28:=func193.trans (congrArg some (by kernel_rfl))
 f29:=func194.trans (congrArg some (by kernel_rfl))
 f46:=⟨Tryz.f377.name,by decide,func377.trans (congrArg some (by kernel_rfl))⟩
 f47:=func249.trans (congrArg some (by kernel_rfl))
 f48:=func250.trans (congrArg some (by kernel_rfl))
 f49:=⟨Tryz.f378.name,by decide,func378.trans (congrArg some (by kernel_rfl))⟩
 f50:=⟨Tryz.f379.name,by decide,func379.trans (congrArg some (by kernel_rfl))⟩
 f57:=⟨Tryz.f391.name,by decide,func391.trans (congrArg some (by kernel_rfl))⟩
 t0:=underlying0
 a0:=Tryz.isAgg0
 z0:=Tryz.sizeOf0
 v0:=Tryz.zeroValue0
 t3:=underlying3
 a3:=Tryz.isAgg3
 z3:=Tryz.sizeOf3
 v3:=Tryz.zeroValue3
 t4:=underlying4
 a4:=Tryz.isAgg4
 z4:=Tryz.sizeOf4
 v4:=Tryz.zeroValue4
 t5:=underlying5
 a5:=Tryz.isAgg5
 z5:=Tryz.sizeOf5
 v5:=Tryz.zeroValue5
 t9:=underlying9
 a9:=Tryz.isAgg9
 z9:=Tryz.sizeOf9
 v9:=Tryz.zeroValue9
 t22:=underlying272
 a22:=Tryz.isAgg272
 z22:=Tryz.sizeOf272
 v22:=Tryz.zeroValue272
 t25:=underlying281
 a25:=Tryz.isAgg281
 z25:=Tryz.sizeOf281
 v25:=Tryz.zeroValue281
 t39:=underlying181
 a39:=Tryz.isAgg181
 z39:=Tryz.sizeOf181
 v39:=Tryz.zeroValue181
 t45:=underlying240
 a45:=Tryz.isAgg240
 z45:=Tryz.sizeOf240
 v45:=Tryz.zeroValue240
 t46:=underlying241
 a46:=Tryz.isAgg241
 z46:=Tryz.sizeOf241
 v46:=Tryz.zeroValue241
 t50:=underlying214
 a50:=Tryz.isAgg214
 z50:=Tryz.sizeOf214
 v50:=Tryz.zeroValue214
 t53:=underlying31
 a53:=Tryz.isAgg31
 z53:=Tryz.sizeOf31
 v53:=Tryz.zeroValue31
 t55:=underlying248
 a55:=Tryz.isAgg248
 z55:=Tryz.sizeOf248
 v55:=Tryz.zeroValue248
 t66:=underlying310
 a66:=Tryz.isAgg310
 z66:=Tryz.sizeOf310
 v66:=Tryz.zeroValue310
 t70:=underlying314
 a70:=Tryz.isAgg314
 z70:=Tryz.sizeOf314
 v70:=Tryz.zeroValue314
 t76:=underlying374
 a76:=Tryz.isAgg374
 z76:=Tryz.sizeOf374
 v76:=Tryz.zeroValue374
 t77:=underlying375
 a77:=Tryz.isAgg375
 z77:=Tryz.sizeOf375
 v77:=Tryz.zeroValue375 }
end Go.Proofs
namespace Go.Proofs.YtgccllbnfngpcaaGreatDoor
open Go.RowKit _root_.Go.Proofs.Tryz List
open Value (int slice pointer bool)
open IntKind (i64)
open Ending (returned)
open Obj (cells)
section
open Go.RowKit Go.Lib Go.Sort
def uS(a b:Int):Int:=if a<b then-1 else if b<a then 1 else 0
theorem DK(x y:Nat)(a b:Int)(w:World)(e:Fz x a)(f:Fz y b):Calls prog 224 #[.float .f64 x,.float .f64 y] w λg c=>g=returned (int i64 (uS a b))/\c=w:=by
 have i:FloatKind.f64.format.order x y=some (compare a b):=by rw[Cr e f]
 have j:=ae λw=>Gz x a w e;have k:=ae λw=>Gz y b w f
 have l:(compare a b=.lt/\uS a b= -1)\/(compare a b=.gt/\uS a b=1)\/(compare a b=.eq/\uS a b=0):=by
  rcases Int.lt_trichotomy a b with h | h | h
  ·exact .inl ⟨by rw[Int.compare_eq_lt];exact h,by unfold uS;rw[bu h]⟩
  ·exact .inr (.inr ⟨by rw[Int.compare_eq_eq];exact h,by unfold uS;rw[bA (by omega),bA (by omega)]⟩)
  ·exact .inr (.inl ⟨by rw[Int.compare_eq_gt];omega,by unfold uS;rw[bA (by omega),bu h]⟩)
 clear e f;rcases l with⟨c,d⟩ | ⟨c,d⟩ | ⟨c,d⟩
 all_goals(
  rw[c] at i;rw[d];clear c d;go_enter func224,ntmps224;go_wp2_with fail;refine(j.o w).mono ?_;rintro g m ⟨rfl,rfl⟩;go_wp2_with fail;refine(k.o m).mono ?_;rintro g n ⟨rfl,rfl⟩;go_wp2_with fail;go_ret;exact⟨rfl,rfl⟩)
def DL(x y:Int):Int:=if x=0 then y else x
theorem Oy(x y:Int)(b o c:Nat)(w:World)(f:w.cell? ⟨b,o,none⟩=some (int i64 x))(k:w.cell? ⟨b,o+1,none⟩=some (int i64 y)):Calls prog 223 #[slice (some ⟨b,o,none⟩) 2 c] w λa d=>a=returned (int i64 (DL x y))/\d=w:=by
 by_cases d:x=0
 ·subst d
  rw[show DL 0 y=y from rfl];go_enter func223,ntmps223;go_wp2_with fail;go_loopw [8] (λe wr=>∃a:Nat,a<=2/\e=int i64 a/\Sz (a=2->y=0)/\Sz (wr=w)) (λe _=>2-(intOf e).toNat)
  case atStart=>exact⟨0,by omega,rfl,ae (λh=>by omega),ae rfl⟩
  case round=>
   obtain⟨a,l,rfl,g,i⟩:=hrel;obtain rfl:=i.o;have j:a=0\/a=1\/a=2:=(by omega);rcases j with rfl | rfl | rfl
   ·go_wp2_with fail
    go_roundw
    case rel=>exact⟨1,by omega,by first | rfl | go_num,ae (λh=>by omega),ae (by first | rfl | trivial)⟩
    case measure=>simp[intOf]
   ·by_cases e:y=0
    ·subst e
     go_wp2_with fail;go_roundw
     case rel=>exact⟨2,aj 2,rfl,ae (λ_=>by first | rfl | trivial),ae (by first | rfl | trivial)⟩
     case measure=>simp[intOf]
    ·have m:(y == 0)=false:=by rw[beq_eq_false_iff_ne];exact e
     go_wp2_with fail;go_ret;exact⟨rfl,rfl⟩
   ·obtain rfl:y=0:=g.o rfl
    go_wp2_with fail;go_ret;exact⟨rfl,rfl⟩
 ·rw[show DL x y=x by unfold DL;rw[bA d]]
  exact RI b o 2 c x d w (by omega) f
structure iJ where
 s:Nat
 x:Nat
 a:Int
 h:Fz x a
instance:Inhabited iJ:=⟨⟨0,0,0,jK⟩⟩
def kG(y:iJ):List Value:=[int i64 y.s,.float .f64 y.x]
def Bd(y z:iJ):Int:=DL (uS y.a z.a) (Lib.compareInt y.s z.s)
theorem KI(y z:iJ):ltOf Bd y z=decide (y.a<z.a\/(y.a=z.a/\y.s<z.s)):=by
 unfold ltOf Bd DL uS Lib.compareInt;by_cases d:y.a<z.a
 ·simp[d]
 ·by_cases f:z.a<y.a
  ·have a:¬y.a=z.a:=by omega
   simp[d,f,a]
  ·have a:y.a=z.a:=by omega
   by_cases c:(y.s:Int)<z.s
   ·have b:y.s<z.s:=by omega
    simp[a,c,b]
   ·have b:¬y.s<z.s:=by omega
    by_cases e:(z.s:Int)<y.s
    ·simp[a,c,b,e]
    ·simp[a,c,b,e]
theorem Q4:SWO (ltOf Bd) where
 irrefl x:=by rw[KI];simp
 trans x y z h1 h2:=by rw[KI] at*;simp at*;omega
 ntrans x y z h1 h2:=by rw[KI] at*;simp at*;omega
theorem Ha(s t x y:Nat)(a b:Int)(e:Fz x a)(f:Fz y b)(r:Int)(g:DL (uS a b) (Lib.compareInt s t)=r)(w:World):Calls prog 222 #[.agg #[int i64 s,.float .f64 x],.agg #[int i64 t,.float .f64 y]] w λc d=>c=returned (int i64 r)/\∃q i,d=grow (w.drewN q) i:=by
 have m:=ae λw=>DK x y a b w e f;have n:=ae λw=>Tryz.cmp_Compare_int s t w;have i:=ae λd j k w=>Oy (uS a b) (Lib.compareInt s t) d j k w;rw[g] at i;clear g e f;generalize uS a b=p at*;generalize Lib.compareInt s t=q at*;go_enter func222,ntmps222;go_upto_region 1 with fail;have d:(w.alloc (cells #[int i64 s,.float .f64 x] 277)).heap.size=w.heap.size+1:=by simp
 have j:=ae ((Blk.new w 277 #[int i64 s,.float .f64 x]).alloc (cells #[int i64 t,.float .f64 y] 277));have k:Sz (Blk ((w.alloc (cells #[int i64 s,.float .f64 x] 277)).alloc (cells #[int i64 t,.float .f64 y] 277)) (w.heap.size+1) 277 #[int i64 t,.float .f64 y]):=ae (by rw[<-d];exact Blk.new _ _ _);clear d;generalize l:(w.alloc (cells #[int i64 s,.float .f64 x] 277)).alloc (cells #[int i64 t,.float .f64 y] 277)=d at*;have o:=ae l;clear l;have u:d.cell? ⟨w.heap.size,0,none⟩=some (int i64 s):=j.o.cell 0;have v:d.cell? ⟨w.heap.size,1,none⟩=some (.float .f64 x):=j.o.cell 1;have z:d.cell? ⟨w.heap.size+1,0,none⟩=some (int i64 t):=k.o.cell 0;have A:d.cell? ⟨w.heap.size+1,1,none⟩=some (.float .f64 y):=k.o.cell 1
 go_region_law (first
  | (go_simp;go_at_call 224;refine(m.o _).mono ?_;rintro c l ⟨rfl,rfl⟩;go_simp)
  | (go_simp;go_at_call 225;refine(n.o _).mono ?_;rintro c l ⟨rfl,rfl⟩;go_simp)
  | (go_simp;go_at_call 223;refine(i.o _ _ _ _ (by first | exact fe _ _ _ 0 | (go_simp;done)) (by first | exact fe _ _ _ 1 | (go_simp;done))).mono ?_;rintro c l ⟨rfl,rfl⟩;go_simp))
 all_goals(
  go_simp;go_wp2_with fail;go_ret;exact⟨rfl,1,_,by rw[<-o.o,alloc_eq_grow,alloc_eq_grow,alloc_eq_grow,grow_grow,grow_grow];rfl⟩)
theorem KJ(y z:iJ)(w:World):Calls prog 222 #[.agg #[int i64 y.s,.float .f64 y.x],.agg #[int i64 z.s,.float .f64 z.x]] w λa b=>a=returned (int i64 (Bd y z))/\∃q a,b=grow (w.drewN q) a:=
 Ha y.s z.s y.x z.x y.a z.a y.h z.h _ rfl w
theorem Q5:∀w,(isAgg (Tryz.laysFar_ren.t 24)).run prog w=.ok true w:=λw=>Tryz.isAgg277 w
theorem Oz:∀w,(Go.sizeOf (Tryz.laysFar_ren.t 24)).run prog w=.ok 2 w:=λw=>Tryz.sizeOf277 w
def RowF(w:World)(g:Nat)(b:List iJ):Prop:=g<w.heap.size/\∀a,a<b.length->w.cell? ⟨g,a*2,none⟩=some (int i64 (b.getD a default).s)/\w.cell? ⟨g,a*2+1,none⟩=some (.float .f64 (b.getD a default).x)
theorem RowF.below{w w':World}{g:Nat}{d:List iJ}(a:RowF w g d)(c:Below w.heap.size w w'):RowF w' g d:=
 ⟨aW a.1 c.size,λb e=>⟨(c.cell (p:=⟨g,b*2,none⟩) a.1).trans (a.2 b e).1,(c.cell (p:=⟨g,b*2+1,none⟩) a.1).trans (a.2 b e).2⟩⟩
theorem QE(a:List iJ){t:Nat}(c:t<a.length*2):(flatK kG 2 a.toArray)[t]! =(kG (a.getD (t/2) default))[t%2]! :=by
 rw[get_flatK _ _ _ _ (by simpa using c)];congr 2;have b:t/2<a.length:=by omega
 rw[getElem!_pos a.toArray (t/2) (by simpa using b),af,ah b];simp
theorem Hd{w:World}{g:Nat}{b:List iJ}(e:HoldsK kG 2 w g 0 b.toArray)(h:g<w.heap.size):RowF w g b:=by
 refine⟨h,λa i=> ?_⟩;have f:(flatK kG 2 b.toArray).size=b.length*2:=by simp
 have c:=(e (a*2) (by rw[f];omega)).1;have d:=(e (a*2+1) (by rw[f];omega)).1;rw[QE b (by omega)] at c d;rw[Nat.zero_add] at c d;rw[show a*2/2=a by omega,show a*2%2=0 by omega] at c;rw[show(a*2+1)/2=a by omega,show(a*2+1)%2=1 by omega] at d;exact⟨c,d⟩
theorem He{w:World}{g n:Nat}{b:Array Value}{c:List iJ}(f:Blk w g 277 b)(k:c.length=n)(j:∀i,i<n->b[i*2]? =some (int i64 (c.getD i default).s)/\b[i*2+1]? =some (.float .f64 (c.getD i default).x)):HoldsK kG 2 w g 0 c.toArray:=by
 intro a d;have d:a<c.length*2:=by simpa using d
 rw[Nat.zero_add];refine⟨?_,f.frozen a⟩;rw[f.cell,QE c d];have h:=j (a/2) (by omega);rcases Nat.mod_two_eq_zero_or_one a with e | e
 ·rw[e,show b[a]? =b[a/2*2]? by congr 1;omega,h.1];rfl
 ·rw[e,show b[a]? =b[a/2*2+1]? by congr 1;omega,h.2];rfl
theorem Hf(a:List iJ)(g n c:Nat)(w:World)(k:HoldsK kG 2 w g 0 a.toArray)(d:g<w.heap.size)(r:a.length=n)(x:n<=1000):
 Calls prog 221 #[slice (some ⟨g,0,none⟩) n c,.func (.func 222) #[] #[]] w λl e=>l=returned (.tuple #[])/\∃b:List iJ,b.Perm a/\RowF e g b/\∀C,C<=g->Below C w e:=by
 have f:a.toArray.size=n:=by simpa using r
 have h:=AnyQ.slices_SortFunc Tryz.laysFar 2 Q5 Oz kG (λ_=>rfl) (λj m i=>by simp[kG] at i;rcases i with rfl | rfl <;> rfl) Bd Q4 222 #[] g 0 c a.toArray w (enters_of func222 (by kernel_rfl) rfl) (λo i p q j m=>by rw[Array.append_empty];exact KJ j m _) k d (by rw[f];omega);rw[f] at h;change Calls prog 221 _ _ _ at h;refine h.mono ?_;rintro l e ⟨rfl,b,m,i,o,-,rfl⟩;have p:b.size=a.toArray.size:=o.1
 have s:b.toList.Perm a:=by
  have j:=o.2.2;rw[<-f] at j;have t:b.extract 0 a.toArray.size=b:=(by rw[<-p];simp);have u:a.toArray.extract 0 a.toArray.size=a.toArray:=(by simp);rw[t,u] at j;simpa using j
 refine⟨rfl,b.toList,s,?_,λC y=> ?_⟩
 ·have q:=holdsK_sortWorldK kG 2 w g 0 m a.toArray b i d k p
  exact Hd (by simpa using q) (lt_sortWorldK kG 2 w g 0 m b i d)
 ·refine⟨rfl,rfl,rfl,?_,λv q=> ?_⟩
  ·unfold sortWorldK putRowK;simp
  ·unfold sortWorldK putRowK
   rw[heap_grow_old _ _ (by have:g<w.heap.size:=d;simp;omega)];have:g≠v:=(by omega);simp[putRow,mapBlock,Sort.ahead,Array.getElem?_modify,this]
theorem rD(P:Program)(w:World)(a:Addr)(m:Mode)(k:FloatKind)(x:Nat):(store a (.float k x) m).run P w=stored P w a (.float k x) m:=run_store P w a _ m rfl
attribute [local go_sem] rD
theorem OA{w:World}{C:Nat}{v:Value}{a:List iJ}(j:OwnS w C 277 2 (λ_=>False) v (a.map λb=>uU b.s b.x))(u:0<a.length):∃g c,v=slice (some ⟨g,0,none⟩) a.length c/\C<=g/\g<w.heap.size/\HoldsK kG 2 w g 0 a.toArray:=by
 have l:=j.lt;obtain⟨d,f,m⟩:=j;rw[aG] at f;have x:d.length=a.length*2:=f.1;rcases f.2 with⟨_,o⟩ | ⟨g,p,y,rfl,q,r,_,_,z,s⟩
 ·exact absurd o (by omega)
 ·refine⟨g,p,rfl,q,(l g rfl).2,He (n:=a.length) r rfl λb t=> ?_⟩
  have k:=(m b (uU (a.getD b default).s (a.getD b default).x) (by rw[List.getElem?_map,af,ah t];rfl)).1
  have h:d[b*2]? =some (int i64 (a.getD b default).s):=by
   have e:((d.drop (b*2)).take 2)[0]? =some (int i64 (a.getD b default).s):=(by rw[k];rfl);rw[List.getElem?_take,bu (by omega),List.getElem?_drop] at e;exact e
  have i:d[b*2+1]? =some (.float .f64 (a.getD b default).x):=by
   have e:((d.drop (b*2)).take 2)[1]? =some (.float .f64 (a.getD b default).x):=(by rw[k];rfl);rw[List.getElem?_take,bu (by omega),List.getElem?_drop] at e;exact e
  rw[<-s] at h i;rw[List.getElem?_take,bu (by omega),Array.getElem?_toList] at h i;exact⟨h,i⟩
theorem Be{L:SC}{n:Nat}(a:∀x∈L,x<n)(b:L.Nodup):L.length<=n:=by
 have c:=List.Nodup.length_le_of_subset b (l₂:=range n) λx d=>bG.2 (a x d)
 rwa [bg] at c
theorem zH{k:Nat}(b:k<64):(KF (k:Nat)).1.natAbs<=100/\(KF (k:Nat)).2.natAbs<=100:=by
 have c:∀a:Fin 64,(KF ((a.val:Nat):Int)).1.natAbs<=100/\(KF ((a.val:Nat):Int)).2.natAbs<=100:=by decide +kernel
 exact c ⟨k,b⟩
end
section
open Go.RowKit Go.Lib Go.Sort
attribute [local go_sem] rD
def lu(S:SC):Array Value:=((range 64).map λa=>Value.bool (decide (a∈S))).toArray
theorem tT(S:SC){x:Nat}(a:x<64):(lu S)[x]? =some (bool (decide (x∈S))):=by
 unfold lu;rw[List.getElem?_toArray,List.getElem?_map,List.getElem?_range a];rfl
theorem IV(S:SC){x:Nat}(g:x<64):(lu S).setIfInBounds x (bool true)=lu (S++[x]):=by
 have b:∀S,(lu S).size=64:=λS=>by unfold lu;simp
 apply Array.ext (by rw[Array.size_setIfInBounds,b,b]);intro a h c;rw[b] at c;have e:(lu (S++[x]))[a]? =some (bool (decide (a∈S++[x]))):=tT _ c;have i:(lu S)[a]? =some (bool (decide (a∈S))):=tT _ c
 have f:((lu S).setIfInBounds x (bool true))[a]? =some (bool (decide (a∈S++[x]))):=by
  by_cases d:x=a
  ·subst d
   rw[Array.getElem?_setIfInBounds_self_of_lt (by rw[b];exact g)];simp
  ·rw[Array.getElem?_setIfInBounds_ne d,i]
   have j:¬a=x:=λk=>d k.symm;simp[j]
 rw[Array.getElem?_eq_getElem h] at f;rw[Array.getElem?_eq_getElem (by rw[b];exact c)] at e;exact Option.some.inj (f.trans e.symm)
theorem Eu(o i:Nat)(L:SC)(F:Nat->Prop)(a:SE)(n c:Nat)(w:World)(hx:(rI L).ok w F [slice a n c])(P:L.length=n)(ho:o<=16777215)(hi:i<8)(Q:∀x∈L,x<64)(S:L.Nodup)(aE:0<n):
 Calls prog 159 #[int i64 o,int i64 i,slice a n c] w λg b=>∃v d,g=returned v/\d.Perm L/\OwnI b w.heap.size v d/\Below w.heap.size w b:=by
 have e:Sz (Sx w w [eR F (slice a n c) (rI L)]):=ae ((Sx.nil w).add (eR F (slice a n c) (rI L)) hx);have aF:n<=64:=by rw[<-P];exact Be Q S
 obtain⟨q,r⟩:∃q,q=(8*o+i)%64:=⟨_,rfl⟩;have T:q<64:=by omega
 have aK:Int.tmod (8*(o:Int)+(i:Int)) 64=(q:Int):=by rw[Int.tmod_eq_emod_of_nonneg (by omega)];omega
 have U:=ae λ(b:Nat) (d:b<64) w=>Oo (b:Nat) (by omega) w;have CF:=ae λ(b:Nat) (d:b<64) (f j k m:Nat) (l:Cz f j (KF (b:Nat)).1 (KF (b:Nat)).2) (s:Cz k m (KF (q:Nat)).1 (KF (q:Nat)).2) w=>Hl f j k m _ _ _ _ l s (by have h3:=zH d;have h4:=zH T;omega) (by have h3:=zH d;have h4:=zH T;omega) w;have aL:¬(16777215:Int)<(o:Int):=by omega
 have aM:¬(o:Int)<0:=by omega
 have aR:¬(8:Int)<=(i:Int):=by omega
 have aS:¬(i:Int)<0:=by omega
 have G:=ae P;have aq:=ae Q;have au:=ae S;clear hx P Q S r;go_enter func159,ntmps159;go_wp2_with fail;refine(U.o q T w).mono ?_;rintro g w1 ⟨r0,i0,rfl,d,r⟩;have S1:=ae (e.o.step r);have ac:=ae d;clear d r e;go_upto_region 6 with fail;have V:=ae (Blk.new w1 273 (#[bool false,bool false,bool false,bool false,bool false,bool false,bool false,bool false,bool false,bool false,bool false,bool false,bool false,bool false,bool false,bool false,bool false,bool false,bool false,bool false,bool false,bool false,bool false,bool false,bool false,bool false,bool false,bool false,bool false,bool false,bool false,bool false,bool false,bool false,bool false,bool false,bool false,bool false,bool false,bool false,bool false,bool false,bool false,bool false,bool false,bool false,bool false,bool false,bool false,bool false,bool false,bool false,bool false,bool false,bool false,bool false,bool false,bool false,bool false,bool false,bool false,bool false,bool false,bool false]:Array Value));have ad:Sz (Below w1.heap.size w1 (w1.alloc (cells #[bool false,bool false,bool false,bool false,bool false,bool false,bool false,bool false,bool false,bool false,bool false,bool false,bool false,bool false,bool false,bool false,bool false,bool false,bool false,bool false,bool false,bool false,bool false,bool false,bool false,bool false,bool false,bool false,bool false,bool false,bool false,bool false,bool false,bool false,bool false,bool false,bool false,bool false,bool false,bool false,bool false,bool false,bool false,bool false,bool false,bool false,bool false,bool false,bool false,bool false,bool false,bool false,bool false,bool false,bool false,bool false,bool false,bool false,bool false,bool false,bool false,bool false,bool false,bool false] 273))):=ae ((aC w1.heap.size w1).alloc (aj _) _);have e:(w1.alloc (cells #[bool false,bool false,bool false,bool false,bool false,bool false,bool false,bool false,bool false,bool false,bool false,bool false,bool false,bool false,bool false,bool false,bool false,bool false,bool false,bool false,bool false,bool false,bool false,bool false,bool false,bool false,bool false,bool false,bool false,bool false,bool false,bool false,bool false,bool false,bool false,bool false,bool false,bool false,bool false,bool false,bool false,bool false,bool false,bool false,bool false,bool false,bool false,bool false,bool false,bool false,bool false,bool false,bool false,bool false,bool false,bool false,bool false,bool false,bool false,bool false,bool false,bool false,bool false,bool false] 273)).heap.size=w1.heap.size+1:=by simp
 generalize d:(#[bool false,bool false,bool false,bool false,bool false,bool false,bool false,bool false,bool false,bool false,bool false,bool false,bool false,bool false,bool false,bool false,bool false,bool false,bool false,bool false,bool false,bool false,bool false,bool false,bool false,bool false,bool false,bool false,bool false,bool false,bool false,bool false,bool false,bool false,bool false,bool false,bool false,bool false,bool false,bool false,bool false,bool false,bool false,bool false,bool false,bool false,bool false,bool false,bool false,bool false,bool false,bool false,bool false,bool false,bool false,bool false,bool false,bool false,bool false,bool false,bool false,bool false,bool false,bool false]:Array Value)=cs at*;obtain rfl:cs=lu (L.take 0):=by rw[<-d,take_zero];rfl
 clear d;generalize w1.alloc (cells (lu (L.take 0)) 273)=s at*;obtain⟨d,H⟩:∃d,d=w1.heap.size:=⟨_,rfl⟩;rw[<-H] at V e ⊢;have av:Sz (w1.heap.size<=d):=ae (by omega);have I:Sz (s.heap.size=d+1/\w1.heap.size<=s.heap.size):=ae (by omega);have ag:Sz (OwnS s s.heap.size 277 2 (λ_=>False) (slice none 0 0) (([]:List iJ).map λy=>uU y.s y.x)):=ae (OwnS.nil _ _ _ _ _);clear H e;go_wp2_with fail;go_loopw [8,37] (λv i wr=>∃(b:Nat) (f:List iJ),b<=n/\i=int i64 b/\Sz (f.map iJ.s=L.take b)/\Sz (OwnS wr s.heap.size 277 2 (λ_=>False) v (f.map λy=>uU y.s y.x))/\Sz (Blk wr d 273 (lu (L.take b)))/\Sz (Below w1.heap.size w1 wr)) (λ_ i _=>n-(intOf i).toNat)
 case atStart=>exact⟨0,[],by omega,rfl,ae rfl,ag,V,ad⟩
 case round=>
  clear ag V ad;obtain⟨b,f,aT,rfl,t,u,z,J⟩:=hrel;have K:=ae (S1.o.step J.o);obtain⟨a8,j,W,rfl⟩:=u.o.sl;by_cases ak:b<n
  ·have aw:(b:Int)<(n:Int):=by omega
   have m:b<L.length:=(by rw[G.o];exact ak);obtain⟨a',c',g,e,-⟩:=dY (K.o.rep 0 rfl) G.o;injection g with e1 X Y;subst e1 Y;obtain⟨A,o',rfl,r,E⟩:=e.2 (by omega);have Z:=E b (int i64 (L.getD b 0:Nat)) (dh m);have M:L.getD b 0<64:=aq.o _ (by rw[af,ah m];exact aQ m);have D:Sz (L.take (b+1)=L.take b++[L.getD b 0]):=ae (by rw[aO m,af,ah m];rfl)
   have O:L.getD b 0∉L.take b:=λk=>by
    have l:(L.take (b+1)).Nodup:=List.Nodup.sublist (take_sublist _ _) au.o;rw[D.o,nodup_append] at l;exact l.2.2 _ k _ (mem_singleton.2 rfl) rfl
   generalize L.getD b 0=x at*;have aA:(x:Int)<64:=(by omega);have aB:(0:Int)<=(x:Int):=(by omega);have d0:wr.cell? ⟨d,x,none⟩=some (bool false):=(z.o.cell x).trans (by rw[tT _ M,decide_eq_false O]);have f0:wr.frozen? ⟨d,x,none⟩=false:=z.o.frozen x;have H:w1.heap.size<=d:=av.o;have k:Sz (Below w1.heap.size w1 (wr.setCell ⟨d,x,none⟩ (bool true))):=ae (J.o.setCell (p:=⟨d,x,none⟩) H _);have N:Sz (Blk (wr.setCell ⟨d,x,none⟩ (bool true)) d 273 (lu (L.take (b+1)))):=ae (by rw[D.o,<-IV _ M];exact z.o.set x (bool true));have ab:Sz (OwnS (wr.setCell ⟨d,x,none⟩ (bool true)) s.heap.size 277 2 (λ_=>False) (slice a8 j W) (f.map λy=>uU y.s y.x)):=ae (u.o.keepAt (λA r=>bJ _ _ _ A λg=>Ty.ne2 g (u.o.ownTy A r) (Blk.ty z.o) (by decide)) λA r _ _=>r.elim);clear J z u E e K O m;go_wp2_with fail;clear Z d0 f0;generalize wr.setCell ⟨d,x,none⟩ (bool true)=w3 at*;refine(U.o x M w3).mono ?_;rintro g E ⟨rk,ik,rfl,O,e⟩;have an:=ae O;have Z:=ae (k.o.trans (e.mono k.o.size));have aa:=ae (N.o.below e N.o.lt);have al:=ae (ab.o.new e);clear O e k N ab;go_wp2_with fail;refine(CF.o x M rk ik r0 i0 an.o ac.o E).mono ?_;rintro g k ⟨e,rfl,N,rfl⟩;have ao:Sz ((f++[(⟨x,e,_,N⟩:iJ)]).map iJ.s=L.take (b+1)):=ae (by rw[aU,t.o,D.o];rfl);have am:Sz ((f++[(⟨x,e,_,N⟩:iJ)]).map (λy=>uU y.s y.x)=f.map (λy=>uU y.s y.x)++[uU x e]):=ae (by rw[aU];rfl);generalize f++[(⟨x,e,_,N⟩:iJ)]=d5 at*;have ap:s.heap.size<=E.heap.size:=by have:=aa.o.lt;have:=I.o;omega
   have O:(f.map λy=>uU y.s y.x).length<=1000000:=by
    have l:=congrArg List.length t.o;rw[aG,aH] at l;rw[aG];omega
   have HR:Sz ((uU x e).ok E (λA=>False/\some A≠(Value.slice a8 j W).ownBlock) [int i64 x,.float .f64 e]):=ae (uf (by intro aD hu;simp at hu;rcases hu with rfl | rfl <;> rfl));clear N t;generalize (f.map λy=>uU y.s y.x)=LL at*
   go_wp2_with (at_builtin;refine iA (w:=E) (w1:=E) rfl _ _ rfl underlying272 LD rfl (by decide) (by decide) al.o (aC _ _) ap O (R:=uU x e) HR.o rfl rfl rfl ?_)
   intro v6 w6 N ab;rw[<-am.o] at N;have ax:=ae N;have ay:=ae (Z.o.trans (ab.mono (by have:=Z.o.size;have:=I.o;omega)));have az:Sz (Blk w6 d 273 (lu (L.take (b+1)))):=ae ((ab.block d (by have:=I.o;omega)).trans aa.o);obtain⟨a6,n6,c6,rfl⟩:=N.sl;clear N ab al aa Z HR O am;go_wp2_with fail;go_roundw
   case rel=>exact⟨b+1,d5,by omega,by go_num,ao,ax,az,ay⟩
   case measure=>simp[intOf];omega
  ·obtain rfl:b=n:=by omega
   have A:f.length=b:=by
    have l:=congrArg List.length t.o;rw[aG,aH,G.o] at l;omega
   have N:Sz (f.map iJ.s=L):=ae (by rw[t.o,aN (by rw[G.o];exact aj _)]);obtain⟨g2,c2,X,M,e,E⟩:=OA u.o (by omega);rw[A] at X;injection X with Y e4 e5;subst Y e4 e5;have Z:=ae (Hf f g2 j W wr E e A (by omega));have ax:Sz (w.heap.size<=g2):=ae (by have:=S1.o.1.size;have:=I.o.2;omega);clear u J E M e U CF ac z t;go_wp2_with fail;refine Z.o.mono ?_;rintro g k ⟨rfl,e,E,aa,ab⟩;have ay:=ae aa;have az:Sz ((e.map iJ.s).Perm L):=ae (by have h:=E.map iJ.s;rwa [N.o] at h);have aA:e.length=j:=E.length_eq.trans A;have M:=ae (K.o.1.trans (ab _ ax.o));have al:Sz (OwnI k k.heap.size (slice none 0 0) ((e.map iJ.s).take 0)):=ae (OwnI.nil _ _);have am:=ae (aC k.heap.size k);clear ab Z K aa E N A;go_wp2_with fail;go_loopw [12,69] (λv i wr=>∃b:Nat,b<=j/\i=int i64 b/\Sz (OwnI wr k.heap.size v ((e.map iJ.s).take b))/\Sz (Below k.heap.size k wr)) (λ_ i _=>j-(intOf i).toNat)
   case atStart=>exact⟨0,by omega,rfl,al,am⟩
   case round=>
    clear al am;obtain⟨b,aV,rfl,A,E⟩:=hrel;obtain⟨a7,n7,c7,rfl⟩:=A.o.sl;by_cases ak:b<j
    ·have aw:(b:Int)<(j:Int):=by omega
     have N:=(ay.o.below E.o).2 b (by omega);have ap:=N.1;have aB:=N.2
     have D:Sz ((e.map iJ.s).take (b+1)=(e.map iJ.s).take b++[(e.getD b default).s]):=ae (by
      have m:b<(e.map iJ.s).length:=(by rw[aG];omega);rw[aO m,getElem_map,af,ah (by omega)];rfl)
     have O:((e.map iJ.s).take b).length<=1000000:=(by rw[aH];omega);generalize (e.getD b default).s=y at*;generalize (e.getD b default).x=Z at*;generalize (e.map iJ.s).take b=LL at*;have aa:=(aC wr.heap.size wr).alloc (aj _) (cells #[int i64 y,.float .f64 Z] 277);have an:=ae (Blk.new wr 277 #[int i64 y,.float .f64 Z]);have ao:=ae (A.o.below aa);have ab:=ae (E.o.trans (aa.mono E.o.size));have aD:=ab.o.size;clear aa N A E;go_upto_region 18 with fail;clear ap aB;generalize wr.alloc (cells #[int i64 y,.float .f64 Z] 277)=w7 at*;have z0:w7.cell? ⟨wr.heap.size,0,none⟩=some (int i64 y):=an.o.cell 0
     go_wp2_with (at_builtin;refine l5 (w:=w7) (C:=k.heap.size) (y:=y) rfl _ _ rfl rfl ao.o aD O rfl rfl ?_)
     intro v9 w9 N aa;rw[<-D.o] at N;have ap:=ae N;have aB:=ae (ab.o.trans aa);clear N aa ao ab an z0;obtain⟨N,n9,c9,rfl⟩:=ap.o.sl;go_wp2_with fail;go_roundw
     case rel=>exact⟨b+1,by omega,by go_num,ap,aB⟩
     case measure=>simp[intOf];omega
    ·obtain rfl:b=j:=by omega
     have m:Sz ((e.map iJ.s).take b=e.map iJ.s):=ae (aN (by rw[aG,aA];exact aj _));rw[m.o] at A;go_wp2_with fail;go_ret;exact⟨_,_,rfl,az.o,A.o.base M.o.size,M.o.trans (E.o.mono M.o.size)⟩
end
