import Derived.Test.YtgccllbnfngpcaaGreatDoorW14
import Derived.Shelf.SlSortCmp.WholeK
import Derived.Test.YtgccllbnfngpcaaGreatDoorChecked
set_option linter.unusedVariables false
set_option maxRecDepth 100000
set_option maxHeartbeats 400000000
namespace Go.Proofs.YtgccllbnfngpcaaGreatDoor
open Go.RowKit _root_.Go.Proofs.Tryz List
open Value (int slice pointer bool)
open IntKind (i64)
open Ending (returned)
open Obj (cells)
section
variable {B:Nat}
def iZ(p g:Nat)(x:Nat->Value):Array Value:=#[pointer (some ⟨p,0,none⟩),pointer (some ⟨g,0,none⟩)]++((range 64).map x).toArray
theorem NF(p g:Nat):su p g=iZ p g λ_=>pointer none:=by
 unfold su iZ;congr 1
theorem jS{w:World}{a p g:Nat}{x:Nat->Value}(b:Blk w a 80 (iZ p g x)):w.cell? ⟨a,0,none⟩=some (pointer (some ⟨p,0,none⟩))/\w.cell? ⟨a,1,none⟩=some (pointer (some ⟨g,0,none⟩)):=
 ⟨(Blk.cell b 0).trans (by simp[iZ]),(Blk.cell b 1).trans (by simp[iZ])⟩
theorem K8(r p g n c:Nat)(x:Nat->Value)(e:ByteArray)(a:PK)(l:Int->Prop)(Q:World->Prop)(w:World)(m:Blk w r 80 (iZ p g x))
 (s:∀W,Below w.heap.size w W->Calls prog 51 #[pointer (some ⟨g,0,none⟩),.string e,slice a n c] W λj b=>∃E,j=returned (int i64 E)/\ChgT W b/\((l E/\Below W.heap.size W b)\/(E=0/\Q b))):
 Calls prog 29 #[pointer (some ⟨r,0,none⟩),.agg (ji 1 e (slice a n c))] w λj b=>∃E,j=returned (.agg (eH E (slice none 0 0)))/\ChgT w b/\((l E/\Below w.heap.size w b)\/(E=0/\Q b)):=by
 obtain⟨b,f⟩:∃b,b=(w.alloc (cells (ji 1 e (slice a n c)) 33)).alloc (cells (eH 0 (slice none 0 0)) 40):=⟨_,rfl⟩;have i:(w.alloc (cells (ji 1 e (slice a n c)) 33)).heap.size=w.heap.size+1:=by simp
 have d:PH (Below w.heap.size w b):=ae (by rw[f];exact((az _ _).alloc (aj _) _).alloc (by simp) _);have z:PH (Blk b w.heap.size 33 (ji 1 e (slice a n c))):=ae (by rw[f];exact(Blk.new w _ _).alloc _);have o:PH (Blk b (w.heap.size+1) 40 (eH 0 (slice none 0 0))):=ae (by rw[f,<-i];exact Blk.new _ _ _);have A:=ae (m.below d.o m.lt);have C:=ae (s b.drew (d.o.trans ((az _ b).drew.mono d.o.size)));have k:=ae f;obtain⟨R,S⟩:=jS A.o;unfold ji eH at*;obtain⟨T,U,V,m3,X,Y,Z,m7,m8⟩:=rL z.o;obtain⟨D,F,G,H,I,J,K,L⟩:=bY o.o;clear m s i f;go_enter func29,ntmps29;go_upto_region 1 with fail;rw[<-k.o];clear k;go_upto_region 3 with fail
 go_region_law (go_simp
                go_at_call 51;refine C.o.mono ?_;rintro j f ⟨E,rfl,k,q⟩;have i:=ae (Blk.chgT (Blk.drew o.o) k (Mt.not (Blk.ty (Blk.drew o.o)) (by decide) (by decide) (by decide)));have t:=ae q;have u:=ae ((ChgT.below d.o).trans ((ChgT.below (az _ b).drew).trans k));have M:=i.o.frozen 0;have v:=i.o.cell 0;clear k q;go_simp)
 all_goals(
  go_simp;have k:PH (Blk (f.setCell ⟨w.heap.size+1,0,none⟩ (int i64 E)) (w.heap.size+1) 40 #[int i64 E,slice none 0 0,slice none 0 0,int i64 0,int i64 0,int i64 0,slice none 0 0,int i64 0]):=ae (by simpa using i.o.set 0 (int i64 E));have N:PH (ChgT w (f.setCell ⟨w.heap.size+1,0,none⟩ (int i64 E))):=ae (Chg.set u.o ⟨w.heap.size+1,0,none⟩ _ λh=>absurd (show w.heap.size+1<w.heap.size from h) (by omega))
  have O:PH ((l E/\Below w.heap.size w (f.setCell ⟨w.heap.size+1,0,none⟩ (int i64 E)))\/(E=0/\Q (f.setCell ⟨w.heap.size+1,0,none⟩ (int i64 E)))):=ae (by
   rcases t.o with⟨P,q⟩ | ⟨y,q⟩
   ·exact .inl ⟨P,(d.o.trans (((az _ b).drew.trans q).mono d.o.size)).setCell (p:=⟨w.heap.size+1,0,none⟩) (by show w.heap.size<=w.heap.size+1;omega) _⟩
   ·refine .inr ⟨y,?_⟩
    subst y;rw[lf i.o (by rfl)];exact q)
  clear D F G H I J K L v M i u t;generalize f.setCell ⟨w.heap.size+1,0,none⟩ (int i64 E)=w2 at*;obtain⟨v,q1,q2,q3,q4,q5,q6,q7⟩:=bY k.o
  go_wp2_with (change wpList _ _ _ (Oper.mk none (Op.store 40 _ _) _ _ _ _ :: _) _ _;refine wpList_store_row rfl 40 _ _ rfl (w.heap.size+1) #[int i64 E,slice none 0 0,slice none 0 0,int i64 0,int i64 0,int i64 0,slice none 0 0,int i64 0] rfl rfl 40 _ k.o (by kernel_rfl) rfl (by kernel_rfl) ?_)
  rw[eT k.o];go_wp2_with fail
  (try simp only[Exit.inBlock,Exit.then])
  refine bodyPost_ret (results_cell_row rfl _ _ (w.heap.size+1) 40 #[int i64 E,slice none 0 0,slice none 0 0,int i64 0,int i64 0,int i64 0,slice none 0 0,int i64 0] (0,0) _ rfl k.o underlying40 rfl (by kernel_rfl)) rfl ?_;exact⟨E,rfl,N.o,O.o⟩)
theorem K9(n p g:Nat)(x:Nat->Value)(c:ByteArray)(j:Int->Prop)(Q:World->Prop)(w:World)(k:Blk w n 80 (iZ p g x))
 (o:∀W,Below w.heap.size w W->Calls prog 53 #[pointer (some ⟨g,0,none⟩),.string c] W λf a=>∃E,f=returned (int i64 E)/\ChgT W a/\((j E/\Below W.heap.size W a)\/(E=0/\Q a))):
 Calls prog 29 #[pointer (some ⟨n,0,none⟩),.agg (ji 3 c (slice none 0 0))] w λf a=>∃E,f=returned (.agg (eH E (slice none 0 0)))/\ChgT w a/\((j E/\Below w.heap.size w a)\/(E=0/\Q a)):=by
 obtain⟨a,d⟩:∃a,a=(w.alloc (cells (ji 3 c (slice none 0 0)) 33)).alloc (cells (eH 0 (slice none 0 0)) 40):=⟨_,rfl⟩;have e:(w.alloc (cells (ji 3 c (slice none 0 0)) 33)).heap.size=w.heap.size+1:=by simp
 have b:PH (Below w.heap.size w a):=ae (by rw[d];exact((az _ _).alloc (aj _) _).alloc (by simp) _);have u:PH (Blk a w.heap.size 33 (ji 3 c (slice none 0 0))):=ae (by rw[d];exact(Blk.new w _ _).alloc _);have l:PH (Blk a (w.heap.size+1) 40 (eH 0 (slice none 0 0))):=ae (by rw[d,<-e];exact Blk.new _ _ _);have v:=ae (k.below b.o k.lt);have y:=ae (o a.drew (b.o.trans ((az _ a).drew.mono b.o.size)));have i:=ae d;obtain⟨N,O⟩:=jS v.o;unfold ji eH at*;obtain⟨P,R,S,m3,T,U,V,X,Y⟩:=rL u.o;obtain⟨z,A,C,D,F,G,H,I⟩:=bY l.o;clear k o e d;go_enter func29,ntmps29;go_upto_region 1 with fail;rw[<-i.o];clear i;go_upto_region 7 with fail
 go_region_law (go_simp
                go_at_call 53;refine y.o.mono ?_;rintro f d ⟨E,rfl,i,m⟩;have e:=ae (Blk.chgT (Blk.drew l.o) i (Mt.not (Blk.ty (Blk.drew l.o)) (by decide) (by decide) (by decide)));have q:=ae m;have r:=ae ((ChgT.below b.o).trans ((ChgT.below (az _ a).drew).trans i));have J:=e.o.frozen 0;have s:=e.o.cell 0;clear i m;go_simp)
 all_goals(
  go_simp;have i:PH (Blk (d.setCell ⟨w.heap.size+1,0,none⟩ (int i64 E)) (w.heap.size+1) 40 #[int i64 E,slice none 0 0,slice none 0 0,int i64 0,int i64 0,int i64 0,slice none 0 0,int i64 0]):=ae (by simpa using e.o.set 0 (int i64 E));have K:PH (ChgT w (d.setCell ⟨w.heap.size+1,0,none⟩ (int i64 E))):=ae (Chg.set r.o ⟨w.heap.size+1,0,none⟩ _ λh=>absurd (show w.heap.size+1<w.heap.size from h) (by omega))
  have L:PH ((j E/\Below w.heap.size w (d.setCell ⟨w.heap.size+1,0,none⟩ (int i64 E)))\/(E=0/\Q (d.setCell ⟨w.heap.size+1,0,none⟩ (int i64 E)))):=ae (by
   rcases q.o with⟨M,m⟩ | ⟨t,m⟩
   ·exact .inl ⟨M,(b.o.trans (((az _ a).drew.trans m).mono b.o.size)).setCell (p:=⟨w.heap.size+1,0,none⟩) (by show w.heap.size<=w.heap.size+1;omega) _⟩
   ·refine .inr ⟨t,?_⟩
    subst t;rw[lf e.o (by rfl)];exact m)
  clear z A C D F G H I s J e r q;generalize d.setCell ⟨w.heap.size+1,0,none⟩ (int i64 E)=Z at*;obtain⟨s,q1,q2,q3,q4,q5,q6,q7⟩:=bY i.o
  go_wp2_with (change wpList _ _ _ (Oper.mk none (Op.store 40 _ _) _ _ _ _ :: _) _ _;refine wpList_store_row rfl 40 _ _ rfl (w.heap.size+1) #[int i64 E,slice none 0 0,slice none 0 0,int i64 0,int i64 0,int i64 0,slice none 0 0,int i64 0] rfl rfl 40 _ i.o (by kernel_rfl) rfl (by kernel_rfl) ?_)
  rw[eT i.o];go_wp2_with fail
  (try simp only[Exit.inBlock,Exit.then])
  refine bodyPost_ret (results_cell_row rfl _ _ (w.heap.size+1) 40 #[int i64 E,slice none 0 0,slice none 0 0,int i64 0,int i64 0,int i64 0,slice none 0 0,int i64 0] (0,0) _ rfl i.o underlying40 rfl (by kernel_rfl)) rfl ?_;exact⟨E,rfl,K.o,L.o⟩)
theorem La(D p g:Nat)(x:Nat->Value)(l:ByteArray)(P:Int->PI->Prop)(w:World)(t:Blk w D 80 (iZ p g x))
 (F:∀W,Below w.heap.size w W->Calls prog 52 #[pointer (some ⟨g,0,none⟩),.string l] W λr d=>∃v E b,r=returned (.tuple #[v,int i64 E])/\P E b/\(rB b).ok d (Fr W.heap.size) [v]/\Below W.heap.size W d):
 Calls prog 29 #[pointer (some ⟨D,0,none⟩),.agg (ji 2 l (slice none 0 0))] w λr d=>∃E b a c,r=returned (.agg (eH E (slice a b.length c)))/\P E b/\(rB b).ok d (Fr w.heap.size) [slice a b.length c]/\Below w.heap.size w d:=by
 obtain⟨k,d⟩:∃k,k=(w.alloc (cells (ji 2 l (slice none 0 0)) 33)).alloc (cells (eH 0 (slice none 0 0)) 40):=⟨_,rfl⟩;have f:(w.alloc (cells (ji 2 l (slice none 0 0)) 33)).heap.size=w.heap.size+1:=by simp
 have n:PH (Below w.heap.size w k):=ae (by rw[d];exact((az _ _).alloc (aj _) _).alloc (by simp) _);have J:PH (Blk k w.heap.size 33 (ji 2 l (slice none 0 0))):=ae (by rw[d];exact(Blk.new w _ _).alloc _);have u:PH (Blk k (w.heap.size+1) 40 (eH 0 (slice none 0 0))):=ae (by rw[d,<-f];exact Blk.new _ _ _);have K:=ae (t.below n.o t.lt);have L:=ae (F k.drew (n.o.trans ((az _ k).drew.mono n.o.size)));have e:=ae d;obtain⟨Y,Z⟩:=jS K.o;obtain⟨m0,m1,m2,m3,m4,m5,m6,m7,m8⟩:=rL (show Blk k w.heap.size 33 #[int i64 2,.string l,slice none 0 0,int i64 0,int i64 0,int i64 0,.int .u32 0,slice none 0 0,slice none 0 0] from J.o);have aa:w.heap.size+1<k.heap.size:=u.o.lt;clear t F f d;unfold ji;go_enter func29,ntmps29;unfold ji eH at e;go_upto_region 1 with fail;rw[<-e.o];clear e;go_upto_region 5 with fail
 go_region_law (go_simp
                go_at_call 52;refine L.o.mono ?_;rintro r o ⟨M,E,b,rfl,j,i,q⟩;replace q:=bP q;have G:=ae j;have H:PH ((rB b).ok o (λf=>k.heap.size<=f) [M]):=ae i;obtain⟨d,e,rfl,-⟩:=fC i rfl;have m:=ae (u.o.below q u.o.lt);have I:=ae (n.o.trans (q.mono n.o.size));have N:=m.o.frozen 0;have O:=m.o.frozen 1;have y:o.cell? ⟨w.heap.size+1,0,none⟩=some (int i64 0):=m.o.cell 0;have z:o.cell? ⟨w.heap.size+1,1,none⟩=some (slice none 0 0):=m.o.cell 1;clear i q j;go_simp)
 all_goals(
  go_simp;clear y z N O;generalize j:b.length=i at*;have s:=ae j.symm;clear j
  first
  | (have j:=ae (Px m.o (slice d i e) E)
     have A:PH ((rB b).ok ((o.setCell ⟨w.heap.size+1,1,none⟩ (slice d i e)).setCell ⟨w.heap.size+1,0,none⟩ (int i64 E)) (Fr w.heap.size) [slice d i e]):=ae ((rB _).keep H.o λf Q _=>⟨(bE _ _ _ f (by show f≠w.heap.size+1;omega)).trans (bE _ _ _ f (by show f≠w.heap.size+1;omega)),by show w.heap.size<=f;omega⟩);have C:=ae ((I.o.setCell (p:=⟨w.heap.size+1,1,none⟩) (by show w.heap.size<=w.heap.size+1;omega) (slice d i e)).setCell (p:=⟨w.heap.size+1,0,none⟩) (by show w.heap.size<=w.heap.size+1;omega) (int i64 E));unfold eH at j;obtain⟨y,z,R,S,T,U,V,X⟩:=bY j.o
     go_wp2_with (change wpList _ _ _ (Oper.mk none (Op.store 40 _ _) _ _ _ _ :: _) _ _;refine wpList_store_row rfl 40 _ _ rfl (w.heap.size+1) #[int i64 E,slice d i e,slice none 0 0,int i64 0,int i64 0,int i64 0,slice none 0 0,int i64 0] rfl rfl 40 _ j.o (by kernel_rfl) rfl (by kernel_rfl) ?_)
     rw[eT j.o];go_wp2_with fail
     (try simp only[Exit.inBlock,Exit.then])
     refine bodyPost_ret (results_cell_row rfl _ _ (w.heap.size+1) 40 #[int i64 E,slice d i e,slice none 0 0,int i64 0,int i64 0,int i64 0,slice none 0 0,int i64 0] (0,0) _ rfl j.o underlying40 rfl (by kernel_rfl)) rfl ?_;exact⟨E,b,d,e,by rw[<-s.o];rfl,G.o,by rw[<-s.o];exact A.o,C.o⟩)
  | (have j:=ae (Py m.o (slice d i e) E)
     have A:PH ((rB b).ok ((o.setCell ⟨w.heap.size+1,0,none⟩ (int i64 E)).setCell ⟨w.heap.size+1,1,none⟩ (slice d i e)) (Fr w.heap.size) [slice d i e]):=ae ((rB _).keep H.o λf Q _=>⟨(bE _ _ _ f (by show f≠w.heap.size+1;omega)).trans (bE _ _ _ f (by show f≠w.heap.size+1;omega)),by show w.heap.size<=f;omega⟩);have C:=ae ((I.o.setCell (p:=⟨w.heap.size+1,0,none⟩) (by show w.heap.size<=w.heap.size+1;omega) (int i64 E)).setCell (p:=⟨w.heap.size+1,1,none⟩) (by show w.heap.size<=w.heap.size+1;omega) (slice d i e));unfold eH at j;obtain⟨y,z,R,S,T,U,V,X⟩:=bY j.o
     go_wp2_with (change wpList _ _ _ (Oper.mk none (Op.store 40 _ _) _ _ _ _ :: _) _ _;refine wpList_store_row rfl 40 _ _ rfl (w.heap.size+1) #[int i64 E,slice d i e,slice none 0 0,int i64 0,int i64 0,int i64 0,slice none 0 0,int i64 0] rfl rfl 40 _ j.o (by kernel_rfl) rfl (by kernel_rfl) ?_)
     rw[eT j.o];go_wp2_with fail
     (try simp only[Exit.inBlock,Exit.then])
     refine bodyPost_ret (results_cell_row rfl _ _ (w.heap.size+1) 40 #[int i64 E,slice d i e,slice none 0 0,int i64 0,int i64 0,int i64 0,slice none 0 0,int i64 0] (0,0) _ rfl j.o underlying40 rfl (by kernel_rfl)) rfl ?_;exact⟨E,b,d,e,by rw[<-s.o];rfl,G.o,by rw[<-s.o];exact A.o,C.o⟩))
theorem NG(m p g n c:Nat)(x:Nat->Value)(d:ByteArray)(a:PK)(i:Int->Prop)(Q:World->Prop)(w:World)(o:Blk w m 80 (iZ p g x))
 (r:∀W,Below w.heap.size w W->Calls prog 51 #[pointer (some ⟨g,0,none⟩),.string d,slice a n c] W λj b=>∃E,j=returned (int i64 E)/\ChgT W b/\((i E/\Below W.heap.size W b)\/(E=0/\Q b))):
 Calls prog 10 #[pointer (some ⟨m,0,none⟩),.agg (ji 1 d (slice a n c))] w λj b=>∃E,j=returned (.agg (eH E (slice none 0 0)))/\ChgT w b/\((i E/\Below w.heap.size w b)\/(E=0/\Q b)):=by
 obtain⟨b,f⟩:∃b,b=(w.alloc (cells (ji 1 d (slice a n c)) 33)).alloc (cells (eH 0 (slice none 0 0)) 40):=⟨_,rfl⟩;have k:(w.alloc (cells (ji 1 d (slice a n c)) 33)).heap.size=w.heap.size+1:=by simp
 have e:PH (Below w.heap.size w b):=ae (by rw[f];exact((az _ _).alloc (aj _) _).alloc (by simp) _);have y:PH (Blk b w.heap.size 33 (ji 1 d (slice a n c))):=ae (by rw[f];exact(Blk.new w _ _).alloc _);have s:PH (Blk b (w.heap.size+1) 40 (eH 0 (slice none 0 0))):=ae (by rw[f,<-k];exact Blk.new _ _ _);have t:=ae (K8 m p g n c x d a i Q b (o.below e.o o.lt) λW l=>r W (e.o.trans (l.mono e.o.size)));have l:=ae f;unfold ji eH at*;obtain⟨z,A,C,m3,D,F,G,H,I⟩:=rL y.o;clear o r k f;go_enter func10,ntmps10;go_upto_region 1 with fail;rw[<-l.o];clear l;go_wp2_with fail;refine t.o.mono ?_;rintro j k ⟨E,rfl,q,u⟩;have l:=ae (Blk.chgT s.o q (Mt.not (Blk.ty s.o) (by decide) (by decide) (by decide)));have v:=ae u;have f:=ae ((ChgT.below e.o).trans q);clear u q z A C m3 D F G H I t
 go_wp2_with (change wpList _ _ _ (Oper.mk none (Op.store 40 _ _) _ _ _ _ :: _) _ _;refine wpList_store_row rfl 40 _ _ rfl (w.heap.size+1) #[int i64 E,slice none 0 0,slice none 0 0,int i64 0,int i64 0,int i64 0,slice none 0 0,int i64 0] rfl rfl 40 _ l.o (by kernel_rfl) rfl (by kernel_rfl) ?_)
 have u:=ae (l.o.row #[int i64 E,slice none 0 0,slice none 0 0,int i64 0,int i64 0,int i64 0,slice none 0 0,int i64 0]);have z:PH (ChgT w (k.setRow (w.heap.size+1) #[int i64 E,slice none 0 0,slice none 0 0,int i64 0,int i64 0,int i64 0,slice none 0 0,int i64 0])):=ae ⟨f.o.os,f.o.tape,f.o.output,by simpa using f.o.size,λq t A=>(setRow_other _ _ _ _ (by omega)).trans (f.o.block q t A)⟩
 have A:PH ((i E/\Below w.heap.size w (k.setRow (w.heap.size+1) #[int i64 E,slice none 0 0,slice none 0 0,int i64 0,int i64 0,int i64 0,slice none 0 0,int i64 0]))\/(E=0/\Q (k.setRow (w.heap.size+1) #[int i64 E,slice none 0 0,slice none 0 0,int i64 0,int i64 0,int i64 0,slice none 0 0,int i64 0]))):=ae (by
  rcases v.o with⟨C,q⟩ | ⟨t,q⟩
  ·exact .inl ⟨C,bW (e.o.trans (q.mono e.o.size)) (show w.heap.size<=w.heap.size+1 by omega) _⟩
  ·refine .inr ⟨t,?_⟩
   subst t;rw[eT l.o];exact q)
 clear l f v;generalize k.setRow (w.heap.size+1) #[int i64 E,slice none 0 0,slice none 0 0,int i64 0,int i64 0,int i64 0,slice none 0 0,int i64 0]=f at*;go_wp2_with fail
 (try simp only[Exit.inBlock,Exit.then])
 refine bodyPost_ret (results_cell_row rfl _ _ (w.heap.size+1) 40 #[int i64 E,slice none 0 0,slice none 0 0,int i64 0,int i64 0,int i64 0,slice none 0 0,int i64 0] (0,0) _ rfl u.o underlying40 rfl (by kernel_rfl)) rfl ?_;exact⟨E,rfl,z.o,A.o⟩
theorem NH(k p g:Nat)(x:Nat->Value)(b:ByteArray)(e:Int->Prop)(Q:World->Prop)(w:World)(l:Blk w k 80 (iZ p g x))
 (n:∀W,Below w.heap.size w W->Calls prog 53 #[pointer (some ⟨g,0,none⟩),.string b] W λf a=>∃E,f=returned (int i64 E)/\ChgT W a/\((e E/\Below W.heap.size W a)\/(E=0/\Q a))):
 Calls prog 10 #[pointer (some ⟨k,0,none⟩),.agg (ji 3 b (slice none 0 0))] w λf a=>∃E,f=returned (.agg (eH E (slice none 0 0)))/\ChgT w a/\((e E/\Below w.heap.size w a)\/(E=0/\Q a)):=by
 obtain⟨a,d⟩:∃a,a=(w.alloc (cells (ji 3 b (slice none 0 0)) 33)).alloc (cells (eH 0 (slice none 0 0)) 40):=⟨_,rfl⟩;have i:(w.alloc (cells (ji 3 b (slice none 0 0)) 33)).heap.size=w.heap.size+1:=by simp
 have c:PH (Below w.heap.size w a):=ae (by rw[d];exact((az _ _).alloc (aj _) _).alloc (by simp) _);have t:PH (Blk a w.heap.size 33 (ji 3 b (slice none 0 0))):=ae (by rw[d];exact(Blk.new w _ _).alloc _);have o:PH (Blk a (w.heap.size+1) 40 (eH 0 (slice none 0 0))):=ae (by rw[d,<-i];exact Blk.new _ _ _);have q:=ae (K9 k p g x b e Q a (l.below c.o l.lt) λW j=>n W (c.o.trans (j.mono c.o.size)));have j:=ae d;unfold ji eH at*;obtain⟨u,v,y,m3,z,A,C,D,F⟩:=rL t.o;clear l n i d;go_enter func10,ntmps10;go_upto_region 1 with fail;rw[<-j.o];clear j;go_wp2_with fail;refine q.o.mono ?_;rintro f i ⟨E,rfl,m,r⟩;have j:=ae (Blk.chgT o.o m (Mt.not (Blk.ty o.o) (by decide) (by decide) (by decide)));have s:=ae r;have d:=ae ((ChgT.below c.o).trans m);clear r m u v y m3 z A C D F q
 go_wp2_with (change wpList _ _ _ (Oper.mk none (Op.store 40 _ _) _ _ _ _ :: _) _ _;refine wpList_store_row rfl 40 _ _ rfl (w.heap.size+1) #[int i64 E,slice none 0 0,slice none 0 0,int i64 0,int i64 0,int i64 0,slice none 0 0,int i64 0] rfl rfl 40 _ j.o (by kernel_rfl) rfl (by kernel_rfl) ?_)
 have r:=ae (j.o.row #[int i64 E,slice none 0 0,slice none 0 0,int i64 0,int i64 0,int i64 0,slice none 0 0,int i64 0]);have u:PH (ChgT w (i.setRow (w.heap.size+1) #[int i64 E,slice none 0 0,slice none 0 0,int i64 0,int i64 0,int i64 0,slice none 0 0,int i64 0])):=ae ⟨d.o.os,d.o.tape,d.o.output,by simpa using d.o.size,λm q v=>(setRow_other _ _ _ _ (by omega)).trans (d.o.block m q v)⟩
 have v:PH ((e E/\Below w.heap.size w (i.setRow (w.heap.size+1) #[int i64 E,slice none 0 0,slice none 0 0,int i64 0,int i64 0,int i64 0,slice none 0 0,int i64 0]))\/(E=0/\Q (i.setRow (w.heap.size+1) #[int i64 E,slice none 0 0,slice none 0 0,int i64 0,int i64 0,int i64 0,slice none 0 0,int i64 0]))):=ae (by
  rcases s.o with⟨y,m⟩ | ⟨q,m⟩
  ·exact .inl ⟨y,bW (c.o.trans (m.mono c.o.size)) (show w.heap.size<=w.heap.size+1 by omega) _⟩
  ·refine .inr ⟨q,?_⟩
   subst q;rw[eT j.o];exact m)
 clear j d s;generalize i.setRow (w.heap.size+1) #[int i64 E,slice none 0 0,slice none 0 0,int i64 0,int i64 0,int i64 0,slice none 0 0,int i64 0]=d at*;go_wp2_with fail
 (try simp only[Exit.inBlock,Exit.then])
 refine bodyPost_ret (results_cell_row rfl _ _ (w.heap.size+1) 40 #[int i64 E,slice none 0 0,slice none 0 0,int i64 0,int i64 0,int i64 0,slice none 0 0,int i64 0] (0,0) _ rfl r.o underlying40 rfl (by kernel_rfl)) rfl ?_;exact⟨E,rfl,u.o,v.o⟩
theorem NI(m p g:Nat)(x:Nat->Value)(j:ByteArray)(P:Int->PI->Prop)(w:World)(n:Blk w m 80 (iZ p g x))
 (s:∀W,Below w.heap.size w W->Calls prog 52 #[pointer (some ⟨g,0,none⟩),.string j] W λl d=>∃v E b,l=returned (.tuple #[v,int i64 E])/\P E b/\(rB b).ok d (Fr W.heap.size) [v]/\Below W.heap.size W d):
 Calls prog 10 #[pointer (some ⟨m,0,none⟩),.agg (ji 2 j (slice none 0 0))] w λl d=>∃E b a c,l=returned (.agg (eH E (slice a b.length c)))/\P E b/\(rB b).ok d (Fr w.heap.size) [slice a b.length c]/\Below w.heap.size w d:=by
 obtain⟨f,d⟩:∃f,f=(w.alloc (cells (ji 2 j (slice none 0 0)) 33)).alloc (cells (eH 0 (slice none 0 0)) 40):=⟨_,rfl⟩;have e:(w.alloc (cells (ji 2 j (slice none 0 0)) 33)).heap.size=w.heap.size+1:=by simp
 have k:PH (Below w.heap.size w f):=ae (by rw[d];exact((az _ _).alloc (aj _) _).alloc (by simp) _);have A:PH (Blk f w.heap.size 33 (ji 2 j (slice none 0 0))):=ae (by rw[d];exact(Blk.new w _ _).alloc _);have o:PH (Blk f (w.heap.size+1) 40 (eH 0 (slice none 0 0))):=ae (by rw[d,<-e];exact Blk.new _ _ _);have t:=ae (La m p g x j P f (n.below k.o n.lt) λW i=>s W (k.o.trans (i.mono k.o.size)));have i:=ae d;unfold ji eH at*;obtain⟨C,D,F,m3,G,H,I,J,K⟩:=rL A.o;clear n s e d;go_enter func10,ntmps10;go_upto_region 1 with fail;rw[<-i.o];clear i;go_wp2_with fail;refine t.o.mono ?_;rintro l q ⟨E,b,d,e,rfl,u,y,i⟩;have L:=ae u;have z:=ae (o.o.below i o.o.lt);have M:PH ((rB b).ok q (λr=>f.heap.size<=r) [slice d b.length e]):=ae y;have N:=ae (k.o.trans (i.mono k.o.size));have O:w.heap.size+1<f.heap.size:=o.o.lt;clear y i u C D F m3 G H I J K t;generalize t:b.length=i at*;have u:=ae t.symm;clear t
 go_wp2_with (change wpList _ _ _ (Oper.mk none (Op.store 40 _ _) _ _ _ _ :: _) _ _;refine wpList_store_row rfl 40 _ _ rfl (w.heap.size+1) #[int i64 E,slice d i e,slice none 0 0,int i64 0,int i64 0,int i64 0,slice none 0 0,int i64 0] rfl rfl 40 _ z.o (by kernel_rfl) rfl (by kernel_rfl) ?_)
 have t:=ae (z.o.row #[int i64 E,slice d i e,slice none 0 0,int i64 0,int i64 0,int i64 0,slice none 0 0,int i64 0]);have y:PH ((rB b).ok (q.setRow (w.heap.size+1) #[int i64 E,slice d i e,slice none 0 0,int i64 0,int i64 0,int i64 0,slice none 0 0,int i64 0]) (Fr w.heap.size) [slice d i e]):=ae ((rB _).keep M.o λr C _=>⟨setRow_other _ _ _ _ (by omega),by show w.heap.size<=r;omega⟩);have r:=ae (bW N.o (show w.heap.size<=w.heap.size+1 by omega) #[int i64 E,slice d i e,slice none 0 0,int i64 0,int i64 0,int i64 0,slice none 0 0,int i64 0]);generalize q.setRow (w.heap.size+1) #[int i64 E,slice d i e,slice none 0 0,int i64 0,int i64 0,int i64 0,slice none 0 0,int i64 0]=C at*;go_wp2_with fail
 (try simp only[Exit.inBlock,Exit.then])
 refine bodyPost_ret (results_cell_row rfl _ _ (w.heap.size+1) 40 #[int i64 E,slice d i e,slice none 0 0,int i64 0,int i64 0,int i64 0,slice none 0 0,int i64 0] (0,0) _ rfl t.o underlying40 rfl (by kernel_rfl)) rfl ?_;exact⟨E,b,d,e,by rw[<-u.o],L.o,by rw[<-u.o];exact y.o,r.o⟩
def Ie(v:Value):Array Value:=#[int i64 0,slice none 0 0,v,int i64 0,int i64 0,int i64 0,slice none 0 0,int i64 0]
theorem Ig(j p g:Nat)(x:Nat->Value)(L:List Rp)(w:World)(o:Blk w j 80 (iZ p g x))
 (z:∀W,Below w.heap.size w W->Calls prog 54 #[pointer (some ⟨g,0,none⟩)] W λf b=>∃v,f=returned v/\OwnS b W.heap.size 9 1 (λ_=>False) v L/\Below W.heap.size W b)
 (A:∀W,Below w.heap.size w W->Calls prog 55 #[pointer (some ⟨g,0,none⟩)] W λf b=>f=returned (bool false)/\Below W.heap.size W b):
 Calls prog 29 #[pointer (some ⟨j,0,none⟩),.agg (ji 4 .empty (slice none 0 0))] w λf b=>∃a c,f=returned (.agg (Ie (slice a L.length c)))/\Below w.heap.size w b:=by
 obtain⟨i,d⟩:∃i,i=(w.alloc (cells (ji 4 .empty (slice none 0 0)) 33)).alloc (cells (eH 0 (slice none 0 0)) 40):=⟨_,rfl⟩;have k:(w.alloc (cells (ji 4 .empty (slice none 0 0)) 33)).heap.size=w.heap.size+1:=by simp
 have m:PH (Below w.heap.size w i):=ae (by rw[d];exact((az _ _).alloc (aj _) _).alloc (by simp) _);have y:PH (Blk i w.heap.size 33 (ji 4 .empty (slice none 0 0))):=ae (by rw[d];exact(Blk.new w _ _).alloc _);have q:PH (Blk i (w.heap.size+1) 40 (eH 0 (slice none 0 0))):=ae (by rw[d,<-k];exact Blk.new _ _ _);have r:=ae (o.below m.o o.lt);have C:=ae (z i m.o);have D:=ae λW (b:Below w.heap.size w W)=>A W b;have l:=ae d;obtain⟨b,e⟩:∃b,L.length=b:=⟨_,rfl⟩;have H:=ae e;rw[e];unfold ji eH at*;obtain⟨s,t⟩:=jS r.o;obtain⟨I,J,K,m3,M,N,O,P,Q⟩:=rL y.o;have S:w.heap.size+1<i.heap.size:=q.o.lt;clear o z A k d e;unfold Ie;go_enter func29,ntmps29;go_upto_region 1 with fail;rw[<-l.o];clear l;go_upto_region 9 with fail;go_wp2_with fail;refine C.o.mono ?_;rintro f k ⟨T,rfl,E,n⟩;obtain⟨d,e,rfl,-⟩:=E.val;rw[H.o];have l:=ae (q.o.below n q.o.lt);have u:=ae (r.o.below n r.o.lt);have F:=ae (m.o.trans (n.mono m.o.size));have R:=l.o.frozen 2;have G:k.cell? ⟨w.heap.size+1,2,none⟩=some (slice none 0 0):=l.o.cell 2;clear E n C s t I J K m3 M N O P Q y;have y:PH (Blk (k.setCell ⟨w.heap.size+1,2,none⟩ (slice d b e)) (w.heap.size+1) 40 #[int i64 0,slice none 0 0,slice d b e,int i64 0,int i64 0,int i64 0,slice none 0 0,int i64 0]):=ae (by simpa using l.o.set 2 (slice d b e));have C:PH (Blk (k.setCell ⟨w.heap.size+1,2,none⟩ (slice d b e)) j 80 (iZ p g x)):=ae ((bE _ _ _ j (by show j≠w.heap.size+1;exact(Blk.ty u.o).ne3 (Blk.ty l.o) (by decide))).trans u.o);have n:PH (Below w.heap.size w (k.setCell ⟨w.heap.size+1,2,none⟩ (slice d b e))):=ae (F.o.setCell (p:=⟨w.heap.size+1,2,none⟩) (by show w.heap.size<=w.heap.size+1;omega) _);clear u F;go_upto_region 10 with fail;clear G R l;generalize k.setCell ⟨w.heap.size+1,2,none⟩ (slice d b e)=E at*;obtain⟨s,t⟩:=jS C.o;go_wp2_with fail;refine(D.o E n.o).mono ?_;rintro f I ⟨rfl,u⟩;have l:=ae (y.o.below u y.o.lt);have F:=ae (n.o.trans (u.mono n.o.size));clear u D s t C y n;obtain⟨n,u,G,y,C,D,J,K⟩:=bY l.o
 go_wp2_with (change wpList _ _ _ (Oper.mk none (Op.store 40 _ _) _ _ _ _ :: _) _ _;refine wpList_store_row rfl 40 _ _ rfl (w.heap.size+1) #[int i64 0,slice none 0 0,slice d b e,int i64 0,int i64 0,int i64 0,slice none 0 0,int i64 0] rfl rfl 40 _ l.o (by kernel_rfl) rfl (by kernel_rfl) ?_)
 rw[eT l.o];go_wp2_with fail
 (try simp only[Exit.inBlock,Exit.then])
 refine bodyPost_ret (results_cell_row rfl _ _ (w.heap.size+1) 40 #[int i64 0,slice none 0 0,slice d b e,int i64 0,int i64 0,int i64 0,slice none 0 0,int i64 0] (0,0) _ rfl l.o underlying40 rfl (by kernel_rfl)) rfl ?_;exact⟨d,e,rfl,F.o⟩
theorem Lb(k p g:Nat)(x:Nat->Value)(L:List Rp)(w:World)(l:Blk w k 80 (iZ p g x))
 (o:∀W,Below w.heap.size w W->Calls prog 54 #[pointer (some ⟨g,0,none⟩)] W λd b=>∃v,d=returned v/\OwnS b W.heap.size 9 1 (λ_=>False) v L/\Below W.heap.size W b)
 (q:∀W,Below w.heap.size w W->Calls prog 55 #[pointer (some ⟨g,0,none⟩)] W λd b=>d=returned (bool false)/\Below W.heap.size W b):
 Calls prog 10 #[pointer (some ⟨k,0,none⟩),.agg (ji 4 .empty (slice none 0 0))] w λd b=>∃a c,d=returned (.agg (Ie (slice a L.length c)))/\Below w.heap.size w b:=by
 obtain⟨e,f⟩:∃e,e=(w.alloc (cells (ji 4 .empty (slice none 0 0)) 33)).alloc (cells (eH 0 (slice none 0 0)) 40):=⟨_,rfl⟩;have m:(w.alloc (cells (ji 4 .empty (slice none 0 0)) 33)).heap.size=w.heap.size+1:=by simp
 have b:PH (Below w.heap.size w e):=ae (by rw[f];exact((az _ _).alloc (aj _) _).alloc (by simp) _);have u:PH (Blk e w.heap.size 33 (ji 4 .empty (slice none 0 0))):=ae (by rw[f];exact(Blk.new w _ _).alloc _);have r:PH (Blk e (w.heap.size+1) 40 (eH 0 (slice none 0 0))):=ae (by rw[f,<-m];exact Blk.new _ _ _);have s:=ae (Ig k p g x L e (l.below b.o l.lt) (λW i=>o W (b.o.trans (i.mono b.o.size))) λW i=>q W (b.o.trans (i.mono b.o.size)));have i:=ae f;generalize L.length=j at*;unfold ji eH Ie at*;obtain⟨y,z,A,m3,C,D,E,F,G⟩:=rL u.o;clear l o q m f;go_enter func10,ntmps10;go_upto_region 1 with fail;rw[<-i.o];clear i;go_wp2_with fail;refine s.o.mono ?_;rintro d H ⟨f,i,rfl,m⟩;have n:=ae (r.o.below m r.o.lt);have t:=ae (b.o.trans (m.mono b.o.size));clear m y z A m3 C D E F G s
 go_wp2_with (change wpList _ _ _ (Oper.mk none (Op.store 40 _ _) _ _ _ _ :: _) _ _;refine wpList_store_row rfl 40 _ _ rfl (w.heap.size+1) #[int i64 0,slice none 0 0,slice f j i,int i64 0,int i64 0,int i64 0,slice none 0 0,int i64 0] rfl rfl 40 _ n.o (by kernel_rfl) rfl (by kernel_rfl) ?_)
 have m:=ae (n.o.row #[int i64 0,slice none 0 0,slice f j i,int i64 0,int i64 0,int i64 0,slice none 0 0,int i64 0]);have s:=ae (bW t.o (show w.heap.size<=w.heap.size+1 by omega) #[int i64 0,slice none 0 0,slice f j i,int i64 0,int i64 0,int i64 0,slice none 0 0,int i64 0]);clear n t;generalize H.setRow (w.heap.size+1) #[int i64 0,slice none 0 0,slice f j i,int i64 0,int i64 0,int i64 0,slice none 0 0,int i64 0]=n at*;go_wp2_with fail
 (try simp only[Exit.inBlock,Exit.then])
 refine bodyPost_ret (results_cell_row rfl _ _ (w.heap.size+1) 40 #[int i64 0,slice none 0 0,slice f j i,int i64 0,int i64 0,int i64 0,slice none 0 0,int i64 0] (0,0) _ rfl m.o underlying40 rfl (by kernel_rfl)) rfl ?_;exact⟨f,i,rfl,s.o⟩
end
end Go.Proofs.YtgccllbnfngpcaaGreatDoor
namespace Go.Proofs
open Go.Shelf
def Tryz.laysFar_ren:Go.Shelf.Ren:=⟨fun | 6=>221 | 15=>121 | 14=>280 | 28=>193 | 29=>194 | 20=>341 | 21=>342 | 22=>343 | 23=>344 | 24=>345 | 25=>346 | 26=>347 | 27=>348 | 46=>377 | 47=>249 | 48=>250 | 49=>378 | 50=>379 | 57=>391 | n=>n,fun | 22=>272 | 24=>277 | 25=>281 | 3=>3 | 39=>181 | 0=>0 | 53=>31 | 55=>248 | 4=>4 | 46=>241 | 45=>240 | 50=>214 | 5=>5 | 9=>9 | 66=>310 | 70=>314 | 76=>374 | 77=>375 | n=>n,fun | n=>n⟩
theorem Tryz.laysFar:Go.Proofs.SlLaysF0.n6 prog Tryz.laysFar_ren:= {
 mixed:=by kernel_rfl
 f6:=⟨Tryz.f221.name,by decide,func221.trans (congrArg some (by kernel_rfl))⟩
 f14:=⟨Tryz.f280.name,by decide,func280.trans (congrArg some (by kernel_rfl))⟩
 f15:=func121.trans (congrArg some (by kernel_rfl))
 f20:=⟨Tryz.f341.name,by decide,func341.trans (congrArg some (by kernel_rfl))⟩
 f21:=⟨Tryz.f342.name,by decide,func342.trans (congrArg some (by kernel_rfl))⟩
 f22:=⟨Tryz.f343.name,by decide,func343.trans (congrArg some (by kernel_rfl))⟩
 f23:=⟨Tryz.f344.name,by decide,func344.trans (congrArg some (by kernel_rfl))⟩
 f24:=⟨Tryz.f345.name,by decide,func345.trans (congrArg some (by kernel_rfl))⟩
 f25:=⟨Tryz.f346.name,by decide,func346.trans (congrArg some (by kernel_rfl))⟩
 f26:=⟨Tryz.f347.name,by decide,func347.trans (congrArg some (by kernel_rfl))⟩
 f27:=⟨Tryz.f348.name,by decide,func348.trans (congrArg some (by kernel_rfl))⟩
 f28:=func193.trans (congrArg some (by kernel_rfl))
 f29:=func194.trans (congrArg some (by kernel_rfl))
 f46:=⟨Tryz.f377.name,by decide,func377.trans (congrArg some (by kernel_rfl))⟩
 f47:=func249.trans (congrArg some (by kernel_rfl))
 f48:=func250.trans (congrArg some (by kernel_rfl))
 f49:=⟨Tryz.f378.name,by decide,func378.trans (congrArg some (by kernel_rfl))⟩
 f50:=⟨Tryz.f379.name,by decide,func379.trans (congrArg some (by kernel_rfl))⟩
 f57:=⟨Tryz.f391.name,by decide,func391.trans (congrArg some (by kernel_rfl))⟩
 t0:=underlying0
 a0:=Tryz.isAgg0
 z0:=Tryz.sizeOf0
 v0:=Tryz.zeroValue0
 t3:=underlying3
 a3:=Tryz.isAgg3
 z3:=Tryz.sizeOf3
 v3:=Tryz.zeroValue3
 t4:=underlying4
 a4:=Tryz.isAgg4
 z4:=Tryz.sizeOf4
 v4:=Tryz.zeroValue4
 t5:=underlying5
 a5:=Tryz.isAgg5
 z5:=Tryz.sizeOf5
 v5:=Tryz.zeroValue5
 t9:=underlying9
 a9:=Tryz.isAgg9
 z9:=Tryz.sizeOf9
 v9:=Tryz.zeroValue9
 t22:=underlying272
 a22:=Tryz.isAgg272
 z22:=Tryz.sizeOf272
 v22:=Tryz.zeroValue272
 t25:=underlying281
 a25:=Tryz.isAgg281
 z25:=Tryz.sizeOf281
 v25:=Tryz.zeroValue281
 t39:=underlying181
 a39:=Tryz.isAgg181
 z39:=Tryz.sizeOf181
 v39:=Tryz.zeroValue181
 t45:=underlying240
 a45:=Tryz.isAgg240
 z45:=Tryz.sizeOf240
 v45:=Tryz.zeroValue240
 t46:=underlying241
 a46:=Tryz.isAgg241
 z46:=Tryz.sizeOf241
 v46:=Tryz.zeroValue241
 t50:=underlying214
 a50:=Tryz.isAgg214
 z50:=Tryz.sizeOf214
 v50:=Tryz.zeroValue214
 t53:=underlying31
 a53:=Tryz.isAgg31
 z53:=Tryz.sizeOf31
 v53:=Tryz.zeroValue31
 t55:=underlying248
 a55:=Tryz.isAgg248
 z55:=Tryz.sizeOf248
 v55:=Tryz.zeroValue248
 t66:=underlying310
 a66:=Tryz.isAgg310
 z66:=Tryz.sizeOf310
 v66:=Tryz.zeroValue310
 t70:=underlying314
 a70:=Tryz.isAgg314
 z70:=Tryz.sizeOf314
 v70:=Tryz.zeroValue314
 t76:=underlying374
 a76:=Tryz.isAgg374
 z76:=Tryz.sizeOf374
 v76:=Tryz.zeroValue374
 t77:=underlying375
 a77:=Tryz.isAgg375
 z77:=Tryz.sizeOf375
 v77:=Tryz.zeroValue375 }
end Go.Proofs
namespace Go.Proofs.YtgccllbnfngpcaaGreatDoor
open Go.RowKit _root_.Go.Proofs.Tryz List
open Value (int slice pointer bool)
open IntKind (i64)
open Ending (returned)
open Obj (cells)
section
open Go.RowKit Go.Lib Go.Sort
def sF(a b:Int):Int:=if a<b then-1 else if b<a then 1 else 0
theorem Bs(x y:Nat)(a b:Int)(w:World)(e:Fz x a)(f:Fz y b):Calls prog 224 #[.float .f64 x,.float .f64 y] w λg c=>g=returned (int i64 (sF a b))/\c=w:=by
 have i:FloatKind.f64.format.order x y=some (compare a b):=by rw[Az e f]
 have j:=ae λw=>EF x a w e;have k:=ae λw=>EF y b w f
 have l:(compare a b=.lt/\sF a b= -1)\/(compare a b=.gt/\sF a b=1)\/(compare a b=.eq/\sF a b=0):=by
  rcases Int.lt_trichotomy a b with h | h | h
  ·exact .inl ⟨by rw[Int.compare_eq_lt];exact h,by unfold sF;rw[bg h]⟩
  ·exact .inr (.inr ⟨by rw[Int.compare_eq_eq];exact h,by unfold sF;rw[bh (by omega),bh (by omega)]⟩)
  ·exact .inr (.inl ⟨by rw[Int.compare_eq_gt];omega,by unfold sF;rw[bh (by omega),bg h]⟩)
 clear e f;rcases l with⟨c,d⟩ | ⟨c,d⟩ | ⟨c,d⟩
 all_goals(
  rw[c] at i;rw[d];clear c d;go_enter func224,ntmps224;go_wp2_with fail;refine(j.o w).mono ?_;rintro g m ⟨rfl,rfl⟩;go_wp2_with fail;refine(k.o m).mono ?_;rintro g n ⟨rfl,rfl⟩;go_wp2_with fail;go_ret;exact⟨rfl,rfl⟩)
def Bt(x y:Int):Int:=if x=0 then y else x
theorem LD(x y:Int)(b o c:Nat)(w:World)(f:w.cell? ⟨b,o,none⟩=some (int i64 x))(k:w.cell? ⟨b,o+1,none⟩=some (int i64 y)):Calls prog 223 #[slice (some ⟨b,o,none⟩) 2 c] w λa d=>a=returned (int i64 (Bt x y))/\d=w:=by
 by_cases d:x=0
 ·subst d
  rw[show Bt 0 y=y from rfl];go_enter func223,ntmps223;go_wp2_with fail;go_loopw [8] (λe wr=>∃a:Nat,a<=2/\e=int i64 a/\PH (a=2->y=0)/\PH (wr=w)) (λe _=>2-(intOf e).toNat)
  case atStart=>exact⟨0,by omega,rfl,ae (λh=>by omega),ae rfl⟩
  case round=>
   obtain⟨a,l,rfl,g,i⟩:=hrel;obtain rfl:=i.o;have j:a=0\/a=1\/a=2:=(by omega);rcases j with rfl | rfl | rfl
   ·go_wp2_with fail
    go_roundw
    case rel=>exact⟨1,by omega,by first | rfl | go_num,ae (λh=>by omega),ae (by first | rfl | trivial)⟩
    case measure=>simp[intOf]
   ·by_cases e:y=0
    ·subst e
     go_wp2_with fail;go_roundw
     case rel=>exact⟨2,aj 2,rfl,ae (λ_=>by first | rfl | trivial),ae (by first | rfl | trivial)⟩
     case measure=>simp[intOf]
    ·have m:(y == 0)=false:=by rw[beq_eq_false_iff_ne];exact e
     go_wp2_with fail;go_ret;exact⟨rfl,rfl⟩
   ·obtain rfl:y=0:=g.o rfl
    go_wp2_with fail;go_ret;exact⟨rfl,rfl⟩
 ·rw[show Bt x y=x by unfold Bt;rw[bh d]]
  exact O7 b o 2 c x d w (by omega) f
structure gJ where
 s:Nat
 x:Nat
 a:Int
 h:Fz x a
instance:Inhabited gJ:=⟨⟨0,0,0,iO⟩⟩
def jA(y:gJ):List Value:=[int i64 y.s,.float .f64 y.x]
def zw(y z:gJ):Int:=Bt (sF y.a z.a) (Lib.compareInt y.s z.s)
theorem Iw(y z:gJ):ltOf zw y z=decide (y.a<z.a\/(y.a=z.a/\y.s<z.s)):=by
 unfold ltOf zw Bt sF Lib.compareInt;by_cases d:y.a<z.a
 ·simp[d]
 ·by_cases f:z.a<y.a
  ·have a:¬y.a=z.a:=by omega
   simp[d,f,a]
  ·have a:y.a=z.a:=by omega
   by_cases c:(y.s:Int)<z.s
   ·have b:y.s<z.s:=by omega
    simp[a,c,b]
   ·have b:¬y.s<z.s:=by omega
    by_cases e:(z.s:Int)<y.s
    ·simp[a,c,b,e]
    ·simp[a,c,b,e]
theorem Om:SWO (ltOf zw) where
 irrefl x:=by rw[Iw];simp
 trans x y z h1 h2:=by rw[Iw] at*;simp at*;omega
 ntrans x y z h1 h2:=by rw[Iw] at*;simp at*;omega
theorem ER(s t x y:Nat)(a b:Int)(e:Fz x a)(f:Fz y b)(r:Int)(g:Bt (sF a b) (Lib.compareInt s t)=r)(w:World):Calls prog 222 #[.agg #[int i64 s,.float .f64 x],.agg #[int i64 t,.float .f64 y]] w λc d=>c=returned (int i64 r)/\∃q i,d=grow (w.drewN q) i:=by
 have m:=ae λw=>Bs x y a b w e f;have n:=ae λw=>Tryz.cmp_Compare_int s t w;have i:=ae λd j k w=>LD (sF a b) (Lib.compareInt s t) d j k w;rw[g] at i;clear g e f;generalize sF a b=p at*;generalize Lib.compareInt s t=q at*;go_enter func222,ntmps222;go_upto_region 1 with fail;have d:(w.alloc (cells #[int i64 s,.float .f64 x] 277)).heap.size=w.heap.size+1:=by simp
 have j:=ae ((Blk.new w 277 #[int i64 s,.float .f64 x]).alloc (cells #[int i64 t,.float .f64 y] 277));have k:PH (Blk ((w.alloc (cells #[int i64 s,.float .f64 x] 277)).alloc (cells #[int i64 t,.float .f64 y] 277)) (w.heap.size+1) 277 #[int i64 t,.float .f64 y]):=ae (by rw[<-d];exact Blk.new _ _ _);clear d;generalize l:(w.alloc (cells #[int i64 s,.float .f64 x] 277)).alloc (cells #[int i64 t,.float .f64 y] 277)=d at*;have o:=ae l;clear l;have u:d.cell? ⟨w.heap.size,0,none⟩=some (int i64 s):=j.o.cell 0;have v:d.cell? ⟨w.heap.size,1,none⟩=some (.float .f64 x):=j.o.cell 1;have z:d.cell? ⟨w.heap.size+1,0,none⟩=some (int i64 t):=k.o.cell 0;have A:d.cell? ⟨w.heap.size+1,1,none⟩=some (.float .f64 y):=k.o.cell 1
 go_region_law (first
  | (go_simp;go_at_call 224;refine(m.o _).mono ?_;rintro c l ⟨rfl,rfl⟩;go_simp)
  | (go_simp;go_at_call 225;refine(n.o _).mono ?_;rintro c l ⟨rfl,rfl⟩;go_simp)
  | (go_simp;go_at_call 223;refine(i.o _ _ _ _ (by first | exact dZ _ _ _ 0 | (go_simp;done)) (by first | exact dZ _ _ _ 1 | (go_simp;done))).mono ?_;rintro c l ⟨rfl,rfl⟩;go_simp))
 all_goals(
  go_simp;go_wp2_with fail;go_ret;exact⟨rfl,1,_,by rw[<-o.o,alloc_eq_grow,alloc_eq_grow,alloc_eq_grow,grow_grow,grow_grow];rfl⟩)
theorem Iy(y z:gJ)(w:World):Calls prog 222 #[.agg #[int i64 y.s,.float .f64 y.x],.agg #[int i64 z.s,.float .f64 z.x]] w λa b=>a=returned (int i64 (zw y z))/\∃q a,b=grow (w.drewN q) a:=
 ER y.s z.s y.x z.x y.a z.a y.h z.h _ rfl w
theorem Oo:∀w,(isAgg (Tryz.laysFar_ren.t 24)).run prog w=.ok true w:=λw=>Tryz.isAgg277 w
theorem LE:∀w,(Go.sizeOf (Tryz.laysFar_ren.t 24)).run prog w=.ok 2 w:=λw=>Tryz.sizeOf277 w
def RowF(w:World)(g:Nat)(d:List gJ):Prop:=g<w.heap.size/\∀a,a<d.length->w.cell? ⟨g,a*2,none⟩=some (int i64 (d.getD a default).s)/\w.cell? ⟨g,a*2+1,none⟩=some (.float .f64 (d.getD a default).x)
theorem RowF.below{w w':World}{g:Nat}{d:List gJ}(a:RowF w g d)(c:Below w.heap.size w w'):RowF w' g d:=
 ⟨aW a.1 c.size,λb e=>⟨(c.cell (p:=⟨g,b*2,none⟩) a.1).trans (a.2 b e).1,(c.cell (p:=⟨g,b*2+1,none⟩) a.1).trans (a.2 b e).2⟩⟩
theorem NQ(d:List gJ){t:Nat}(b:t<d.length*2):(flatK jA 2 d.toArray)[t]! =(jA (d.getD (t/2) default))[t%2]! :=by
 rw[get_flatK _ _ _ _ (by simpa using b)];congr 2;have a:t/2<d.length:=by omega
 rw[getElem!_pos d.toArray (t/2) (by simpa using a),af,ah a];simp
theorem ES{w:World}{g:Nat}{d:List gJ}(e:HoldsK jA 2 w g 0 d.toArray)(h:g<w.heap.size):RowF w g d:=by
 refine⟨h,λa i=> ?_⟩;have f:(flatK jA 2 d.toArray).size=d.length*2:=by simp
 have b:=(e (a*2) (by rw[f];omega)).1;have c:=(e (a*2+1) (by rw[f];omega)).1;rw[NQ d (by omega)] at b c;rw[Nat.zero_add] at b c;rw[show a*2/2=a by omega,show a*2%2=0 by omega] at b;rw[show(a*2+1)/2=a by omega,show(a*2+1)%2=1 by omega] at c;exact⟨b,c⟩
theorem ET{w:World}{g n:Nat}{b:Array Value}{d:List gJ}(f:Blk w g 277 b)(k:d.length=n)(j:∀i,i<n->b[i*2]? =some (int i64 (d.getD i default).s)/\b[i*2+1]? =some (.float .f64 (d.getD i default).x)):HoldsK jA 2 w g 0 d.toArray:=by
 intro a c;have c:a<d.length*2:=by simpa using c
 rw[Nat.zero_add];refine⟨?_,f.frozen a⟩;rw[f.cell,NQ d c];have h:=j (a/2) (by omega);rcases Nat.mod_two_eq_zero_or_one a with e | e
 ·rw[e,show b[a]? =b[a/2*2]? by congr 1;omega,h.1];rfl
 ·rw[e,show b[a]? =b[a/2*2+1]? by congr 1;omega,h.2];rfl
theorem EU(d:List gJ)(g n c:Nat)(w:World)(k:HoldsK jA 2 w g 0 d.toArray)(b:g<w.heap.size)(r:d.length=n)(x:n<=1000):
 Calls prog 221 #[slice (some ⟨g,0,none⟩) n c,.func (.func 222) #[] #[]] w λl e=>l=returned (.tuple #[])/\∃a:List gJ,a.Perm d/\RowF e g a/\∀C,C<=g->Below C w e:=by
 have f:d.toArray.size=n:=by simpa using r
 have h:=AnyQ.slices_SortFunc Tryz.laysFar 2 Oo LE jA (λ_=>rfl) (λj m i=>by simp[jA] at i;rcases i with rfl | rfl <;> rfl) zw Om 222 #[] g 0 c d.toArray w (enters_of func222 (by kernel_rfl) rfl) (λo i p q j m=>by rw[Array.append_empty];exact Iy j m _) k b (by rw[f];omega);rw[f] at h;change Calls prog 221 _ _ _ at h;refine h.mono ?_;rintro l e ⟨rfl,a,m,i,o,-,rfl⟩;have p:a.size=d.toArray.size:=o.1
 have s:a.toList.Perm d:=by
  have j:=o.2.2;rw[<-f] at j;have t:a.extract 0 d.toArray.size=a:=(by rw[<-p];simp);have u:d.toArray.extract 0 d.toArray.size=d.toArray:=(by simp);rw[t,u] at j;simpa using j
 refine⟨rfl,a.toList,s,?_,λC y=> ?_⟩
 ·have q:=holdsK_sortWorldK jA 2 w g 0 m d.toArray a i b k p
  exact ES (by simpa using q) (lt_sortWorldK jA 2 w g 0 m a i b)
 ·refine⟨rfl,rfl,rfl,?_,λv q=> ?_⟩
  ·unfold sortWorldK putRowK;simp
  ·unfold sortWorldK putRowK
   rw[heap_grow_old _ _ (by have:g<w.heap.size:=b;simp;omega)];have:g≠v:=(by omega);simp[putRow,mapBlock,Sort.ahead,Array.getElem?_modify,this]
theorem pK(P:Program)(w:World)(a:Addr)(m:Mode)(k:FloatKind)(x:Nat):(store a (.float k x) m).run P w=stored P w a (.float k x) m:=run_store P w a _ m rfl
attribute [local go_sem] pK
theorem LG{w:World}{C:Nat}{v:Value}{d:List gJ}(j:OwnS w C 277 2 (λ_=>False) v (d.map λa=>sH a.s a.x))(u:0<d.length):∃g c,v=slice (some ⟨g,0,none⟩) d.length c/\C<=g/\g<w.heap.size/\HoldsK jA 2 w g 0 d.toArray:=by
 have l:=j.lt;obtain⟨b,f,m⟩:=j;rw[aC] at f;have x:b.length=d.length*2:=f.1;rcases f.2 with⟨_,o⟩ | ⟨g,p,y,rfl,q,r,_,_,z,s⟩
 ·exact absurd o (by omega)
 ·refine⟨g,p,rfl,q,(l g rfl).2,ET (n:=d.length) r rfl λa t=> ?_⟩
  have k:=(m a (sH (d.getD a default).s (d.getD a default).x) (by rw[List.getElem?_map,af,ah t];rfl)).1
  have h:b[a*2]? =some (int i64 (d.getD a default).s):=by
   have e:((b.drop (a*2)).take 2)[0]? =some (int i64 (d.getD a default).s):=(by rw[k];rfl);rw[List.getElem?_take,bg (by omega),List.getElem?_drop] at e;exact e
  have i:b[a*2+1]? =some (.float .f64 (d.getD a default).x):=by
   have e:((b.drop (a*2)).take 2)[1]? =some (.float .f64 (d.getD a default).x):=(by rw[k];rfl);rw[List.getElem?_take,bg (by omega),List.getElem?_drop] at e;exact e
  rw[<-s] at h i;rw[List.getElem?_take,bg (by omega),Array.getElem?_toList] at h i;exact⟨h,i⟩
theorem Iz{L:PI}{n:Nat}(a:∀x∈L,x<n)(b:L.Nodup):L.length<=n:=by
 have c:=List.Nodup.length_le_of_subset b (l₂:=range n) λx d=>bA.2 (a x d)
 rwa [aZ] at c
theorem xS{k:Nat}(b:k<64):(Ip (k:Nat)).1.natAbs<=100/\(Ip (k:Nat)).2.natAbs<=100:=by
 have c:∀a:Fin 64,(Ip ((a.val:Nat):Int)).1.natAbs<=100/\(Ip ((a.val:Nat):Int)).2.natAbs<=100:=by decide +kernel
 exact c ⟨k,b⟩
end
section
open Go.RowKit Go.Lib Go.Sort
attribute [local go_sem] pK
def jZ(S:PI):Array Value:=((range 64).map λa=>Value.bool (decide (a∈S))).toArray
theorem rf(S:PI){x:Nat}(a:x<64):(jZ S)[x]? =some (bool (decide (x∈S))):=by
 unfold jZ;rw[List.getElem?_toArray,List.getElem?_map,List.getElem?_range a];rfl
theorem F7(S:PI){x:Nat}(g:x<64):(jZ S).setIfInBounds x (bool true)=jZ (S++[x]):=by
 have b:∀S,(jZ S).size=64:=λS=>by unfold jZ;simp
 apply Array.ext (by rw[Array.size_setIfInBounds,b,b]);intro a h c;rw[b] at c;have e:(jZ (S++[x]))[a]? =some (bool (decide (a∈S++[x]))):=rf _ c;have i:(jZ S)[a]? =some (bool (decide (a∈S))):=rf _ c
 have f:((jZ S).setIfInBounds x (bool true))[a]? =some (bool (decide (a∈S++[x]))):=by
  by_cases d:x=a
  ·subst d
   rw[Array.getElem?_setIfInBounds_self_of_lt (by rw[b];exact g)];simp
  ·rw[Array.getElem?_setIfInBounds_ne d,i]
   have j:¬a=x:=λk=>d k.symm;simp[j]
 rw[Array.getElem?_eq_getElem h] at f;rw[Array.getElem?_eq_getElem (by rw[b];exact c)] at e;exact Option.some.inj (f.trans e.symm)
theorem Cj(o i:Nat)(L:PI)(F:Nat->Prop)(a:PK)(n c:Nat)(w:World)(hx:(rI L).ok w F [slice a n c])(P:L.length=n)(ho:o<=16777215)(hi:i<8)(Q:∀x∈L,x<64)(S:L.Nodup)(aF:0<n):
 Calls prog 159 #[int i64 o,int i64 i,slice a n c] w λg b=>∃v d,g=returned v/\d.Perm L/\OwnI b w.heap.size v d/\Below w.heap.size w b:=by
 have e:PH (Sx w w [eR F (slice a n c) (rI L)]):=ae ((Sx.nil w).add (eR F (slice a n c) (rI L)) hx);have aK:n<=64:=by rw[<-P];exact Iz Q S
 obtain⟨q,r⟩:∃q,q=(8*o+i)%64:=⟨_,rfl⟩;have T:q<64:=by omega
 have aL:Int.tmod (8*(o:Int)+(i:Int)) 64=(q:Int):=by rw[Int.tmod_eq_emod_of_nonneg (by omega)];omega
 have U:=ae λ(b:Nat) (d:b<64) w=>Lu (b:Nat) (by omega) w;have CF:=ae λ(b:Nat) (d:b<64) (f j k m:Nat) (l:Cz f j (Ip (b:Nat)).1 (Ip (b:Nat)).2) (s:Cz k m (Ip (q:Nat)).1 (Ip (q:Nat)).2) w=>E0 f j k m _ _ _ _ l s (by have h3:=xS d;have h4:=xS T;omega) (by have h3:=xS d;have h4:=xS T;omega) w;have aM:¬(16777215:Int)<(o:Int):=by omega
 have aO:¬(o:Int)<0:=by omega
 have aR:¬(8:Int)<=(i:Int):=by omega
 have aS:¬(i:Int)<0:=by omega
 have G:=ae P;have aq:=ae Q;have au:=ae S;clear hx P Q S r;go_enter func159,ntmps159;go_wp2_with fail;refine(U.o q T w).mono ?_;rintro g w1 ⟨r0,i0,rfl,d,r⟩;have S1:=ae (e.o.step r);have ac:=ae d;clear d r e;go_upto_region 6 with fail;have V:=ae (Blk.new w1 273 (#[bool false,bool false,bool false,bool false,bool false,bool false,bool false,bool false,bool false,bool false,bool false,bool false,bool false,bool false,bool false,bool false,bool false,bool false,bool false,bool false,bool false,bool false,bool false,bool false,bool false,bool false,bool false,bool false,bool false,bool false,bool false,bool false,bool false,bool false,bool false,bool false,bool false,bool false,bool false,bool false,bool false,bool false,bool false,bool false,bool false,bool false,bool false,bool false,bool false,bool false,bool false,bool false,bool false,bool false,bool false,bool false,bool false,bool false,bool false,bool false,bool false,bool false,bool false,bool false]:Array Value));have ad:PH (Below w1.heap.size w1 (w1.alloc (cells #[bool false,bool false,bool false,bool false,bool false,bool false,bool false,bool false,bool false,bool false,bool false,bool false,bool false,bool false,bool false,bool false,bool false,bool false,bool false,bool false,bool false,bool false,bool false,bool false,bool false,bool false,bool false,bool false,bool false,bool false,bool false,bool false,bool false,bool false,bool false,bool false,bool false,bool false,bool false,bool false,bool false,bool false,bool false,bool false,bool false,bool false,bool false,bool false,bool false,bool false,bool false,bool false,bool false,bool false,bool false,bool false,bool false,bool false,bool false,bool false,bool false,bool false,bool false,bool false] 273))):=ae ((az w1.heap.size w1).alloc (aj _) _);have e:(w1.alloc (cells #[bool false,bool false,bool false,bool false,bool false,bool false,bool false,bool false,bool false,bool false,bool false,bool false,bool false,bool false,bool false,bool false,bool false,bool false,bool false,bool false,bool false,bool false,bool false,bool false,bool false,bool false,bool false,bool false,bool false,bool false,bool false,bool false,bool false,bool false,bool false,bool false,bool false,bool false,bool false,bool false,bool false,bool false,bool false,bool false,bool false,bool false,bool false,bool false,bool false,bool false,bool false,bool false,bool false,bool false,bool false,bool false,bool false,bool false,bool false,bool false,bool false,bool false,bool false,bool false] 273)).heap.size=w1.heap.size+1:=by simp
 generalize d:(#[bool false,bool false,bool false,bool false,bool false,bool false,bool false,bool false,bool false,bool false,bool false,bool false,bool false,bool false,bool false,bool false,bool false,bool false,bool false,bool false,bool false,bool false,bool false,bool false,bool false,bool false,bool false,bool false,bool false,bool false,bool false,bool false,bool false,bool false,bool false,bool false,bool false,bool false,bool false,bool false,bool false,bool false,bool false,bool false,bool false,bool false,bool false,bool false,bool false,bool false,bool false,bool false,bool false,bool false,bool false,bool false,bool false,bool false,bool false,bool false,bool false,bool false,bool false,bool false]:Array Value)=cs at*;obtain rfl:cs=jZ (L.take 0):=by rw[<-d,take_zero];rfl
 clear d;generalize w1.alloc (cells (jZ (L.take 0)) 273)=s at*;obtain⟨d,H⟩:∃d,d=w1.heap.size:=⟨_,rfl⟩;rw[<-H] at V e ⊢;have av:PH (w1.heap.size<=d):=ae (by omega);have I:PH (s.heap.size=d+1/\w1.heap.size<=s.heap.size):=ae (by omega);have ag:PH (OwnS s s.heap.size 277 2 (λ_=>False) (slice none 0 0) (([]:List gJ).map λy=>sH y.s y.x)):=ae (OwnS.nil _ _ _ _ _);clear H e;go_wp2_with fail;go_loopw [8,37] (λv i wr=>∃(b:Nat) (f:List gJ),b<=n/\i=int i64 b/\PH (f.map gJ.s=L.take b)/\PH (OwnS wr s.heap.size 277 2 (λ_=>False) v (f.map λy=>sH y.s y.x))/\PH (Blk wr d 273 (jZ (L.take b)))/\PH (Below w1.heap.size w1 wr)) (λ_ i _=>n-(intOf i).toNat)
 case atStart=>exact⟨0,[],by omega,rfl,ae rfl,ag,V,ad⟩
 case round=>
  clear ag V ad;obtain⟨b,f,aT,rfl,t,u,z,J⟩:=hrel;have K:=ae (S1.o.step J.o);obtain⟨a8,j,W,rfl⟩:=u.o.sl;by_cases ak:b<n
  ·have aw:(b:Int)<(n:Int):=by omega
   have m:b<L.length:=(by rw[G.o];exact ak);obtain⟨a',c',g,e,-⟩:=dI (K.o.rep 0 rfl) G.o;injection g with e1 X Y;subst e1 Y;obtain⟨A,o',rfl,r,E⟩:=e.2 (by omega);have Z:=E b (int i64 (L.getD b 0:Nat)) (bT m);have M:L.getD b 0<64:=aq.o _ (by rw[af,ah m];exact aQ m);have D:PH (L.take (b+1)=L.take b++[L.getD b 0]):=ae (by rw[aN m,af,ah m];rfl)
   have O:L.getD b 0∉L.take b:=λk=>by
    have l:(L.take (b+1)).Nodup:=List.Nodup.sublist (take_sublist _ _) au.o;rw[D.o,nodup_append] at l;exact l.2.2 _ k _ (mem_singleton.2 rfl) rfl
   generalize L.getD b 0=x at*;have aB:(x:Int)<64:=(by omega);have aD:(0:Int)<=(x:Int):=(by omega);have d0:wr.cell? ⟨d,x,none⟩=some (bool false):=(z.o.cell x).trans (by rw[rf _ M,decide_eq_false O]);have f0:wr.frozen? ⟨d,x,none⟩=false:=z.o.frozen x;have H:w1.heap.size<=d:=av.o;have k:PH (Below w1.heap.size w1 (wr.setCell ⟨d,x,none⟩ (bool true))):=ae (J.o.setCell (p:=⟨d,x,none⟩) H _);have N:PH (Blk (wr.setCell ⟨d,x,none⟩ (bool true)) d 273 (jZ (L.take (b+1)))):=ae (by rw[D.o,<-F7 _ M];exact z.o.set x (bool true));have ab:PH (OwnS (wr.setCell ⟨d,x,none⟩ (bool true)) s.heap.size 277 2 (λ_=>False) (slice a8 j W) (f.map λy=>sH y.s y.x)):=ae (u.o.keepAt (λA r=>bE _ _ _ A λg=>Ty.ne2 g (u.o.ownTy A r) (Blk.ty z.o) (by decide)) λA r _ _=>r.elim);clear J z u E e K O m;go_wp2_with fail;clear Z d0 f0;generalize wr.setCell ⟨d,x,none⟩ (bool true)=w3 at*;refine(U.o x M w3).mono ?_;rintro g E ⟨rk,ik,rfl,O,e⟩;have an:=ae O;have Z:=ae (k.o.trans (e.mono k.o.size));have aa:=ae (N.o.below e N.o.lt);have al:=ae (ab.o.new e);clear O e k N ab;go_wp2_with fail;refine(CF.o x M rk ik r0 i0 an.o ac.o E).mono ?_;rintro g k ⟨e,rfl,N,rfl⟩;have ao:PH ((f++[(⟨x,e,_,N⟩:gJ)]).map gJ.s=L.take (b+1)):=ae (by rw[aU,t.o,D.o];rfl);have am:PH ((f++[(⟨x,e,_,N⟩:gJ)]).map (λy=>sH y.s y.x)=f.map (λy=>sH y.s y.x)++[sH x e]):=ae (by rw[aU];rfl);generalize f++[(⟨x,e,_,N⟩:gJ)]=d5 at*;have ap:s.heap.size<=E.heap.size:=by have:=aa.o.lt;have:=I.o;omega
   have O:(f.map λy=>sH y.s y.x).length<=1000000:=by
    have l:=congrArg List.length t.o;rw[aC,aG] at l;rw[aC];omega
   have HR:PH ((sH x e).ok E (λA=>False/\some A≠(Value.slice a8 j W).ownBlock) [int i64 x,.float .f64 e]):=ae (Co (by intro aE hu;simp at hu;rcases hu with rfl | rfl <;> rfl));clear N t;generalize (f.map λy=>sH y.s y.x)=LL at*
   go_wp2_with (at_builtin;refine gT (w:=E) (w1:=E) rfl _ _ rfl underlying272 Jl rfl (by decide) (by decide) al.o (az _ _) ap O (R:=sH x e) HR.o rfl rfl rfl ?_)
   intro v6 w6 N ab;rw[<-am.o] at N;have ax:=ae N;have ay:=ae (Z.o.trans (ab.mono (by have:=Z.o.size;have:=I.o;omega)));have aA:PH (Blk w6 d 273 (jZ (L.take (b+1)))):=ae ((ab.block d (by have:=I.o;omega)).trans aa.o);obtain⟨a6,n6,c6,rfl⟩:=N.sl;clear N ab al aa Z HR O am;go_wp2_with fail;go_roundw
   case rel=>exact⟨b+1,d5,by omega,by go_num,ao,ax,aA,ay⟩
   case measure=>simp[intOf];omega
  ·obtain rfl:b=n:=by omega
   have A:f.length=b:=by
    have l:=congrArg List.length t.o;rw[aC,aG,G.o] at l;omega
   have N:PH (f.map gJ.s=L):=ae (by rw[t.o,aJ (by rw[G.o];exact aj _)]);obtain⟨g2,c2,X,M,e,E⟩:=LG u.o (by omega);rw[A] at X;injection X with Y e4 e5;subst Y e4 e5;have Z:=ae (EU f g2 j W wr E e A (by omega));have ax:PH (w.heap.size<=g2):=ae (by have:=S1.o.1.size;have:=I.o.2;omega);clear u J E M e U CF ac z t;go_wp2_with fail;refine Z.o.mono ?_;rintro g k ⟨rfl,e,E,aa,ab⟩;have ay:=ae aa;have aA:PH ((e.map gJ.s).Perm L):=ae (by have h:=E.map gJ.s;rwa [N.o] at h);have aB:e.length=j:=E.length_eq.trans A;have M:=ae (K.o.1.trans (ab _ ax.o));have al:PH (OwnI k k.heap.size (slice none 0 0) ((e.map gJ.s).take 0)):=ae (OwnI.nil _ _);have am:=ae (az k.heap.size k);clear ab Z K aa E N A;go_wp2_with fail;go_loopw [12,69] (λv i wr=>∃b:Nat,b<=j/\i=int i64 b/\PH (OwnI wr k.heap.size v ((e.map gJ.s).take b))/\PH (Below k.heap.size k wr)) (λ_ i _=>j-(intOf i).toNat)
   case atStart=>exact⟨0,by omega,rfl,al,am⟩
   case round=>
    clear al am;obtain⟨b,aV,rfl,A,E⟩:=hrel;obtain⟨a7,n7,c7,rfl⟩:=A.o.sl;by_cases ak:b<j
    ·have aw:(b:Int)<(j:Int):=by omega
     have N:=(ay.o.below E.o).2 b (by omega);have ap:=N.1;have aD:=N.2
     have D:PH ((e.map gJ.s).take (b+1)=(e.map gJ.s).take b++[(e.getD b default).s]):=ae (by
      have m:b<(e.map gJ.s).length:=(by rw[aC];omega);rw[aN m,getElem_map,af,ah (by omega)];rfl)
     have O:((e.map gJ.s).take b).length<=1000000:=(by rw[aG];omega);generalize (e.getD b default).s=y at*;generalize (e.getD b default).x=Z at*;generalize (e.map gJ.s).take b=LL at*;have aa:=(az wr.heap.size wr).alloc (aj _) (cells #[int i64 y,.float .f64 Z] 277);have an:=ae (Blk.new wr 277 #[int i64 y,.float .f64 Z]);have ao:=ae (A.o.below aa);have ab:=ae (E.o.trans (aa.mono E.o.size));have aE:=ab.o.size;clear aa N A E;go_upto_region 18 with fail;clear ap aD;generalize wr.alloc (cells #[int i64 y,.float .f64 Z] 277)=w7 at*;have z0:w7.cell? ⟨wr.heap.size,0,none⟩=some (int i64 y):=an.o.cell 0
     go_wp2_with (at_builtin;refine kQ (w:=w7) (C:=k.heap.size) (y:=y) rfl _ _ rfl rfl ao.o aE O rfl rfl ?_)
     intro v9 w9 N aa;rw[<-D.o] at N;have ap:=ae N;have aD:=ae (ab.o.trans aa);clear N aa ao ab an z0;obtain⟨N,n9,c9,rfl⟩:=ap.o.sl;go_wp2_with fail;go_roundw
     case rel=>exact⟨b+1,by omega,by go_num,ap,aD⟩
     case measure=>simp[intOf];omega
    ·obtain rfl:b=j:=by omega
     have m:PH ((e.map gJ.s).take b=e.map gJ.s):=ae (aJ (by rw[aC,aB];exact aj _));rw[m.o] at A;go_wp2_with fail;go_ret;exact⟨_,_,rfl,aA.o,A.o.base M.o.size,M.o.trans (E.o.mono M.o.size)⟩
end
def noT(K H Z o b:Nat):Prop:=∀a,a<16->dK K H Z (ia o b a:Nat) (range K)=false
theorem Lg(K H Z o b:Nat):(∃t,rH K H Z o b t)\/noT K H Z o b:=by
 have c:∀a,a<=16->(∃t,t<a/\rH K H Z o b t)\/∀t,t<a->dK K H Z (ia o b t:Nat) (range K)=false:=by
  intro a
  induction a with
  | zero=>intro _;exact .inr λt e=>by omega
  | succ a f=>
    intro h;rcases f (by omega) with⟨t,d,g⟩ | c
    ·exact .inl ⟨t,by omega,g⟩
    ·cases hf:dK K H Z (ia o b a:Nat) (range K) with
     | true=>exact .inl ⟨a,by omega,by omega,hf,c⟩
     | false=>
       refine .inr λt e=> ?_;rcases bq t a with d | d
       ·exact c t d
       ·rw[show t=a by omega];exact hf
 rcases c 16 (aj _) with⟨t,_,c⟩ | c
 ·exact .inl ⟨t,c⟩
 ·exact .inr c
theorem Ij(K H Z o b:Nat)(w:World)(l:fB K H Z=true)(m:o<=16777215)(n:b<=8)(p:noT K H Z o b):
 Calls prog 155 #[dD K H Z,int i64 o,int i64 b] w λa c=>a=returned (.tuple #[int i64 0,bool false])/\Below w.heap.size w c:=by
 have t:PH (Sx w (w.alloc (cells #[int i64 K,int i64 H,int i64 Z] 25)) [bS w.heap.size 25 #[int i64 K,int i64 H,int i64 Z]]):=
  ae ((((Sx.nil w).alloc _).add (bS _ _ _) (Blk.new w 25 #[int i64 K,int i64 H,int i64 Z])))
 have u:=ae λ(a:Nat) (d:a<=16) w=>kU o b a w m n d;have q:=ae λ(a:Nat) (d:a<=16) w=>lH K H Z (ia o b a:Nat) w l (by omega) (by unfold ia;omega);have v:=ae p;clear l m n p;unfold dD at q ⊢;go_enter func155,ntmps155;go_wp2_with fail;generalize w.alloc (cells #[int i64 K,int i64 H,int i64 Z] 25)=d at*;have r:=ae (az d.heap.size d);go_loopw [9] (λe wr=>∃a:Nat,a<=16/\e=int i64 a/\PH (Below d.heap.size d wr)) (λe _=>16-(intOf e).toNat)
 case atStart=>exact⟨0,by omega,rfl,r⟩
 case round=>
  clear r;obtain⟨a,E,rfl,i⟩:=hrel;have j:=ae (t.o.step i.o);have x:a=16\/a<16:=(by omega);rcases x with rfl | e
  ·go_wp2_with fail
   go_ret2;exact⟨rfl,j.o.1⟩
  ·have F:(a:Int)<16:=by omega
   have y:=ae (u.o a (by omega));have k:=ae (q.o a (by omega));obtain⟨f,g,s⟩:=lQ (j.o.blk 0 rfl);rw[show dK (K:Nat) H Z (ia o b a:Nat) (range K)=false from v.o a e] at k;have z:=ae e;clear e;unfold ia at k;go_upto_region 4 with fail;clear f g s;refine bL (by kernel_rfl) (by kernel_rfl) ?_
   iterate 6 (
    with_reducible refine wpQuiet_step (λA f=> ?_)
    go_simp
    first
    | refine f _ ?_
    | refine⟨_,λ_ _=>rfl,f _ ?_⟩
    | (apply Exists.intro
       refine⟨λc g=> ?_,f _ ?_⟩
       ·obtain⟨G,I,J⟩:=lQ ((j.o.step g).blk 0 rfl)
        first
        | (go_simp
           first | exact rfl | exact⟨rfl,rfl⟩)
        | (go_at_call 114
           refine(y.o c).mono ?_;rintro C s ⟨rfl,rfl⟩;exact⟨rfl,g⟩)
        | (go_at_call 214
           refine(k.o c).mono ?_;rintro C s ⟨rfl,D⟩;exact⟨rfl,g.trans (D.mono g.size)⟩))
    clear f A)
   with_reducible refine wpQuiet_nil ?_
   intro s f;have A:=ae (i.o.trans (f.mono i.o.size));clear f;go_wp2_with fail;have e:=z.o;go_roundw
   case rel=>exact⟨a+1,by omega,by go_num,A⟩
   case measure=>simp[intOf];omega
def zt(K H Z o n:Nat)(T:PI):Prop:=T.length=n/\∀a,a<n->rH K H Z o a (T.getD a 0)
theorem NM{K H Z o n t:Nat}{T:PI}(a:zt K H Z o n T)(d:rH K H Z o n t):zt K H Z o (n+1) (T++[t]):=by
 obtain⟨c,e⟩:=a;refine⟨by rw[aH,c];rfl,λb f=> ?_⟩;rcases bq b n with a | a
 ·rw[af,List.getElem?_append_left (by omega),<-af];exact e b a
 ·obtain rfl:b=n:=by omega
  rw[af,List.getElem?_append_right (by omega),c,Nat.sub_self];exact d
theorem NN(K H Z o n:Nat)(w:World)(q:fB K H Z=true)(r:o<=16777215)(M:n<=8):
 Calls prog 102 #[dD K H Z,int i64 o,int i64 n] w λa c=>Below w.heap.size w c/\((∃v T,a=returned (.tuple #[v,bool true])/\OwnI c w.heap.size v T/\zt K H Z o n T)\/(a=returned (.tuple #[slice none 0 0,bool false])/\∃b,b<n/\noT K H Z o b)):=by
 have t:PH (Sx w (w.alloc (cells #[int i64 K,int i64 H,int i64 Z] 25)) [bS w.heap.size 25 #[int i64 K,int i64 H,int i64 Z]]):=
  ae ((((Sx.nil w).alloc _).add (bS _ _ _) (Blk.new w 25 #[int i64 K,int i64 H,int i64 Z])))
 have l:=ae λ(b f:Nat) (a:b<n) (c:rH K H Z o b f) w=>Nv K H Z o b f w q r (by omega) c;have m:=ae λ(b:Nat) (a:b<n) (c:noT K H Z o b) w=>Ij K H Z o b w q r (by omega) c;have V:n<=8:=M;unfold dD at l m ⊢;clear q r;go_enter func102,ntmps102;go_wp2_with fail;have N:w.heap.size<=(w.alloc (cells #[int i64 K,int i64 H,int i64 Z] 25)).heap.size:=t.o.1.size;generalize w.alloc (cells #[int i64 K,int i64 H,int i64 Z] 25)=d at*;have u:=ae (az d.heap.size d);have x:PH (OwnI d d.heap.size (slice none 0 0) []):=ae (OwnI.nil _ _);have z:PH (zt K H Z o 0 []):=ae ⟨rfl,λb a=>by omega⟩;go_loopw [8,13] (λv e wr=>∃(a:Nat) (T:PI),a<=n/\e=int i64 a/\PH (OwnI wr d.heap.size v T)/\PH (zt K H Z o a T)/\PH (Below d.heap.size d wr)) (λ_ e _=>n-(intOf e).toNat)
 case atStart=>exact⟨0,[],by omega,rfl,x,z,u⟩
 case round=>
  clear u x z;obtain⟨a,T,W,rfl,g,i,j⟩:=hrel;have k:=ae (t.o.step j.o);obtain⟨X,Y,cv,rfl⟩:=g.o.sl;by_cases p:a<n
  ·have aa:(a:Int)<(n:Int):=by omega
   obtain⟨A,D,E⟩:=lQ (k.o.blk 0 rfl);have O:T.length<=1000000:=(by rw[i.o.1];omega);rcases Lg K H Z o a with⟨f,c⟩ | c
   ·have F:=ae (l.o a f p c)
    have P:=ae (NM i.o c);clear c l m;go_wp2_with fail;refine(F.o wr).mono ?_;rintro Q G ⟨rfl,e⟩;have I:=ae (g.o.below e);have s:=ae (j.o.trans (e.mono j.o.size));have R:=s.o.size;clear e A D E F g j k i
    go_wp2_with (at_builtin;refine kQ (w:=G) (C:=d.heap.size) (y:=f) rfl _ _ rfl rfl I.o R O rfl rfl ?_)
    intro v3 w3 J L;have S:=ae J;have U:=ae (s.o.trans L);clear J L I s;go_wp2_with fail;go_roundw
    case rel=>exact⟨a+1,_,by omega,by go_num,S,P,U⟩
    case measure=>simp[intOf];omega
   ·have s:=ae (m.o a p c)
    have F:=ae (And.intro p c);clear c l m p;go_wp2_with fail;refine(s.o wr).mono ?_;rintro Q G ⟨rfl,e⟩;have I:=ae (k.o.step e);clear e A D E s g j k i;go_wp2_with fail;go_ret2;exact⟨I.o.1,.inr ⟨rfl,a,F.o⟩⟩
  ·obtain rfl:a=n:=by omega
   go_wp2_with fail;go_ret2;exact⟨k.o.1,.inl ⟨_,T,rfl,g.o.base N,i.o⟩⟩
