import Derived.Test.YtgccllbnfngpcaaGreatDoorW2
import Derived.Deep.DeepCutAuto
import Derived.Deep.RegionLaw
set_option linter.unusedVariables false
set_option maxRecDepth 100000
set_option maxHeartbeats 400000000
namespace Go.Proofs.YtgccllbnfngpcaaGreatDoor
open Go.RowKit _root_.Go.Proofs.Tryz List
open Value (int slice pointer bool)
open IntKind (i64)
open Ending (returned)
open Obj (cells)
structure Chg (M:Nat->Prop) (w w':World):Prop where
 os:w'.os=w.os
 tape:w'.tape=w.tape
 output:w'.output=w.output
 size:w.heap.size<=w'.heap.size
 block:∀k,k<w.heap.size->¬M k->w'.heap[k]? =w.heap[k]?
theorem Chg.refl(M:Nat->Prop)(w:World):Chg M w w:=⟨rfl,rfl,rfl,aj _,λ_ _ _=>rfl⟩
theorem Chg.trans{M:Nat->Prop}{a b c:World}(d:Chg M a b)(k:Chg M b c):Chg M a c:=
 ⟨k.os.trans d.os,k.tape.trans d.tape,k.output.trans d.output,aP d.size k.size,λe f g=>(k.block e (aW f d.size) g).trans (d.block e f g)⟩
theorem Chg.mono{M N:Nat->Prop}{a b:World}(c:Chg M a b)(e:∀k,k<a.heap.size->M k->N k):Chg N a b:=⟨c.os,c.tape,c.output,c.size,λk d f=>c.block k d λg=>f (e k d g)⟩
theorem Chg.of{M:Nat->Prop}{a b:World}(c:Below a.heap.size a b):Chg M a b:=⟨c.os,c.tape,c.output,c.size,λd e _=>c.block d e⟩
theorem Chg.grown{M:Nat->Prop}{a b:World}{r:Option Nat}(c:a.grownBy b r)(e:∀k,r=some k->k<a.heap.size->M k):Chg M a b:=⟨c.os,c.tape,c.output,c.size,λk d f=>c.block k d λg=>f (e k g.symm d)⟩
theorem Chg.below{M:Nat->Prop}{a b:World}{C:Nat}(c:Chg M a b)(f:C<=a.heap.size)(d:∀k,M k->C<=k):Below C a b:=⟨c.os,c.tape,c.output,c.size,λk e=>c.block k (by omega) λe=>by have:=d k e;omega⟩
theorem Chg.set{M:Nat->Prop}{a b:World}(c:Chg M a b)(p:Addr)(v:Value)(g:p.block<a.heap.size->M p.block):Chg M a (b.setCell p v):=
 ⟨c.os,c.tape,c.output,by simpa[World.setCell] using c.size,λd e f=>(bJ b p v d λh=>f (by subst h;exact g e)).trans (c.block d e f)⟩
theorem Blk.chg{w w':World}{M:Nat->Prop}{g:Nat}{t:TypeId}{a:Array Value}(b:Blk w g t a)(c:Chg M w w')(d:¬M g):Blk w' g t a:=(c.block g b.lt d).trans b
def pwC:Array Value:=#[bool false,bool false,int i64 0,int i64 0]
def PwS(w:World)(g:Nat):Prop:=Blk w g 138 pwC
theorem PwS.cells{w:World}{g:Nat}(a:PwS w g):w.cell? ⟨g,0,none⟩=some (bool false)/\w.cell? ⟨g,1,none⟩=some (bool false)/\w.cell? ⟨g,2,none⟩=some (int i64 0)/\w.cell? ⟨g,3,none⟩=some (int i64 0):=⟨Blk.cell a 0,Blk.cell a 1,Blk.cell a 2,Blk.cell a 3⟩
theorem Sl(w:World):Calls prog 42 #[] w λb a=>b=returned (pointer (some ⟨w.heap.size,0,none⟩))/\PwS a w.heap.size/\a=w.alloc (.cells pwC 138):=by
 go_enter func42,ntmps42;go_wp2_with fail;go_ret;exact⟨rfl,Blk.new w _ _,rfl⟩
theorem Dv(g:Nat)(w:World)(h:PwS w g):Calls prog 81 #[pointer (some ⟨g,0,none⟩)] w λa b=>a=returned (bool true)/\b=w:=by
 obtain⟨a,b,c,d⟩:=h.cells;go_enter func81,ntmps81;go_wp2_with fail;go_ret;exact⟨rfl,rfl⟩
theorem AV(g:Nat)(w:World)(h:PwS w g):Calls prog 89 #[pointer (some ⟨g,0,none⟩)] w λa b=>a=returned (int i64 0)/\b=w:=by
 obtain⟨a,b,c,d⟩:=h.cells;go_enter func89,ntmps89;go_wp2_with fail;go_ret;exact⟨rfl,rfl⟩
theorem AX(g:Nat)(w:World)(h:PwS w g):Calls prog 200 #[pointer (some ⟨g,0,none⟩)] w λa b=>a=returned (bool true)/\b=w:=by
 obtain⟨c,d,e,f⟩:=h.cells;have b:=ae (Dv g w h);go_enter func200,ntmps200;go_wp2_with fail;refine b.o.mono ?_;rintro a i ⟨rfl,rfl⟩;go_wp2_with fail;go_ret;exact⟨rfl,rfl⟩
def drC(p a:Nat)(v:Value)(b:Nat):Array Value:=#[pointer (some ⟨p,0,none⟩),int i64 a,v,int i64 b,slice none 0 0,bool false,bool false]
def DrB(w:World)(g p a:Nat)(v:Value)(b:Nat):Prop:=Blk w g 88 (drC p a v b)
theorem DrB.cells{w:World}{g p b:Nat}{v:Value}{c:Nat}(a:DrB w g p b v c):w.cell? ⟨g,0,none⟩=some (pointer (some ⟨p,0,none⟩))/\w.cell? ⟨g,1,none⟩=some (int i64 b)/\w.cell? ⟨g,2,none⟩=some v/\
 w.cell? ⟨g,3,none⟩=some (int i64 c)/\w.cell? ⟨g,4,none⟩=some (slice none 0 0)/\w.cell? ⟨g,5,none⟩=some (bool false)/\w.cell? ⟨g,6,none⟩=some (bool false):=⟨Blk.cell a 0,Blk.cell a 1,Blk.cell a 2,Blk.cell a 3,Blk.cell a 4,Blk.cell a 5,Blk.cell a 6⟩
theorem Sm(n p:Nat)(w:World)(c:1<=n/\n<=512):Calls prog 61 #[int i64 n,pointer (some ⟨p,0,none⟩)] w λb a=>b=returned (pointer (some ⟨w.heap.size,0,none⟩))/\DrB a w.heap.size p n (slice none 0 0) 0/\Below w.heap.size w a:=by
 have a:¬(n:Int)<1:=by omega
 have b:¬(512:Int)<(n:Int):=by omega
 have d:(decide ((n:Int)<1))=false:=by simpa using a
 have e:(decide ((512:Int)<(n:Int)))=false:=by simpa using b
 go_enter func61,ntmps61;go_wp2_with fail;go_ret;exact⟨rfl,Blk.new w _ _,(aC _ _).alloc (aj _) _⟩
theorem GN(g p a b:Nat)(v:Value)(w:World)(h:DrB w g p a v b):Calls prog 199 #[pointer (some ⟨g,0,none⟩)] w λc d=>c=returned (int i64 a)/\d=w:=by
 obtain⟨c,d,e,f,i,j,k⟩:=h.cells;go_enter func199,ntmps199;go_wp2_with fail;go_ret;exact⟨rfl,rfl⟩
theorem NY(g p b d n c:Nat)(a:SE)(w:World)(h:DrB w g p b (slice a n c) d):Calls prog 133 #[pointer (some ⟨g,0,none⟩)] w λe f=>e=returned (int i64 n)/\f=w:=by
 obtain⟨e,f,i,j,k,l,m⟩:=h.cells;go_enter func133,ntmps133;go_wp2_with fail;go_ret;exact⟨rfl,rfl⟩
theorem sU(g p a b:Nat)(v:Value)(w:World)(h:DrB w g p a v b):Calls prog 90 #[pointer (some ⟨g,0,none⟩)] w λc d=>c=returned (bool false)/\d=w:=by
 obtain⟨c,d,e,f,i,j,k⟩:=h.cells;go_enter func90,ntmps90;go_wp2_with fail;go_ret;exact⟨rfl,rfl⟩
theorem AY(g p b c:Nat)(v:Value)(w:World)(h:DrB w g p b v c):Calls prog 201 #[pointer (some ⟨g,0,none⟩)] w λd a=>d=returned (int i64 0)/\DrB a g p b v c/\Chg (·=g) w a:=by
 obtain⟨i,j,k,l,m,n,o⟩:=h.cells;have q:=Blk.frozen h 4;have r:=Blk.frozen h 5;have a:=Blk.set h 4 (slice none 0 0);have d:=Blk.set a 5 (bool false);have s:=Blk.frozen a 5;have t:(w.setCell ⟨g,4,none⟩ (slice none 0 0)).cell? ⟨g,5,none⟩=some (bool false):=Blk.cell a 5;have e:=ae d;have f:Sz (Chg (·=g) w ((w.setCell ⟨g,4,none⟩ (slice none 0 0)).setCell ⟨g,5,none⟩ (bool false))):=ae (((Chg.refl (·=g) w).set ⟨g,4,none⟩ _ λ_=>rfl).set ⟨g,5,none⟩ _ λ_=>rfl);clear a d;go_enter func201,ntmps201;go_wp2_with fail;go_ret;exact⟨rfl,e.o,f.o⟩
theorem Qt(g p a i:Nat)(v:Value)(w:World)(h:DrB w g p a v i)(j:PwS w p):Calls prog 204 #[pointer (some ⟨g,0,none⟩)] w λb c=>b=returned (int i64 0)/\DrB c g p a v 0/\Chg (·=g) w c:=by
 obtain⟨n,o,q,r,s,t,u⟩:=h.cells;have k:=ae (AX p w j);have x:=Blk.frozen h 3;have c:DrB (w.setCell ⟨g,3,none⟩ (int i64 0)) g p a v 0:=Blk.set h 3 (int i64 0);have d:=ae (AY g p a 0 v _ c);have e:Sz (Chg (·=g) w (w.setCell ⟨g,3,none⟩ (int i64 0))):=ae ((Chg.refl (·=g) w).set ⟨g,3,none⟩ _ λ_=>rfl);clear c;go_enter func204,ntmps204;go_wp2_with fail;refine k.o.mono ?_;rintro b y ⟨rfl,rfl⟩;go_wp2_with fail;refine d.o.mono ?_;rintro b z ⟨rfl,c,f⟩;have l:=ae c;have m:=ae (e.o.trans f);clear c f e d;go_wp2_with fail;go_ret;exact⟨rfl,l.o,m.o⟩
def xr(a b:SC):SC:=zipWith (·^^^ ·) a b
theorem kH{a b:SC}(c:a.length=b.length):(xr a b).length=a.length:=by unfold xr;rw[length_zipWith];omega
theorem nH{a b:SC}(d:a.length=b.length)(j:Nat):(xr a b).getD j 0=a.getD j 0 ^^^ b.getD j 0:=by
 unfold xr;rw[af,af,af,List.getElem?_zipWith];rcases bD j a.length with c | c
 ·rw[ah c,ah (by omega)];rfl
 ·rw[List.getElem?_eq_none c,List.getElem?_eq_none (by omega)];rfl
theorem xr_lt{a b:SC}(d:∀x∈a,x<256)(e:∀x∈b,x<256):∀x∈xr a b,x<256:=by
 intro x f;obtain⟨g,c,rfl⟩:=bH f;unfold xr at c ⊢;rw[length_zipWith] at c;rw[getElem_zipWith];exact Nat.xor_lt_two_pow (n:=8) (d _ (aQ _)) (e _ (aQ _))
theorem ext_get{a b:SC}(d:a.length=b.length)(e:∀j,a.getD j 0=b.getD j 0):a=b:=by
 refine ext_getElem d λf g h=> ?_;have c:=e f;rw[af,af,ah g,ah h] at c;exact c
def sX(m:Nat->Nat->Nat)(j:Nat):SC->Nat | []=>0 | c :: l=>m c j ^^^ sX m j l
theorem tF(m:Nat->Nat->Nat)(j:Nat)(p:Nat->Bool)(l:SC):sX m j l=sX m j (l.filter p) ^^^ sX m j (l.filter λa=> !p a):=by
 induction l with
 | nil=>simp[sX]
 | cons a l b=>
   rw[filter_cons,filter_cons];cases hp:p a with
   | true=>
     simp only[Bool.not_true,Bool.false_eq_true,if_true,if_false];show m a j ^^^ sX m j l=(m a j ^^^ _) ^^^ _;rw[Nat.xor_assoc,<-b]
   | false=>
     simp only[Bool.not_false,Bool.false_eq_true,if_true,if_false];show m a j ^^^ sX m j l=_ ^^^ (m a j ^^^ _);rw[<-Nat.xor_assoc,Nat.xor_comm _ (m a j),Nat.xor_assoc,<-b]
theorem nI{m a:Nat->Nat->Nat}{j:Nat}:∀ {l:SC},(∀c∈l,m c j=a c j)->sX m j l=sX a j l:=by
 intro l
 induction l with
 | nil=>intro _;rfl
 | cons c l d=>
   intro b;show m c j ^^^ sX m j l=a c j ^^^ sX a j l;rw[b c (by simp),d λe f=>b e (by simp[f])]
theorem KP{m:Nat->Nat->Nat}{j:Nat}{l:SC}{c:Nat}(b:c∈l)(d:l.Nodup):sX m j l=m c j ^^^ sX m j (l.filter λa=> !(a == c)):=by
 rw[tF m j (λa=>a == c) l];congr 1
 have:l.filter (λa=>a == c)=[c]:=by
  rw[filter_beq,d.count,bu b];rfl
 rw[this];show m c j ^^^ 0=m c j;exact Nat.xor_zero _
def bZ(m:Nat->SC)(cols:SC)(z:SC):SC:=cols.foldl (λa b=>xr a (m b)) z
theorem fM{m:Nat->SC}{Z:Nat}:∀ {cols:SC} {z:SC},z.length=Z->(∀c∈cols,(m c).length=Z)->(bZ m cols z).length=Z:=by
 intro cols
 induction cols with
 | nil=>intro z a _;exact a
 | cons c cols d=>
   intro z a b;exact d (by rw[kH (by rw[a,b c (by simp)])];exact a) λe f=>b e (by simp[f])
theorem jM{m:Nat->SC}{Z:Nat}(j:Nat):∀ {cols:SC} {z:SC},z.length=Z->(∀c∈cols,(m c).length=Z)->(bZ m cols z).getD j 0=z.getD j 0 ^^^ sX (λc j=>(m c).getD j 0) j cols:=by
 intro cols
 induction cols with
 | nil=>intro z a _;exact(Nat.xor_zero _).symm
 | cons c cols e=>
   intro z a b;have d:z.length=(m c).length:=(by rw[a,b c (by simp)]);show(bZ m cols (xr z (m c))).getD j 0=_;rw[e (by rw[kH d];exact a) λf g=>b f (by simp[g]),nH d,Nat.xor_assoc];rfl
theorem KQ{m v:Nat->SC}{Z:Nat}{cols:SC}{g:SC}(p:Nat->Bool)(d:∀c∈cols,(m c).length=Z)(i:∀c∈cols,p c=true->v c=m c)(j:g=bZ m cols (replicate Z 0)):
 bZ v (cols.filter p) g=bZ m (cols.filter λc=> !p c) (replicate Z 0):=by
 have e:(replicate Z 0:SC).length=Z:=aJ;have k:g.length=Z:=by rw[j];exact fM e d
 have l:∀c∈cols.filter p,(v c).length=Z:=λc b=>by
  obtain⟨f,h⟩:=mem_filter.1 b;rw[i c f h];exact d c f
 have n:∀c∈cols.filter (λc=> !p c),(m c).length=Z:=λc b=>d c (mem_filter.1 b).1;refine ext_get (by rw[fM k l,fM e n]) λa=> ?_;rw[jM a k l,jM a e n,j,jM a e d,tF (λc a=>(m c).getD a 0) a p cols]
 have o:sX (λc a=>(v c).getD a 0) a (cols.filter p)=sX (λc a=>(m c).getD a 0) a (cols.filter p):=nI λc b=>by
  obtain⟨f,h⟩:=mem_filter.1 b;show(v c).getD a 0=(m c).getD a 0;rw[i c f h]
 rw[o,Nat.xor_assoc,Nat.xor_comm (sX _ a (cols.filter p)),Nat.xor_assoc,Nat.xor_self,Nat.xor_zero]
def jf(c:Nat)(xs ys:SC)(k:Nat):SC:=(nJ c xs ys).take k++ys.drop k
theorem rJ{c:Nat}{xs ys:SC}(a:xs.length=ys.length){k:Nat}(b:k<=ys.length):(jf c xs ys k).length=ys.length:=by
 unfold jf;rw[aI,aH,length_drop,iQ a];omega
theorem oK{c:Nat}{xs ys:SC}(a:xs.length=ys.length):jf c xs ys ys.length=nJ c xs ys:=by
 unfold jf;rw[drop_length,append_nil,aN (by rw[iQ a];exact aj _)]
theorem rO{c:Nat}{xs ys:SC}(a:xs.length=ys.length){k:Nat}(b:k<ys.length):(jf c xs ys k).getD k 0=ys.getD k 0:=by
 unfold jf;rw[af,List.getElem?_append_right (by rw[aH,iQ a];omega),aH,iQ a,Nat.min_eq_left (by omega),Nat.sub_self,List.getElem?_drop,Nat.add_zero,af]
theorem rQ{c:Nat}{xs ys:SC}(a:xs.length=ys.length){k:Nat}(b:k<ys.length):(jf c xs ys k).set k (ys.getD k 0 ^^^ fm c (xs.getD k 0))=jf c xs ys (k+1):=by
 have d:k<(nJ c xs ys).length:=by rw[iQ a];exact b
 rw[<-oM a k];unfold jf;rw[set_append_right _ _ (by rw[aH];omega),aH,Nat.min_eq_left (by omega),Nat.sub_self];rw[aO d,append_assoc,singleton_append];congr 1;rw[drop_eq_getElem_cons b,set_cons_zero,af,ah d];rfl
theorem OwnB.form{w:World}{C:Nat}{v:Value}{l:SC}(a:OwnB w C v l)(b:0<l.length):∃g c,v=slice (some ⟨g,0,none⟩) l.length c/\C<=g/\g<w.heap.size:=World.ownsRow.form a b
theorem OwnB.cell{w:World}{C g n c:Nat}{l:SC}(a:OwnB w C (slice (some ⟨g,0,none⟩) n c) l)(b:l.length=n){k:Nat}(d:k<n):w.cell? ⟨g,k,none⟩=some (.int .u8 (l.getD k 0:Nat))/\w.frozen? ⟨g,k,none⟩=false:=by
 unfold OwnB at a;rw[b] at a;exact⟨(a.cellAt k (by omega)).trans (eP (by omega)),a.frozenAt k⟩
theorem ww(l:SC)(k x:Nat):(bK l).set k (.int .u8 (x:Nat))=bK (l.set k x):=by
 unfold bK;rw[map_set]
theorem OwnB.stored{w:World}{C g n c:Nat}{l:SC}(a:OwnB w C (slice (some ⟨g,0,none⟩) n c) l)(b:l.length=n)(k x:Nat):
 OwnB (w.setCell ⟨g,k,none⟩ (.int .u8 (x:Nat))) C (slice (some ⟨g,0,none⟩) n c) (l.set k x)/\w.grownBy (w.setCell ⟨g,k,none⟩ (.int .u8 (x:Nat))) (some g):=by
 unfold OwnB at a ⊢;rw[b] at a;rw[length_set,b,<-ww];exact a.stored k _
theorem grownBy_refl(w:World)(r:Option Nat):w.grownBy w r:=⟨rfl,rfl,rfl,aj _,λ_ _ _=>rfl⟩
theorem grownBy_trans{a b c:World}{r:Option Nat}(d:a.grownBy b r)(k:b.grownBy c r):a.grownBy c r:=
 ⟨k.os.trans d.os,k.tape.trans d.tape,k.output.trans d.output,aP d.size k.size,λe f g=>(k.block e (aW f d.size) g).trans (d.block e f g)⟩
theorem jJ{a b:World}{r:Option Nat}(c:a.grownBy b r)(j:Nat):a.grownBy (b.drewN j) r:=⟨c.os,c.tape,c.output,c.size,c.block⟩
theorem Blk.ne{w:World}{g a:Nat}{t t':TypeId}{b c:Array Value}(d:Blk w g t b)(e:Blk w a t' c)(f:t≠t'):g≠a:=by
 intro h;subst h;have:=d.symm.trans e;injection this with this;injection this with _ i;exact f i
theorem OI{w:World}{C g b n c:Nat}{l:SC}(d:OwnB w C (slice (some ⟨g,0,none⟩) n c) l)(e:Fld w b):b≠g:=by
 rcases d.2 with⟨a,_⟩ | ⟨h,i,j,a,_,f,_⟩
 ·simp at a
 ·injection a with a
  injection a with a;injection a with a;subst a;exact Blk.ne (t:=337) (t':=5) e f (by decide)
theorem OJ(j c:Nat)(xs ys:SC)(a:SE)(n L C:Nat)(u:Value)(w:World)(z:Fld w j)(M:c<256)(o:∀w',w.grownBy w' u.ownBlock->Rd w' w'.heap.size a n (bK xs))(p:OwnB w C u ys)(s:ys.length=n)(q:By xs)(t:By ys)(Y:n<=1000000):
 Calls prog 336 #[pointer (some ⟨j,0,none⟩),.int .u8 c,slice a n L,u] w λA w'=>A=returned (.tuple #[])/\OwnB w' C u (nJ c xs ys)/\w.grownBy w' u.ownBlock:=by
 have v:xs.length=n:=by have:=(o w (grownBy_refl _ _)).len;rwa [bL] at this
 by_cases B:c=0
 ·subst B
  rw[K7 (by omega)];clear o q t v s;have d:=ae p;clear p;go_enter func336,ntmps336;go_wp2_with fail
  (try simp only[Exit.inBlock,Exit.then]);refine bodyPost_ret (results_none rfl _ _ _) rfl ?_
  exact⟨rfl,d.o,grownBy_refl _ _⟩
 ·have Z:((c:Int) == 0)=false:=by simpa using B
  have D:=ae o;have N:=ae q;have O:=ae t;have r:=ae v;have e:=ae s;have d:Sz (OwnB w C u (jf c xs ys 0)):=ae p;have f:=ae z;clear o q t v s p z;go_enter func336,ntmps336;go_wp2_with fail;go_loopw [8,9,14] (λ_ _ g wr=>∃b:Nat,b<=n/\g=int i64 b/\Sz (OwnB wr C u (jf c xs ys b))/\Sz (Fld wr j)/\Sz (w.grownBy wr u.ownBlock)) (λ_ _ g _=>n-(intOf g).toNat)
  case atStart=>exact⟨0,by omega,rfl,d,f,ae (grownBy_refl _ _)⟩
  case round=>
   clear d f;obtain⟨b,hk,rfl,d,f,k⟩:=hrel;by_cases l:b<n
   ·have E:=D.o wr k.o
    obtain⟨bx,ox,rfl,q,m⟩:=E.atB l;have P:=m b l;have g:(jf c xs ys b).length=n:=(by rw[rJ (by rw[r.o,e.o]) (by rw[e.o];omega)];exact e.o);obtain⟨i,F,rfl,aa,ab⟩:=d.o.form (by omega);rw[g] at d k D ⊢;obtain⟨G,Q⟩:=d.o.cell g l;rw[rO (by rw[r.o,e.o]) (by rw[e.o];exact l)] at G;have x:=d.o.stored g b (ys.getD b 0 ^^^ fm c (xs.getD b 0));rw[rQ (by rw[r.o,e.o]) (by rw[e.o];exact l)] at x;have R:=getD_lt N.o b;have S:=getD_lt O.o b;have y:=OI d.o f.o;have T:=g;have U:=ae y;clear E m g y;generalize xs.getD b 0=y at*;generalize ys.getD b 0=H at*;have I:=ae (wJ j c y M R wr.drew (Blk.drew f.o));have V:=jq c y;generalize fm c y=J at*;have e1:=u8_xor_nat H J S V;generalize H ^^^ J=m at*;have K:=ae x;clear x;have ac:(b:Int)<(n:Int):=(by omega);go_wp2_with fail
    go_region_with ((go_at_call 307;refine I.o.mono ?_;rintro A w3 ⟨rfl,g,rfl⟩))
    all_goals(
     have x:Sz (OwnB ((wr.drewN (1+g)).setCell ⟨i,b,none⟩ (.int .u8 (m:Nat))) C (slice (some ⟨i,0,none⟩) n F) (jf c xs ys (b+1))):=ae K.o.1;have W:Sz (w.grownBy ((wr.drewN (1+g)).setCell ⟨i,b,none⟩ (.int .u8 (m:Nat))) (Value.slice (some ⟨i,0,none⟩) n F).ownBlock):=ae (grownBy_trans k.o (grownBy_trans (jJ (grownBy_refl _ _) (1+g)) ((OwnB.stored (d.o.drewN (1+g)) T b m).2)));have X:Sz (Fld ((wr.drewN (1+g)).setCell ⟨i,b,none⟩ (.int .u8 (m:Nat))) j):=ae (Blk.far (w:=wr.drewN (1+g)) f.o U.o _);clear K d k f I P G Q;generalize (wr.drewN (1+g)).setCell ⟨i,b,none⟩ (.int .u8 (m:Nat))=w4 at*;go_wp2_with fail;go_roundw
     case rel=>exact⟨b+1,by omega,by go_num,x,X,W⟩
     case measure=>simp[intOf];omega)
   ·obtain rfl:b=n:=by omega
    have g:jf c xs ys b=nJ c xs ys:=(by rw[<-e.o];exact oK (by rw[r.o,e.o]));rw[g] at d;go_wp2_with fail
    go_end0
    exact⟨rfl,d.o,k.o⟩
def dL(b:Nat->Act->World->Prop)(Q:Exit->Act->World->Prop):Exit->Act->World->Prop
 | .goto l',a,w=>b l' a w
 | e,a,w=>Q e a w
theorem jy{P:Program}{Q:Exit->Act->World->Prop}{c:Code}{a:Act}{w:World}(p:Nat->Nat->Act->World->Prop)
 (first:c.wp P (dL (λl a w=>∃n,p l n a w) Q) a w)
 (s:∀l n a w,p l n a w->∃rest,findLabel c l=some rest/\rest.wp P (dL (λg b d=>∃h,h<n/\p g h b d) Q) a w):(Code.scope c).wp P Q a w:=by
 intro q i r;have C:∀l rest,findLabel c l=some rest->gotoIn l (.inScope c :: i)=some (.code rest :: .inScope c :: i):=λl rest t=>by simp[gotoIn,t]
 have E:∀n l a w rest,p l n a w->findLabel c l=some rest->∃j b d,Q j b d/\Arrives P (lone (q.at a (.code rest :: .inScope c :: i)) r w) q i r j b d:=by
  intro n
  induction n using Nat.strongRecOn with
  | _ n ih=>
    intro l a w rest F t;obtain⟨G,D,H⟩:=s l n a w F;obtain rfl:rest=G:=(by rw[t] at D;exact Option.some.inj D);obtain⟨j,b,d,e,f⟩:=H q (.inScope c :: i) r;cases j with
    | normal=>exact⟨.normal,b,d,e,Steps.trans f (.one step_inScope)⟩
    | exit id=>exact⟨.exit id,b,d,e,λu v=>f u (by simp[exitTo,v])⟩
    | goto g=>
      obtain⟨h,I,k⟩:=e;obtain⟨m,o,_⟩:=s g h b d k;obtain⟨x,y,z,A,B⟩:=ih h I g b d m k o;exact⟨x,y,z,A,.of_steps (f _ (C g m o)) B⟩
    | ret=>exact⟨_,b,d,e,f⟩
    | panic ch=>exact⟨_,b,d,e,f⟩
    | outgrown=>exact⟨_,b,d,e,f⟩
 obtain⟨j,b,d,e,f⟩:=first q (.inScope c :: i) r
 cases j with
 | normal=>exact⟨.normal,b,d,e,.head step_scope (Steps.trans f (.one step_inScope))⟩
 | exit id=>exact⟨.exit id,b,d,e,λu v=>.head step_scope (f u (by simp[exitTo,v]))⟩
 | goto g=>
   obtain⟨h,k⟩:=e;obtain⟨m,o,_⟩:=s g h b d k;obtain⟨x,y,z,A,B⟩:=E h g b d m k o;exact⟨x,y,z,A,.of_steps (.head step_scope (f _ (C g m o))) B⟩
 | ret=>exact⟨_,b,d,e,.of_steps (.one step_scope) f⟩
 | panic ch=>exact⟨_,b,d,e,.of_steps (.one step_scope) f⟩
 | outgrown=>exact⟨_,b,d,e,.of_steps (.one step_scope) f⟩
theorem Bo{P:Program}{Q:Exit->Act->World->Prop}{a:Act}{w:World}{j rest:Code}(l m:Nat)(y:l≠m)(i:Nat->Act->World->Prop)(K:Act->World->Prop)(o:Nat)(p:Code)
 (t:findLabel (j.seq ((Code.label l).seq rest)) l=some (Code.skip.seq rest))
 (u:findLabel (j.seq ((Code.label l).seq rest)) m=some (Code.skip.seq p))
 (first:j.wp P (Exit.then (i o) (dL (λ_ _ _=>False) Q)) a w)
 (q:∀n a w,i n a w->rest.wp P (dL (λe c d=>(e=l/\∃f,f<n/\i f c d)\/(e=m/\K c d)) Q) a w)
 (v:∀a w,K a w->p.wp P (dL (λ_ _ _=>False) Q) a w):(Code.scope (j.seq ((Code.label l).seq rest))).wp P Q a w:=by
 have r:∀n (g:Exit) (c:Act) (d:World),dL (λe c d=>(e=l/\∃f,f<n/\i f c d)\/(e=m/\K c d)) Q g c d->dL (λe c d=>∃f,f<n+1/\((e=l/\∃h,f=h+1/\i h c d)\/(e=m/\f=0/\K c d))) Q g c d:=by
  intro n g c d b;cases g with
  | goto e=>
    rcases b with⟨k,f,s,x⟩ | ⟨k,s⟩
    ·exact⟨f+1,by omega,.inl ⟨k,f,rfl,x⟩⟩
    ·exact⟨0,by omega,.inr ⟨k,rfl,s⟩⟩
  | normal=>exact b
  | exit id=>exact b
  | ret=>exact b
  | panic ch=>exact b
  | outgrown=>exact b
 refine jy (λe n a w=>(e=l/\∃h,n=h+1/\i h a w)\/(e=m/\n=0/\K a w)) ?_ ?_
 ·refine wp_seq (wp_mono first ?_)
  intro g c d b;cases g with
  | normal=>
    refine wp_seq (wp_label ?_);refine wp_mono (q o c d b) ?_;intro g c d b;have:=r _ g c d b;cases g with
    | goto e=>obtain⟨f,_,k⟩:=this;exact⟨f,k⟩
    | normal=>exact b
    | exit id=>exact b
    | ret=>exact b
    | panic ch=>exact b
    | outgrown=>exact b
  | goto e=>exact b.elim
  | exit id=>exact b
  | ret=>exact b
  | panic ch=>exact b
  | outgrown=>exact b
 ·intro e n a w f
  rcases f with⟨rfl,h,rfl,f⟩ | ⟨rfl,rfl,k⟩
  ·exact⟨_,t,wp_seq (wp_skip (wp_mono (q h a w f) (r h)))⟩
  ·refine⟨_,u,wp_seq (wp_skip (wp_mono (v a w k) ?_))⟩
   intro g c d b;cases g with
   | goto e=>exact b.elim
   | normal=>exact b
   | exit id=>exact b
   | ret=>exact b
   | panic ch=>exact b
   | outgrown=>exact b
def nC(M:List SC)(col i k:Nat):Int:=match nK M col i k with | some a=>(a:Int) | none=> -1
theorem H6(M:List SC)(col i:Nat):nC M col i 0= -1:=rfl
theorem K6{M:List SC}{col i k:Nat}(a:gt M i col≠0):nC M col i (k+1)=i:=by unfold nC;rw[nK,bu a]
theorem H8{M:List SC}{col i k:Nat}(a:gt M i col=0):nC M col i (k+1)=nC M col (i+1) k:=by unfold nC;rw[nK,bA (λb=>b a)]
theorem FX{a b:Int}(c:a=b):Ending.returned (int i64 a)=returned (int i64 b):=by rw[c]
theorem D8(n m b col:Nat)(M:List SC)(B:Nat)(a:SE)(c:Nat)(w:World)(h:RdM w B a m M)(K:Wf n M)(L:col<n)(Q:b<=m)(T:m<=1000000)(U:n<=1000000):
 Calls prog 333 #[slice a m c,int i64 b,int i64 col] w λe d=>e=returned (int i64 (nC M col b (m-b)))/\w=d:=by
 have N:=ae h;have R:=ae K;clear h K;go_enter func333,ntmps333;go_wp2_with fail
 refine Bo 0 1 (by decide) (λC f d=>∃(i:Nat) (u8 g j k l o p q r s t u v x y z:Value),(i<=m/\m-i<C/\Sz (nC M col i (m-i)=nC M col b (m-b))/\w=d)/\
  f= { tmps:=#[slice a m c,int i64 b,int i64 col,undef,undef,undef,int i64 0,int i64 i,u8,g,j,k,l,o,p,q,r,s,t,u,v,x,y,z],defers:=[] }) (λf d=>∃(i:Nat) (u8 g j k l o p q r s t u v x y z:Value),(Sz ((i:Int)=nC M col b (m-b))/\w=d)/\
  f= { tmps:=#[slice a m c,int i64 b,int i64 col,undef,undef,undef,int i64 0,int i64 i,u8,g,j,k,l,o,p,q,r,s,t,u,v,x,y,z],defers:=[] }) (m-b+1) _ rfl rfl ?_ ?_ ?_
 ·go_wp2_with fail
  exact⟨b,_,_,_,_,_,_,_,_,_,_,_,_,_,_,_,_,⟨Q,by omega,ae rfl,by first | rfl | trivial⟩,rfl⟩
 ·rintro C f d ⟨i,u8,g,j,k,l,o,p,q,r,s,t,u,v,x,y,z,⟨V,W,e,rfl⟩,rfl⟩
  by_cases O:i<m
  ·obtain⟨X,Y,f,Z,rfl,hb,S,D,_⟩:=N.o.at O
   have G:=(R.o.get (i:=i) (by rw[N.o.len];exact O)).1;rw[G] at S D;obtain⟨bx,ox,rfl,aa,H⟩:=D.atB L;have P:=H col L;have E:m-i=(m-(i+1))+1:=(by omega);have I:(M.getD i []).getD col 0=gt M i col:=rfl;rw[I] at P;have ab:(i:Int)<(m:Int):=(by omega);have ac:(col:Int)<(n:Int):=(by omega);by_cases F:gt M i col=0
   ·have A:Sz (nC M col (i+1) (m-(i+1))=nC M col b (m-b)):=ae (by rw[<-e.o,E,H8 F])
    rw[F] at P;clear H D G E I F e;obtain⟨J,rfl⟩:∃J,C=J+1:=⟨C-1,by omega⟩;go_wp2_with fail;go_step3;exact .inl ⟨rfl,J,by omega,i+1,_,_,_,_,_,_,_,_,_,_,_,_,_,_,_,_,⟨by omega,by omega,A,by first | rfl | trivial⟩,by rfl⟩
   ·have A:Sz ((i:Int)=nC M col b (m-b)):=ae (by rw[<-e.o,E,K6 F])
    generalize gt M i col=J at*;have hq:((J:Int) != 0)=true:=(by simp;omega);clear H D G E I e;go_wp2_with fail;go_step3;exact .inr ⟨rfl,i,_,_,_,_,_,_,_,_,_,_,_,_,_,_,_,_,⟨A,by first | rfl | trivial⟩,by rfl⟩
  ·obtain rfl:i=m:=by omega
   have A:Sz ((-1:Int)=nC M col b (i-b)):=ae (by rw[<-e.o,Nat.sub_self,H6]);go_wp2_with fail;simp only[dL];go_ret;exact⟨FX A.o,rfl⟩
 ·rintro f d ⟨i,u8,g,j,k,l,o,p,q,r,s,t,u,v,x,y,z,⟨e,rfl⟩,rfl⟩
  go_wp2_with fail;simp only[dL];go_ret;exact⟨FX e.o,rfl⟩
theorem MOwn.at2{w:World}{C g n c:Nat}{M:List SC}(d:MOwn w C (slice (some ⟨g,0,none⟩) n c) M){i:Nat}(e:i<n){r:Nat}(f:(M.getD i []).length=r):
 ∃a b,w.cell? ⟨g,i,none⟩=some (slice a r b)/\w.frozen? ⟨g,i,none⟩=false/\OwnB w C (slice a r b) (M.getD i []):=by
 have:=d.at e;rw[f] at this;exact this
theorem MOwn.two{w:World}{C g n c:Nat}{M:List SC}(a:MOwn w C (slice (some ⟨g,0,none⟩) n c) M){i j:Nat}(s:i<n)(t:j<n)(l:i≠j){b d:Value}(m:w.cell? ⟨g,i,none⟩=some b)(o:w.cell? ⟨g,j,none⟩=some d):
 OwnB w C b (M.getD i [])/\∀w',w.grownBy w' d.ownBlock->OwnB w' C b (M.getD i []):=by
 have p:=a.len;obtain⟨f,a⟩:=a;have e:=a.hd;rw[p] at e;have h:f[i]? =some b:=by rw[<-e.cellAt i (by omega)];exact m
 have q:f[j]? =some d:=by rw[<-e.cellAt j (by omega)];exact o
 have k:=(a.of h).1;exact⟨k,λw' r=>k.kept r (a.apart i j b d l h q)⟩
theorem Ka{w w':World}{C a:Nat}{u:Value}{l:SC}(c:Fld w a)(d:OwnB w C u l)(e:w.grownBy w' u.ownBlock):Fld w' a:=by
 refine Blk.grown c e ?_;rcases d.2 with⟨b,_⟩ | ⟨f,h,i,b,_,g,_⟩
 ·rw[b];simp[Value.ownBlock]
 ·rw[b]
  have:a≠f:=Blk.ne (t:=337) (t':=5) c g (by decide);simpa[Value.ownBlock] using this
theorem xQ{w:World}{C g n c d:Nat}{M:List SC}(b:MOwn w C (slice (some ⟨g,0,none⟩) n c) M)(e:Fld w d):d≠g:=by
 obtain⟨h,b⟩:=b;rcases b.hd.2 with⟨a,_⟩ | ⟨i,j,k,a,_,f,_⟩
 ·simp at a
 ·injection a with a
  injection a with a;injection a with a;subst a;exact Blk.ne (t:=337) (t':=30) e f (by decide)
theorem qB{w w':World}{C:Nat}{u:Value}(a:w.grownBy w' u.ownBlock)(b:∀g,u.ownBlock=some g->C<=g)(c:C<=w.heap.size):Below C w w':=(aC _ _).grown a c b
theorem xR(r n m cols c C:Nat)(M:List SC)(a:SE)(w:World)(hF:Fld w r)(h:MOwn w C (slice a m c) M)(hW:Wf n M)(a0:cols<=n)(hC:C<=w.heap.size)(hm:m<=1000000)(hn:n<=1000000):
 Calls prog 272 #[pointer (some ⟨r,0,none⟩),slice a m c,int i64 cols] w λz A=>z=returned (int i64 ((dI M cols).2:Nat))/\MOwn A C (slice a m c) (dI M cols).1/\Below C w A:=by
 have HW:=ae hW;have k:Sz (MOwn w C (slice a m c) (dI M 0).1):=ae h;have t:=ae hF;have ay:=ae h.len;clear hW h hF;go_enter func272,ntmps272;go_wp2_with fail;go_loopw [7,8,9,10,12] (λb _ _ _ i wr=>∃d:Nat,d<=cols/\i=int i64 d/\b=int i64 ((dI M d).2:Nat)/\Sz (MOwn wr C (slice a m c) (dI M d).1)/\Sz (Fld wr r)/\Sz (Below C w wr)) (λ_ _ _ _ i _=>cols-(intOf i).toNat)
 case atStart=>exact⟨0,by omega,rfl,rfl,k,t,ae (aC _ _)⟩
 case round=>
  clear k t;obtain⟨d,hk,rfl,rfl,k,t,R⟩:=hrel;by_cases a1:d<cols
  ·obtain⟨ls,ag⟩:=jN HW.o d
   have e:=ag.wf;have ai:=ag.le;rw[kM,ay.o] at ai;have f:(dI M d).1.length=m:=(by rw[kM];exact ay.o);have b:dI M (d+1)=kL (dI M d).1 (dI M d).2 d:=rfl;have Z:=ae b;clear b ag;generalize (dI M d).1=B at*;generalize (dI M d).2=b at*;have aa:=ae e;have u:=ae f;have S:=ae (D8 n m b d B wr.heap.size a c wr k.o.rdM e (by omega) ai hm hn);clear e f;have a2:(d:Int)<(cols:Int):=(by omega);cases hf:nK B d b (m-b) with
   | none=>
     have T:nC B d b (m-b)= -1:=(by unfold nC;rw[hf]);rw[T] at S;have U:dI M (d+1)=(B,b):=(by rw[Z.o];unfold kL;rw[u.o,hf]);have H:=ae U;clear T U hf Z;go_wp2_with fail;refine S.o.mono ?_;rintro z w2 ⟨rfl,rfl⟩;go_wp2_with fail;go_roundw
     case rel=>exact⟨d+1,by omega,by go_num,by rw[H.o],by rw[H.o];exact k,t,R⟩
     case measure=>simp[intOf];omega
   | some p=>
     obtain⟨p1,p2,D,-⟩:=oN _ _ _ hf;have J:p<m:=(by omega);have l:b<m:=(by omega);have T:nC B d b (m-b)=p:=(by unfold nC;rw[hf]);rw[T] at S;have U:dI M (d+1)=(dN (jU B b d p) b d m,b+1):=(by rw[Z.o];unfold kL;rw[u.o,hf]);have H:=ae U;clear T U hf Z;obtain⟨e,rfl,V,F⟩:=k.o.form (by omega);obtain⟨o,q,K,ab,L⟩:=k.o.at2 l (aa.o.get (by rw[u.o];exact l)).1;obtain⟨N,O,f,Q,G⟩:=k.o.at2 J (aa.o.get (by rw[u.o];exact J)).1;have y:=ae (k.o.swap l J K f);have an:¬((p:Int)<0):=(by omega);have a3:(b:Int)<(m:Int):=(by omega);have ao:(p:Int)<(m:Int):=(by omega);go_wp2_with fail;refine S.o.mono ?_;rintro z w2 ⟨rfl,rfl⟩;obtain⟨j,g⟩:∃j,j=swp B b p:=⟨_,rfl⟩;have v:jU B b d p=j.set b (lM (fi (gt j b d)) (j.getD b [])):=(by rw[g];rfl);have s:j.length=m:=by rw[g,rT];exact u.o
     have x:Wf n j:=by
      rw[g];refine yN λi hi=> ?_;rw[rT,u.o] at hi;rw[ve (by rw[u.o];exact l) (by rw[u.o];exact J)];exact aa.o.get (by rw[u.o];exact yO l J hi)
     rw[v] at H;rw[<-g] at y;have W:=ae s;have P:=ae x;clear v g s x D;go_wp2_with fail;go_cut [] (λs=>Sz (Fld s r)/\Sz (Below C w s)/\e<s.heap.size/\Sz (MOwn s C (slice (some ⟨e,0,none⟩) m c) j))
     case first=>
      by_cases g:b=p
      ·subst g
       rw[K] at f;obtain⟨rfl,rfl⟩:o=N/\q=O:=(by simpa using f);clear f Q G L;go_region;have x:Sz (Fld ((wr.setCell ⟨e,b,none⟩ (Value.slice o n q)).setCell ⟨e,b,none⟩ (Value.slice o n q)).drew r):=ae (Blk.far (w:=wr.setCell ⟨e,b,none⟩ (Value.slice o n q)) (Blk.far (w:=wr) t.o (xQ k.o t.o) _) (xQ k.o t.o) _);have D:Sz (Below C w ((wr.setCell ⟨e,b,none⟩ (Value.slice o n q)).setCell ⟨e,b,none⟩ (Value.slice o n q)).drew):=ae (((R.o.setCell (p:=⟨e,b,none⟩) V _).setCell (p:=⟨e,b,none⟩) V _).drew);have I:e<((wr.setCell ⟨e,b,none⟩ (Value.slice o n q)).setCell ⟨e,b,none⟩ (Value.slice o n q)).drew.heap.size:=(by simpa[World.setCell] using F);have E:Sz (MOwn ((wr.setCell ⟨e,b,none⟩ (Value.slice o n q)).setCell ⟨e,b,none⟩ (Value.slice o n q)).drew C (Value.slice (some ⟨e,0,none⟩) m c) j):=ae (y.o.drewN 1);go_wp2_with fail;go_meet;exact⟨x,D,I,E⟩
      ·have X:¬((b:Int)=(p:Int)):=by omega
       clear G L;go_region;have x:Sz (Fld ((wr.setCell ⟨e,b,none⟩ (Value.slice N n O)).setCell ⟨e,p,none⟩ (Value.slice o n q)).drew r):=ae (Blk.far (w:=wr.setCell ⟨e,b,none⟩ (Value.slice N n O)) (Blk.far (w:=wr) t.o (xQ k.o t.o) _) (xQ k.o t.o) _);have D:Sz (Below C w ((wr.setCell ⟨e,b,none⟩ (Value.slice N n O)).setCell ⟨e,p,none⟩ (Value.slice o n q)).drew):=ae (((R.o.setCell (p:=⟨e,b,none⟩) V _).setCell (p:=⟨e,p,none⟩) V _).drew);have I:e<((wr.setCell ⟨e,b,none⟩ (Value.slice N n O)).setCell ⟨e,p,none⟩ (Value.slice o n q)).drew.heap.size:=(by simpa[World.setCell] using F);have E:Sz (MOwn ((wr.setCell ⟨e,b,none⟩ (Value.slice N n O)).setCell ⟨e,p,none⟩ (Value.slice o n q)).drew C (Value.slice (some ⟨e,0,none⟩) m c) j):=ae (y.o.drewN 1);go_wp2_with fail;go_meet;exact⟨x,D,I,E⟩
     case rest=>
     obtain⟨x,D,I,E⟩:=hcut;clear S ai F aa u y K ab f Q G L k t R;obtain⟨a4,aS,K,ab,L⟩:=E.o.at2 l (P.o.get (by rw[W.o];exact l)).1;have G:=(P.o.get (i:=b) (by rw[W.o];exact l)).2;have g:=(P.o.get (i:=b) (by rw[W.o];exact l)).1;have ac:d<n:=(by omega);obtain⟨a7,a8,v,y⟩:=L.rd;injection v with v e4 e5;subst v e5;clear e4;rw[g] at y;obtain⟨bt,ot,rfl,aq,X⟩:=y.atB ac;have Y:=X d ac;have ad:(j.getD b []).getD d 0=gt j b d:=rfl;rw[ad] at Y;have am:=P.o.lt b d
     have Q:Sz (Wf n (j.set b (lM (fi (gt j b d)) (j.getD b [])))):=ae (by
      intro f hr;rcases mem_or_eq_of_mem_set hr with h | h
      ·exact P.o f h
      ·rw[h];exact⟨by rw[sK];exact g,By.sc _ _⟩)
     have CI:=ae (Rf r (gt j b d) am wc.drew (Blk.drew x.o));have CS:=ae λF=>JA (some ⟨r,0,none⟩) (fi (gt j b d)) (j.getD b []) (some ⟨bt,ot,none⟩) n aS (wc.drewN F) (Fp.of (Blk.drewN x.o F)) (Np _) y G hn;have az:(d:Int)<(n:Int):=(by omega);clear X L y G g ad;generalize G:j.set b (lM (fi (gt j b d)) (j.getD b []))=g at*;have HQ:=ae G;clear G;generalize gt j b d=aA at*;generalize fi aA=fq at*;have au:Sz (lM fq (j.getD b [])=lM fq (j.getD b [])):=ae rfl;generalize lM fq (j.getD b [])=aB at*;go_wp2_with fail;go_cut [] (λs=>Sz (Fld s r)/\Sz (Below C w s)/\Sz (MOwn s C (slice (some ⟨e,0,none⟩) m c) g))
     case first=>
      go_region_with (first
       | (go_at_call 335;refine CI.o.mono ?_;rintro z w4 ⟨rfl,F,rfl⟩)
       | (go_at_call 334;refine(CS.o _).mono ?_;rintro z G ⟨v5,rfl,ad,s⟩;obtain⟨a5,c5,rfl,ak⟩:=ad.rd;clear ak
          have ax:=(s.frozen (p:=⟨e,b,none⟩) I).trans ab;have aD:=(s.cell (p:=⟨e,b,none⟩) I).trans K))
      all_goals(
       have ak:=MOwn.put (w0:=wc.drewN (1+F)) (E.o.drewN (1+F)) s l ad (by have:=D.o.size;show C<=wc.heap.size;omega);rw[HQ.o] at ak;have av:Sz (Fld (G.setCell ⟨e,b,none⟩ (Value.slice a5 aB.length c5)) r):=ae (Blk.far (w:=G) (Blk.below (Blk.drewN x.o (1+F)) s (Blk.lt x.o)) (xQ E.o x.o) _);have aw:Sz (Below C w (G.setCell ⟨e,b,none⟩ (Value.slice a5 aB.length c5))):=ae (((below_drewN D.o (1+F)).trans (s.mono (by have:=D.o.size;show C<=wc.heap.size;omega))).setCell (p:=⟨e,b,none⟩) V _);have al:=ae ak;clear ak s ad;go_wp2_with fail;go_meet;exact⟨av,aw,al⟩)
     case rest=>
     obtain⟨F,G,ad⟩:=hcut;have ak:Sz (g.length=m):=ae (by rw[<-HQ.o,length_set];exact W.o);clear CI CS au x D I E ab K aq az Y am W P HQ p1 p2 J ao an;have s:Sz (MOwn wc C (slice (some ⟨e,0,none⟩) m c) (dN g b d 0)):=ae (by rw[Bq];exact ad.o);clear ad;go_wp2_with fail;go_loopw [10,55] (λ_ i J=>∃f:Nat,f<=m/\i=int i64 f/\Sz (MOwn J C (slice (some ⟨e,0,none⟩) m c) (dN g b d f))/\Sz (Fld J r)/\Sz (Below C w J)) (λ_ i _=>m-(intOf i).toNat)
     case atStart=>exact⟨0,by omega,rfl,s,F,G⟩
     case round=>
      clear s F G;obtain⟨f,hr,rfl,s,F,G⟩:=hrel;by_cases J:f<m
      ·have a9:(f:Int)<(m:Int):=by omega
       have W:f<g.length:=(by rw[ak.o];exact J);have am:b<g.length:=(by rw[ak.o];exact l);by_cases y:f=b
       ·have aT:((f:Int) != (b:Int))=false:=by simp[y]
        have al:Sz (MOwn wr C (slice (some ⟨e,0,none⟩) m c) (dN g b d (f+1))):=ae (by rw[uH Q.o W,bu y];exact s.o);clear y s;go_wp2_with fail;go_roundw
        case rel=>exact⟨f+1,by omega,by go_num,al,F,G⟩
        case measure=>simp[intOf];omega
       ·have aT:((f:Int) != (b:Int))=true:=by simp;omega
        have al:=tH Q.o d f am;have an:(dN g b d f).length=m:=(by rw[gX];exact ak.o);have aD:(dN g b d f).getD f []=g.getD f []:=(by rw[jA b d f W,bA (by omega)]);have aE:(dN g b d f).getD b []=g.getD b []:=(by rw[jA b d f am,bA (by omega)]);obtain⟨ar,cr,ao,-,P⟩:=s.o.at2 J (al.get (i:=f) (by rw[an];exact J)).1;obtain⟨aF,aV,aK,-,aL⟩:=s.o.at2 l (al.get (i:=b) (by rw[an];exact l)).1;obtain⟨aX,aq⟩:=s.o.two l J (λz=>y z.symm) aK ao;rw[aD] at P;rw[aE] at aq aL;have ad:=Q.o.get W;have au:=Q.o.get am;obtain⟨ba,bb,v,av⟩:=P.rd;injection v with v e4 e5;subst v e5;clear e4;rw[ad.1] at av;obtain⟨br,aw,rfl,bc,X⟩:=av.atB ac;have Y:=X d ac;have aM:(g.getD f []).getD d 0=gt g f d:=rfl;rw[aM] at Y
        have hx:∀A,wr.drew.grownBy A (Value.slice (some ⟨br,aw,none⟩) n cr).ownBlock->Rd A A.heap.size aF n (bK (g.getD b [])):=λA hg=>by
         obtain⟨a6,c6,e6,h6⟩:=(aq A (grownBy_trans (jJ (grownBy_refl wr _) 1) hg)).rd;injection e6 with e7 e8 e9;subst e7;rw[au.1] at h6;exact h6
        have CA:=ae (OJ r (gt g f d) (g.getD b []) (g.getD f []) aF n aV C (slice (some ⟨br,aw,none⟩) n cr) wr.drew (Blk.drew F.o) (Q.o.lt f d) hx (P.drewN 1) ad.1 au.2 ad.2 hn);have A:dN g b d (f+1)=(dN g b d f).set f (nJ (gt g f d) (g.getD b []) (g.getD f [])):=(by rw[uH Q.o W,bA y]);have aR:=ae A;have ax:=ae P;have az:(d:Int)<(n:Int):=(by omega);have aY:C<=wr.heap.size:=(by have:=G.o.size;omega);clear aq P aL aX av X hx al an aD aE ad au aM A;generalize nJ (gt g f d) (g.getD b []) (g.getD f [])=av at*;generalize gt g f d=aA at*;go_wp2_with fail
        go_still_tail 16,(by kernel_rfl)
        change wpList _ _ _ _ _ wr.drew;go_wp2_with fail;refine CA.o.mono ?_;rintro z A ⟨rfl,ad,al⟩;have P:wr.grownBy A (Value.slice (some ⟨br,aw,none⟩) n cr).ownBlock:=grownBy_trans (jJ (grownBy_refl wr _) 1) al;have an:Sz (MOwn A C (slice (some ⟨e,0,none⟩) m c) (dN g b d (f+1))):=ae (by rw[aR.o];exact s.o.wrote J ao P ad);have aq:Sz (Fld A r):=ae (Ka F.o ax.o P);have au:Sz (Below C w A):=ae (G.o.trans (qB P (λe hg=>(ax.o.lt e hg).1) aY));clear ad al P s F G ao aK Y CA aR ax;go_wp2_with fail;go_roundw
        case rel=>exact⟨f+1,by omega,by go_num,an,aq,au⟩
        case measure=>simp[intOf];omega
      ·obtain rfl:f=m:=by omega
       have P:Sz (MOwn wr C (slice (some ⟨e,0,none⟩) f c) (dI M (d+1)).1):=ae (by rw[H.o];exact s.o);have W:Sz (b+1=(dI M (d+1)).2):=ae (by rw[H.o]);have A:(b:Int)+1=(((dI M (d+1)).2:Nat):Int):=(by rw[<-W.o];omega);have ad:=ae A;clear A s H;go_wp2_with fail;go_roundw
       case rel=>exact⟨d+1,by omega,by go_num,by rw[<-ad.o],P,F,G⟩
       case measure=>simp[intOf];omega
  ·obtain rfl:d=cols:=by omega
   go_wp2_with fail;go_ret;exact⟨rfl,k.o,R.o⟩
theorem Sg{n:Nat}{M:List SC}(b:Wf n M):wid M<=n:=by
 by_cases a:M=[]
 ·subst a;exact bE _
 ·rw[nO b a];exact aj _
theorem FC(p:SE)(n m c:Nat)(M:List SC)(a:SE)(w:World)(r:Fp w p)(h:RdM w w.heap.size a m M)(f:Wf n M)(B:n<=64)(g:m<=1000000):
 Calls prog 318 #[.pointer p,slice a m c] w λd b=>∃v,d=returned v/\MOwn b w.heap.size v (eT M)/\Below w.heap.size w b:=by
 have j:=ae (Aa n m M _ a c w h f B g);have q:=ae (Gc M _ a m c w h (aj _) (λb e=>by have:=(f b e).1;omega) g);have k:=ae f;have s:=ae r;have C:=ae h.len;clear h f r;go_enter func318,ntmps318;go_wp2_with fail;refine j.o.mono ?_;rintro d t ⟨rfl,rfl⟩;go_wp2_with fail;refine q.o.mono ?_;rintro d t ⟨l,i,rfl,e,b⟩;have u:=ae e;have o:=ae b;have x:=ae (s.o.below b (aj _));clear e b j q;go_wp2_with fail;refine(BJ p t x.o).mono ?_;rintro d y ⟨D,rfl,z,b⟩;have j:=ae (u.o.new b);have q:=ae (o.o.trans (b.mono o.o.size));have E:=ae z;clear z b u o x s;go_wp2_with fail;refine(yX M _ (some ⟨l,0,none⟩) m i y j.o.rdM g).mono ?_;rintro d o ⟨rfl,rfl⟩;obtain⟨G,s⟩:=jN k.o (wid M);have u:=s.le;rw[kM,C.o] at u;have F:=j.o.caps;have x:=ae (xR D n m (wid M) i w.heap.size M (some ⟨l,0,none⟩) y E.o j.o k.o (Sg k.o) q.o.size g (by omega));have z:(dI M (wid M)).1.take (dI M (wid M)).2=eT M:=rfl;have A:=ae z;have H:(dI M (wid M)).2<=i:=by omega
 clear s z F;generalize (dI M (wid M)).1=I at*;generalize (dI M (wid M)).2=s at*;go_wp2_with fail;refine x.o.mono ?_;rintro d o ⟨rfl,e,b⟩;have z:Sz (MOwn o w.heap.size (slice (some ⟨l,0,none⟩) s i) (eT M)):=ae (by rw[<-A.o];exact e.take u);have F:=ae (q.o.trans b);clear e b j q x A;go_wp2_with fail;go_ret
 trace_state
 exact⟨_,rfl,z.o,F.o⟩
theorem NM(p:SE)(n m c:Nat)(M:List SC)(a:SE)(w:World)(b:Fp w p)(h:RdM w w.heap.size a m M)(d:Wf n M)(f:n<=64)(g:m<=1000000):
 Calls prog 290 #[.pointer p,slice a m c] w λe i=>e=returned (int i64 ((eT M).length:Nat))/\Below w.heap.size w i:=by
 have i:=ae (FC p n m c M a w b h d f g);clear b h d;go_enter func290,ntmps290;go_wp2_with fail;refine i.o.mono ?_;rintro e l ⟨o,rfl,j,k⟩;obtain⟨q,r,rfl⟩:=j.val;go_wp2_with fail;go_ret;exact⟨rfl,k⟩
theorem NC{w:World}{B:Nat}{a:SE}{b d:Nat}{xs:SC}(e:Rd w B a b (bK xs))(o:b<=d){lo n:Nat}(p:lo+n<=b):
 Rd w B (if d=lo then a else Option.map (λc=>c.add lo) a) n (bK ((xs.drop lo).take n)):=by
 have g:=e.len;rw[bL] at g;refine⟨by rw[bL,aH,length_drop];omega,λq=> ?_⟩;obtain⟨h,i,rfl,j,l⟩:=e.atB (k:=lo) (by omega);rw[bA (by omega)];refine⟨h,i+lo,by simp[Addr.add_lit],j,λf r c=> ?_⟩
 have m:f<n:=by
  have:=(List.getElem?_eq_some_iff.1 c).1;rw[bL,aH,length_drop] at this;omega
 have:=l (lo+f) (by omega);rw[<-Nat.add_assoc] at this;rw[this];rw[eP (by rw[aH,length_drop];omega)] at c;rw[<-c];simp only[af,List.getElem?_take,bu m,List.getElem?_drop]
theorem mZ{P:Program}{w:World}{ops:Array Oper}{o:Oper}{a:Act}{K:Act->World->Prop}{Q:Exit->Act->World->Prop}{E:Prop}(D:o.guard=none)(s x:Operand)(t:TypeId)
 (q:o.op=.call { callee:=.builtin .append,args:=#[s,x],argTypes:=#[t,t] })
 (h:Nat)(e:TypeId)(z:Value)(k:Nat)(r:P.underlying t=some (.slice e))(F:(P.info? e).map (λb=>(b.zero,b.size,b.bytes))=some (some z,1,k))(G:z.cells.size=1)
 (v:Value)(n:Nat)(xs:List Value)(hs:a.eval s=v)(l:w.ownsRow h e 1 v n xs)
 (B:Nat)(ad:SE)(m c:Nat)(d:List Value)(y:a.eval x=slice ad m c)(H:ad=none->c=0)(i:Rd w B ad m d)(I:∀u∈d,u.oneCell'=true)
 (J:(n+m)*k<=140737488355328)(L:n+m<=maxLen)(M:h<=w.heap.size)
 (f:∀g w',w'.ownsRow h e 1 g (n+m) (xs++d)->w.grownBy w' v.ownBlock->(g.ownBlock=v.ownBlock\/g.ownBlock=some w.heap.size)->K (a.put o.dst g) w'):
 if Region.wanted o (yielded ops a.tmps)=true then Oper.wp P o a w K Q else E:=by
 obtain⟨b,A,N,O,R⟩:=info_parts F;have S:Region.wanted o (yielded ops a.tmps)=true:=by simp[Region.wanted,D]
 rw[bu S];cases ad with
 | none=>
   obtain rfl:=H rfl
   have j:m=0:=by
    rcases Nat.eq_zero_or_pos m with f | f
    ·exact f
    ·obtain⟨_,_,e,_⟩:=i.2 f;simp at e
   subst j;have C:d=[]:=eq_nil_of_length_eq_zero i.1;subst C;have p:=run_append_owned_none (P:=P) (w:=w) h t o.type e b 1 r A v n xs l;unfold Oper.wp;simp[execOp,q,resolve,invoke,builtin,hs,y,p,Result.andThen];exact f v w (by simpa using l) ⟨rfl,rfl,rfl,aj _,λ_ _ _=>rfl⟩ (.inl rfl)
 | some ad=>
   have T:∀j u,d[j]? =some u->w.cell? (ad.add j)=some u:=by
    intro j u C
    have Y:j<m:=by
     have:=(List.getElem?_eq_some_iff.1 C).1;rw[i.1] at this;exact this
    obtain⟨Z,aa,e,_,U⟩:=i.2 (by omega);obtain rfl:=Option.some.inj e;rw[Addr.add_lit];exact U j u C
   obtain⟨g,w',p,V,W,_,X⟩:=run_append_own_at (P:=P) w h t o.type e b z 1 k r A N O R G (by decide) v n xs l ad m c d (by rw[i.1];omega) T I L J M;unfold Oper.wp execOp;simp only[q,resolve,invoke,builtin,Sem.run_bind,Sem.run_pure,Result.andThen_ok,map_toArray,map_cons,map_nil,hs,y,p];exact f g w' V W X
theorem RdM.drop{w:World}{B:Nat}{a:SE}{n c:Nat}{M:List SC}(g:RdM w B a n M)(r:n<=c){k:Nat}(s:k<=n):RdM w B (if c=k then a else Option.map (λb=>b.add k) a) (n-k) (M.drop k):=by
 obtain⟨t,h,b,i⟩:=g;refine⟨by rw[length_drop];omega,h.drop k,⟨by rw[length_drop,b.1],λu=> ?_⟩,λd j e=> ?_⟩
 ·obtain⟨l,m,rfl,o,p⟩:=b.2 (by omega)
  rw[bA (by omega)];refine⟨l,m+k,by simp[Addr.add_lit],o,λd q f=> ?_⟩;rw[List.getElem?_drop] at f;have:=p (k+d) q f;rw[<-Nat.add_assoc] at this;exact this
 ·rw[List.getElem?_drop] at e
  obtain⟨f,l,m,o⟩:=i _ j e;exact⟨f,l,by rw[List.getElem?_drop];exact m,o⟩
theorem nil_drop{a:SE}{c k:Nat}(d:a=none->c=0):(if c=k then a else Option.map (λb=>b.add k) a)=none->c-k=0:=by
 intro b;split at b
 ·omega
 ·cases a with
  | none=>have:=d rfl;omega
  | some a=>simp at b
theorem Qm{w:World}{B:Nat}{a:SE}{b c:Nat}{xs:SC}(d:Rd w B a b (bK xs))(e:b<=c){n:Nat}(g:n<=b):
 Rd w B (if c=n then a else Option.map (λf=>f.add n) a) (b-n) (bK (xs.drop n)):=by
 have f:=d.len;rw[bL] at f;have:=NC d e (lo:=n) (n:=b-n) (by omega)
 rwa [aN (by rw[length_drop];omega)] at this
theorem NH{a:SE}{b n:Nat}(d:a=none->b=0)(e:1<=n)(f:n<=b):(if b=n then a else Option.map (λc=>c.add n) a)=none->b-n=0:=by
 intro c;split at c
 ·omega
 ·cases a with
  | none=>have:=d rfl;omega
  | some a=>simp at c
theorem Fc{n:Nat}{b B:List SC}(d:Wf n b)(e:Wf n B):Wf n (b++B):=λc a=>by
 rcases bF.1 a with a | a
 ·exact d c a
 ·exact e c a
def eG(p v:Nat->Nat):Nat->Nat
 | 0=>0
 | n+1=>eG p v n ^^^ fm (p n) (v n)
theorem zU(p v:Nat->Nat)(n:Nat):eG p v n<256:=by
 induction n with
 | zero=>exact(by decide:(0:Nat)<256)
 | succ n a=>exact uy a (jq _ _)
theorem F6(a b c d:Nat):(a ^^^ b) ^^^ (c ^^^ d)=(a ^^^ c) ^^^ (b ^^^ d):=by
 rw[Nat.xor_assoc,Nat.xor_assoc,<-Nat.xor_assoc b c,Nat.xor_comm b c,Nat.xor_assoc c]
theorem Rs{p a b:Nat->Nat}{c:Nat}(d:Vb p)(f:Vb a)(g:Vb b)(e:c<256)(n:Nat):eG p (kW c a b) n=eG p b n ^^^ fm c (eG p a n):=by
 induction n with
 | zero=>show 0=0 ^^^ fm c 0;rw[bU];rfl
 | succ n h=>
   show eG p (kW c a b) n ^^^ fm (p n) (b n ^^^ fm c (a n))=(eG p b n ^^^ fm (p n) (b n)) ^^^ fm c (eG p a n ^^^ fm (p n) (a n))
   have i:fm (p n) (fm c (a n))=fm c (fm (p n) (a n)):=by
    rw[<-mh _ _ _ (d n) e (f n),ku (p n) c,mh _ _ _ e (d n) (f n)]
   rw[h,uz (d n) (g n) (jq _ _),uz e (zU _ _ _) (jq _ _),i];exact F6 _ _ _ _
theorem BD(p:Nat->Nat)(n:Nat):eG p vz n=0:=by
 induction n with
 | zero=>rfl
 | succ n a=>show eG p vz n ^^^ fm (p n) 0=0;rw[a,bU];rfl
theorem zV{M:List (Nat->Nat)}(a:∀r∈M,Vb r){p:Nat->Nat}(b:Vb p){n:Nat}(d:∀r∈M,eG p r n=0){v:Nat->Nat}(e:Spn M v):eG p v n=0:=by
 induction e with
 | zero=>exact BD p n
 | add c r v hc hr hs ih=>rw[Rs b (a r hr) hs.vb hc,ih,d r hr,bU];rfl
theorem Ep{n:Nat}{T:List SC}(f:Wf n T)(g:∀j,j<T.length->∃p,Vb p/\(∀i,i<j->eG p (vO (T.getD i [])) n=0)/\eG p (vO (T.getD j [])) n≠0):(eT T).length=T.length:=by
 have h:∀j,j<=T.length->(eT (T.take j)).length=j:=by
  intro j
  induction j with
  | zero=>intro _;have:=(lN (show Wf n (T.take 0) from λd b=>by simp at b)).2;simpa using this
  | succ j k=>
    intro x;have c:Wf n (T.take j):=λd b=>f d (bI b);have a:=f.get (i:=j) (by omega)
    have l:T.take (j+1)=T.take j++[T.getD j []]:=by
     rw[aO (by omega),af,ah (by omega)];rfl
    obtain⟨y,m⟩:=MN c a.1 a.2;have o:=(lN (Az c a.1 a.2)).2;rw[aI,aH,length_singleton] at o;rw[l]
    have z:¬(eT (T.take j++[T.getD j []])).length=(eT (T.take j)).length:=by
     intro e;rw[m] at e;obtain⟨A,q,r⟩:=gI c;rw[q.rest_spn a.1 a.2] at e;obtain⟨p,s,t,u⟩:=g j (by omega);refine u (zV c.vb s (λd b=> ?_) ((r _).2 e));obtain⟨B,v,rfl⟩:=aZ.1 b;obtain⟨i,w,rfl⟩:=bH v;rw[aH] at w;have:=t i (by omega);rw[af,ah (by omega)] at this;rw[getElem_take];exact this
    have:=k (by omega);omega
 have:=h T.length (aj _)
 rwa [take_length] at this
theorem vB{p q v:Nat->Nat}(b:Vb p)(c:Vb q)(d:Vb v)(n:Nat):eG (λa=>p a ^^^ q a) v n=eG p v n ^^^ eG q v n:=by
 induction n with
 | zero=>show(0:Nat)=0 ^^^ 0;decide
 | succ n e=>
   show eG (λa=>p a ^^^ q a) v n ^^^ fm (p n ^^^ q n) (v n)=_;rw[e,oD (b n) (c n) (d n)];exact F6 _ _ _ _
theorem zW{p v:Nat->Nat}{c:Nat}(b:c<256)(d:Vb p)(e:Vb v)(n:Nat):eG (λa=>fm c (p a)) v n=fm c (eG p v n):=by
 induction n with
 | zero=>show 0=fm c 0;rw[bU]
 | succ n f=>
   show eG (λa=>fm c (p a)) v n ^^^ fm (fm c (p n)) (v n)=fm c (eG p v n ^^^ fm (p n) (v n));rw[f,uz b (zU _ _ _) (jq _ _),mh _ _ _ b (d n) (e n)]
def kX(n:Nat):Nat->List SC
 | 0=>[]
 | k+1=>kX n k++[eH n k]
theorem mW(n k:Nat):(kX n k).length=k:=by
 induction k with
 | zero=>rfl
 | succ k a=>rw[kX,aI,a];rfl
theorem pO(n k:Nat):Wf n (kX n k):=by
 induction k with
 | zero=>intro b a;simp[kX] at a
 | succ k a=>exact Az a (iN _ _) (pu _ _)
theorem qZ(n k:Nat){i:Nat}(c:i<k):(kX n k).getD i []=eH n i:=by
 induction k with
 | zero=>omega
 | succ k b=>
   rw[kX,af,List.getElem?_append,mW];by_cases a:i<k
   ·rw[bu a,<-af];exact b a
   ·obtain rfl:i=k:=by omega
    simp
theorem kY(v:Nat->Nat)(c:Vb v)(k:Nat):∀n,eG (λa=>if a=k then 1 else 0) v n=if k<n then v k else 0:=by
 intro n
 induction n with
 | zero=>rfl
 | succ n d=>
   show eG _ v n ^^^ fm (if n=k then 1 else 0) (v n)=_;rw[d];by_cases a:n=k
   ·subst a
    rw[bu rfl,bA (by omega),bu (by omega),jL _ (c n),Nat.zero_xor]
   ·rw[bA a,dR,Nat.xor_zero]
    by_cases b:k<n
    ·rw[bu b,bu (by omega)]
    ·rw[bA b,bA (by omega)]
theorem vI(k:Nat):Vb λa=>if a=k then 1 else 0:=λa=>by show(if a=k then 1 else 0)<256;split <;> decide
theorem Dg(n:Nat):(eT (kX n n)).length=n:=by
 have d:=Ep (pO n n) λa b=>by
  rw[mW] at b;refine⟨_,vI a,λc e=> ?_,?_⟩
  ·rw[qZ n n (by omega),kY _ (iT (pu n c)),bu b]
   show(eH n c).getD a 0=0;rw[oo,bA (by omega)]
  ·rw[qZ n n b,kY _ (iT (pu n a)),bu b]
   show(eH n a).getD a 0≠0;rw[oo,bu ⟨rfl,b⟩];decide
 rw[d,mW]
theorem Ff{n:Nat}{a:List SC}(c:Wf n a):(eT (a++kX n n)).length=n:=by
 have b:=Fc c (pO n n);have f:=(lN b).1;have d:=zN (pO n n) b λg e=>e.sub λg e=>by rw[aU];exact mem_append_right _ e
 rw[Dg] at d;omega
structure qE (n:Nat) (l:List SC) (St:List (Nat×Nat)) (De Le:SC):Prop where
 step:∀(k r c:Nat),St[k]? =some (r,c)->r<l.length/\c∈l.getD r []/\∀d∈l.getD r [],d≠c->d∈De\/∃k' r',k'<k/\St[k']? =some (r',d)
 rows:(St.map Prod.fst).Nodup
 cols:(St.map Prod.snd++De).Nodup
 all:∀c,c<n↔c∈St.map Prod.snd\/c∈De
 left:Le=(range l.length).filter fun i=> !(St.map Prod.fst).contains i
 nodead:∀c∈De,∀r,r<l.length->l.getD r []≠[c]
def jV(W:Nat->SC)(c:Nat)(x:SC):Nat->SC:=λa=>if a=c then x else W a
theorem mG(W:Nat->SC)(c:Nat)(x:SC):jV W c x c=x:=bu rfl
theorem lm(W:Nat->SC){c a:Nat}(x:SC)(b:a≠c):jV W c x a=W a:=bA b
def others(l:List SC)(r c:Nat):SC:=(l.getD r []).filter λa=> !(a == c)
def dM(l:List SC)(z:Nat->SC)(W:Nat->SC):List (Nat×Nat)->Nat->SC
 | []=>W
 | (r,c) :: St=>dM l z (jV W c (bZ W (others l r c) (z r))) St
theorem Bt(l:List SC)(z:Nat->SC):∀(a B:List (Nat×Nat)) (W:Nat->SC),dM l z W (a++B)=dM l z (dM l z W a) B:=by
 intro a
 induction a with
 | nil=>intro B W;rfl
 | cons b a c=>intro B W;obtain⟨d,e⟩:=b;exact c B _
theorem lQ(l:List SC)(z:Nat->SC)(a:List (Nat×Nat))(r c:Nat)(W:Nat->SC):dM l z W (a++[(r,c)])=jV (dM l z W a) c (bZ (dM l z W a) (others l r c) (z r)):=by rw[Bt];rfl
def comes(D:Nat)(v:Nat->Nat->Nat)(w:SC)(j:Nat):Nat:=eG (vO w) (λa=>v a j) D
theorem Bu{D:Nat}{v:Nat->Nat->Nat}{a b:SC}(c:∀i j,v i j<256)(d:a.length=b.length)(e:∀x∈a,x<256)(f:∀x∈b,x<256)(j:Nat):comes D v (xr a b) j=comes D v a j ^^^ comes D v b j:=by
 unfold comes;rw[<-vB (iT e) (iT f) λi=>c i j];congr 1;funext i;exact nH d i
theorem kN(D:Nat)(v:Nat->Nat->Nat)(k j:Nat):comes D v (replicate k 0) j=0:=by
 unfold comes
 have d:vO (replicate k 0)=λ_=>0:=by
  funext a;show(replicate k 0).getD a 0=0;rw[af,List.getElem?_replicate];split <;> rfl
 rw[d];generalize (λa=>v a j)=b
 induction D with
 | zero=>rfl
 | succ c e=>show eG _ b c ^^^ fm 0 (b c)=0;rw[e,dR];rfl
def Byt(D:Nat)(w:SC):Prop:=w.length=D/\∀a∈w,a<256
theorem Byt.xr{D:Nat}{a b:SC}(c:Byt D a)(d:Byt D b):Byt D (Go.Proofs.YtgccllbnfngpcaaGreatDoor.xr a b):=⟨by rw[kH (by rw[c.1,d.1])];exact c.1,xr_lt c.2 d.2⟩
theorem Byt.zero(D:Nat):Byt D (replicate D 0):=⟨aJ,λb a=>by rw[eq_of_mem_replicate a];decide⟩
theorem dU{D:Nat}{W:Nat->SC}:∀ {cols:SC} {z:SC},Byt D z->(∀c∈cols,Byt D (W c))->Byt D (bZ W cols z):=by
 intro cols
 induction cols with
 | nil=>intro z a _;exact a
 | cons c cols d=>intro z a b;exact d (a.xr (b c (by simp))) λe f=>b e (by simp[f])
theorem qF{D:Nat}{v:Nat->Nat->Nat}(e:∀i j,v i j<256)(j:Nat){W:Nat->SC}:∀ {cols:SC} {z:SC},Byt D z->(∀c∈cols,Byt D (W c))->
 comes D v (bZ W cols z) j=comes D v z j ^^^ sX (λc j=>comes D v (W c) j) j cols:=by
 intro cols
 induction cols with
 | nil=>intro z _ _;exact(Nat.xor_zero _).symm
 | cons c cols f=>
   intro z a d;have b:=d c (by simp);show comes D v (bZ W cols (Go.Proofs.YtgccllbnfngpcaaGreatDoor.xr z (W c))) j=_;rw[f (a.xr b) λg h=>d g (by simp[h]),Bu e (by rw[a.1,b.1]) a.2 b.2,Nat.xor_assoc];rfl
theorem OP{D Z:Nat}{l:List SC}{St:List (Nat×Nat)}{De:SC}
 (P:∀(k r c:Nat),St[k]? =some (r,c)->r<l.length/\c∈l.getD r []/\∀d∈l.getD r [],d≠c->d∈De\/∃h o,h<k/\St[h]? =some (o,d))(B:∀r,(l.getD r []).Nodup){W0 M0:Nat->SC}{z:Nat->SC}
 (m v:Nat->Nat->Nat)(C:∀i j,v i j<256)(s:∀r,r<l.length->Byt Z (z r))(E:∀r j,r<l.length->sX m j (l.getD r [])=(z r).getD j 0)
 (F:∀c∈De,Byt D (W0 c)/\Byt Z (M0 c)/\∀j,m c j=comes D v (W0 c) j ^^^ (M0 c).getD j 0):
 ∀k,k<=St.length->∀c,c∈De\/c∈(St.take k).map Prod.snd->
  Byt D (dM l (λ_=>replicate D 0) W0 (St.take k) c)/\Byt Z (dM l z M0 (St.take k) c)/\∀j,m c j=comes D v (dM l (λ_=>replicate D 0) W0 (St.take k) c) j ^^^ (dM l z M0 (St.take k) c).getD j 0:=by
 intro k
 induction k with
 | zero=>
   intro _ c b;rcases b with b | b
   ·exact F c b
   ·simp at b
 | succ k g=>
   intro U c b;have t:k<St.length:=(by omega);obtain⟨r,d,u⟩:∃r d,St[k]=(r,d):=⟨_,_,rfl⟩;have G:St[k]? =some (r,d):=(by rw[ah t,u]);have w:St.take (k+1)=St.take k++[(r,d)]:=(by rw[aO t,u]);obtain⟨p,H,I⟩:=P k r d G;have g:=g (by omega)
   have q:∀a∈others l r d,a∈De\/a∈(St.take k).map Prod.snd:=λa e=>by
    obtain⟨J,K⟩:=mem_filter.1 e;have L:a≠d:=(by simpa using K);rcases I a J L with M | ⟨h,o,N,O⟩
    ·exact .inl M
    ·right
     refine aZ.2 ⟨(o,a),?_,rfl⟩;refine mem_of_getElem? (i:=h) ?_;rw[List.getElem?_take,bu N];exact O
   rw[w,lQ,lQ];by_cases n:c=d
   ·subst n
    rw[mG,mG];have x:∀a∈others l r c,Byt D (dM l (λ_=>replicate D 0) W0 (St.take k) a):=λa e=>(g a (q a e)).1;have y:∀a∈others l r c,Byt Z (dM l z M0 (St.take k) a):=λa e=>(g a (q a e)).2.1;refine⟨dU (Byt.zero D) x,dU (s r p) y,λj=> ?_⟩;rw[qF C j (Byt.zero D) x,kN,Nat.zero_xor,jM j (s r p).1 λa e=>(y a e).1];have A:=E r j p;rw[KP H (B r)] at A
    have Q:sX m j (others l r c)=sX (λc j=>comes D v (dM l (λ_=>replicate D 0) W0 (St.take k) c) j) j (others l r c) ^^^ sX (λc j=>(dM l z M0 (St.take k) c).getD j 0) j (others l r c):=by
     have:∀(f:SC),(∀a∈f,m a j=comes D v (dM l (λ_=>replicate D 0) W0 (St.take k) a) j ^^^ (dM l z M0 (St.take k) a).getD j 0)->
      sX m j f=sX (λc j=>comes D v (dM l (λ_=>replicate D 0) W0 (St.take k) c) j) j f ^^^ sX (λc j=>(dM l z M0 (St.take k) c).getD j 0) j f:=by
      intro f
      induction f with
      | nil=>intro _;simp[sX]
      | cons a f R=>
        intro e;show m a j ^^^ sX m j f=(_ ^^^ _) ^^^ (_ ^^^ _);rw[e a (by simp),R λS T=>e S (by simp[T])]
        dsimp only
        generalize comes D v (dM l (λ_=>replicate D 0) W0 (St.take k) a) j=S;generalize (dM l z M0 (St.take k) a).getD j 0=T;generalize sX (λc j=>comes D v (dM l (λ_=>replicate D 0) W0 (St.take k) c) j) j f=V;generalize sX (λc j=>(dM l z M0 (St.take k) c).getD j 0) j f=W
        ac_rfl
     exact this _ λa e=>(g a (q a e)).2.2 j
    have a:m c j=(z r).getD j 0 ^^^ sX m j (others l r c):=by
     rw[<-A];show m c j=(m c j ^^^ sX m j (others l r c)) ^^^ sX m j (others l r c);rw[Nat.xor_assoc,Nat.xor_self,Nat.xor_zero]
    rw[a,Q];generalize sX (λc j=>comes D v (dM l (λ_=>replicate D 0) W0 (St.take k) c) j) j (others l r c)=S;generalize sX (λc j=>(dM l z M0 (St.take k) c).getD j 0) j (others l r c)=T
    ac_rfl
   ·rw[lm _ _ n,lm _ _ n]
    refine g c ?_;rcases b with b | b
    ·exact .inl b
    ·right
     rw[w,aU] at b;rcases bF.1 b with b | b
     ·exact b
     ·exact absurd (by simpa using b) n
theorem FW{p q v:Nat->Nat}:∀ {n:Nat},(∀c,c<n->fm (p c) (v c)=fm (q c) (v c))->eG p v n=eG q v n:=by
 intro n
 induction n with
 | zero=>intro _;rfl
 | succ n b=>intro a;show eG p v n ^^^ fm (p n) (v n)=eG q v n ^^^ fm (q n) (v n);rw[b λc d=>a c (by omega),a n (by omega)]
theorem KZ{ls:SC}{n:Nat}(e:ls.length<n):∃f,f<n/\f∉ls:=by
 apply Classical.byContradiction;intro a;have b:∀f,f∈range n->f∈ls:=λf c=>Classical.byContradiction λd=>a ⟨f,bG.1 c,d⟩;have:=(nodup_range (n:=n)).length_le_of_subset b;rw[bg] at this;omega
theorem kernel{n:Nat}{g:List SC}(t:Wf n g)(L:(eT g).length<n):∃p:Nat->Nat,Vb p/\(∃f,f<n/\p f=1)/\∀r∈g,eG p (vO r) n=0:=by
 obtain⟨ls,e,z⟩:=gI t;have M:(eT g).length=ls.length:=by have:=e.red.len;rwa [aG] at this
 obtain⟨f,u,A⟩:=KZ (ls:=ls) (n:=n) (by omega);generalize eT g=c at*;have B:ls.Nodup:=e.red.up.imp λh=>Nat.ne_of_lt h
 have v:∀a,(c.getD a []).getD f 0<256:=λa=>by
  rcases bD a c.length with h | h
  ·exact getD_lt (e.wf.get h).2 f
  ·have i:c.getD a []=[]:=by rw[af,List.getElem?_eq_none h];rfl
   rw[i];show(0:Nat)<256;decide
 obtain⟨d,j⟩:∃d:Nat->Nat,d=λb=>if b∈ls then (c.getD (ls.idxOf b) []).getD f 0 else 0:=⟨_,rfl⟩;have m:Vb d:=λb=>by rw[j];show(if b∈ls then _ else 0)<256;split;exact v _;decide
 have C:d f=0:=by rw[j];exact bA A
 refine⟨λb=>(if b=f then 1 else 0) ^^^ d b,λb=> ?_,⟨f,u,?_⟩,λr D=> ?_⟩
 ·exact Nat.xor_lt_two_pow (n:=8) (by split <;> decide) (m b)
 ·show(if f=f then 1 else 0) ^^^ d f=1
  rw[bu rfl,C];rfl
 ·have E:∀k∈c.map vO,eG (λb=>(if b=f then 1 else 0) ^^^ d b) k n=0:=by
   intro k F;obtain⟨a,w,rfl⟩:=bH F;rw[aG] at w;have G:a<ls.length:=(by omega);have l:Vb (c.map vO)[a]:=e.red.byt _ (aQ _);rw[vB (vI f) m l,kY _ l,bu u];have H:(c.map vO)[a]=vO (c.getD a []):=(by rw[getElem_map,af,ah w];rfl);have x:(c.map vO)[a]? =some (c.map vO)[a]:=ah _;have I:ls[a]? =some ls[a]:=ah G;have o:=v a
   have i:eG d (c.map vO)[a] n=eG (λb=>fm ((c.getD a []).getD f 0) (if b=ls[a] then 1 else 0)) (c.map vO)[a] n:=by
    refine FW λb N=> ?_;by_cases q:b=ls[a]
    ·subst q
     rw[bu rfl,qY _ o];congr 1;rw[j];show(if ls[a]∈ls then _ else 0)=_;rw[bu (aQ _),B.idxOf_getElem]
    ·rw[bA q,bU,dR]
     by_cases y:b∈ls
     ·obtain⟨s,J,rfl⟩:=bH y
      have K:a≠s:=λi=>q (by subst i;rfl);have:=e.red.zero s a (c.map vO)[a] ls[s] x (ah J) K;rw[this,bU]
     ·have:d b=0:=by rw[j];exact bA y
      rw[this,dR]
   rw[i,zW o (vI _) l,kY _ l,bu (e.lt _ (aQ _)),e.red.one a _ _ x I,qY _ o,H];exact Nat.xor_self _
  have s:∀k∈c.map vO,Vb k:=e.red.byt;exact zV s (λb=>Nat.xor_lt_two_pow (n:=8) (by split <;> decide) (m b)) E ((z _).1 (Spn.mem t.vb (mem_map_of_mem D)))
theorem Bn{n:Nat}{d:List SC}(b:Wf n d)(c:(eT d).length=n){p:Nat->Nat}(h:Vb p)(g:∀r∈d,eG p (vO r) n=0):∀k,k<n->p k=0:=by
 intro k e;have i:=pO n n;have m:=wH b (Fc b i) (λf a=>a.sub λr c=>by rw[aU];exact mem_append_left _ c) (by rw[Ff b,c];exact aj _)
 have o:eH n k∈d++kX n n:=by
  refine mem_append_right _ ?_;have:=qZ n n e;rw[<-this];have j:k<(kX n n).length:=(by rw[mW];exact e);rw[af,ah j];exact aQ j
 have q:=(m (vO (eH n k))).2 (Spn.mem (Fc b i).vb (mem_map_of_mem o))
 have l:=zV b.vb h (λf a=>by
  obtain⟨r,c,rfl⟩:=aZ.1 a;exact g r c) q
 have s:eG p (vO (eH n k)) n=eG (λf=>if f=k then 1 else 0) p n:=by
  have:∀a,a<=n->eG p (vO (eH n k)) a=eG (λf=>if f=k then 1 else 0) p a:=by
   intro a
   induction a with
   | zero=>intro _;rfl
   | succ a t=>
     intro u;show eG p _ a ^^^ fm (p a) ((eH n k).getD a 0)=eG _ p a ^^^ fm (if a=k then 1 else 0) (p a);rw[t (by omega),oo,ku];congr 2;by_cases f:a=k
     ·rw[bu f,bu ⟨f,e⟩]
     ·rw[bA f,bA λg=>f g.1]
  exact this n (aj _)
 rw[s,kY _ h,bu e] at l;exact l
structure Bf (n:Nat) (known:Nat->Bool) (l:List SC) (St:List (Nat×Nat)) (De Le:SC):Prop where
 step:∀(k r c:Nat),St[k]? =some (r,c)->r<l.length/\c∈l.getD r []/\∀d∈l.getD r [],d≠c->d∈De\/∃k' r',k'<k/\St[k']? =some (r',d)
 cols:(St.map Prod.snd++De).Nodup
 all:∀c,c<n->(known c=false↔c∈St.map Prod.snd\/c∈De)
 bd:∀c,c∈St.map Prod.snd\/c∈De->c<n
 left:∀i,i∈Le↔i<l.length/\i∉St.map Prod.fst
theorem tC(l:List SC)(z:Nat->SC):∀(St:List (Nat×Nat)) (W:Nat->SC) (c:Nat),c∉St.map Prod.snd->dM l z W St c=W c:=by
 intro St
 induction St with
 | nil=>intro W c _;rfl
 | cons e St f=>
   intro W c a;obtain⟨i,b⟩:=e;have g:c≠b:=λd=>a (by simp[d]);have h:c∉St.map Prod.snd:=λd=>a (by simp[aZ] at d ⊢;exact .inr d);show dM l z (jV W b _) St c=W c;rw[f _ c h,lm _ _ g]
theorem vU{m a:Nat->SC}:∀ {cols:SC} {z:SC},(∀c∈cols,m c=a c)->bZ m cols z=bZ a cols z:=by
 intro cols
 induction cols with
 | nil=>intro z _;rfl
 | cons c cols d=>intro z b;show bZ m cols (xr z (m c))=bZ a cols (xr z (a c));rw[b c (by simp)];exact d λe f=>b e (by simp[f])
theorem OE{n:Nat}{known:Nat->Bool}{l:List SC}{St:List (Nat×Nat)}{De Le:SC}(P:Bf n known l St De Le)(z:Nat->SC)(W0:Nat->SC){k r c:Nat}(hs:St[k]? =some (r,c)):
 dM l z W0 St c=bZ (dM l z W0 St) (others l r c) (z r):=by
 obtain⟨C,h⟩:=List.getElem?_eq_some_iff.1 hs;have b:St=St.take k++(r,c) :: St.drop (k+1):=by rw[<-h,getElem_cons_drop,take_append_drop]
 have j:(St.map Prod.snd).Nodup:=(nodup_append.1 P.cols).1;have d:=j;rw[b,aU,map_cons] at d;obtain⟨D,m,o⟩:=nodup_append.1 d;obtain⟨p,E⟩:=nodup_cons.1 m
 have e:∀a,dM l z W0 St a=dM l z (jV (dM l z W0 (St.take k)) c (bZ (dM l z W0 (St.take k)) (others l r c) (z r))) (St.drop (k+1)) a:=λa=>by
  conv=>lhs;rw[b]
  rw[Bt];rfl
 rw[e c,tC _ _ _ _ _ p,mG];refine vU λa q=> ?_;obtain⟨s,t⟩:=mem_filter.1 q;have f:a≠c:=by simpa using t
 rw[e a];have u:a∉(St.drop (k+1)).map Prod.snd:= ?_
 ·rw[tC _ _ (St.drop (k+1)) _ a u,lm _ _ f]
 intro g;rcases(P.step k r c hs).2.2 a s f with v | ⟨w,x,y,A⟩
 ·have B:a∈St.map Prod.snd:=by rw[b,aU,map_cons];exact mem_append_right _ (mem_cons_of_mem _ g)
  exact(nodup_append.1 P.cols).2.2 a B a v rfl
 ·have:a∈(St.take k).map Prod.snd:=aZ.2 ⟨(x,a),mem_of_getElem? (i:=w) (by rw[List.getElem?_take,bu y];exact A),rfl⟩
  exact o a this a (mem_cons_of_mem _ g) rfl
theorem Hg{n D:Nat}{known:Nat->Bool}{l:List SC}{St:List (Nat×Nat)}{De Le:SC}(P:Bf n known l St De Le)(k:∀r,(l.getD r []).Nodup)(f:∀r,∀c∈l.getD r [],c<n/\known c=false)
 {W0:Nat->SC}(m:∀c,c<n->known c=false->Byt D (dM l (λ_=>replicate D 0) W0 St c)){p:Nat->Nat}(o:Vb p)
 (q:∀r∈Le,eG p (vO (bZ (dM l (λ_=>replicate D 0) W0 St) (l.getD r []) (replicate D 0))) D=0):
 ∀r,r<l.length->sX (λc _=>eG p (vO (dM l (λ_=>replicate D 0) W0 St c)) D) 0 (l.getD r [])=0:=by
 have g:∀(b:SC),Byt D b->eG p (vO b) D=comes D (λd _=>p d) b 0:=λb a=>by
  unfold comes
  have:∀a,eG p (vO b) a=eG (vO b) (λd=>p d) a:=by
   intro a
   induction a with
   | zero=>rfl
   | succ a e=>show eG p (vO b) a ^^^ fm (p a) (vO b a)=eG (vO b) _ a ^^^ fm (vO b a) (p a);rw[e,ku]
  exact this D
 have s:∀d b:Nat,(λd (_:Nat)=>p d) d b<256:=λd b=>o d
 have h:∀b:SC,(∀c∈b,c<n/\known c=false)->eG p (vO (bZ (dM l (λ_=>replicate D 0) W0 St) b (replicate D 0))) D=sX (λc _=>eG p (vO (dM l (λ_=>replicate D 0) W0 St c)) D) 0 b:=λb d=>by
  have e:∀c∈b,Byt D (dM l (λ_=>replicate D 0) W0 St c):=λc b=>m c (d c b).1 (d c b).2;rw[g _ (dU (Byt.zero D) e),qF s 0 (Byt.zero D) e,kN,Nat.zero_xor];exact nI λc b=>(g _ (e c b)).symm
 intro r t;by_cases i:r∈St.map Prod.fst
 ·obtain⟨⟨b,c⟩,u,rfl⟩:=aZ.1 i
  obtain⟨v,j⟩:=List.getElem?_of_mem u;have w:=OE P (λ_=>replicate D 0) W0 j;obtain⟨_,x,_⟩:=P.step v b c j;show sX _ 0 (l.getD b [])=0;rw[KP x (k b)];have y:∀d∈others l b c,d<n/\known d=false:=λd z=>f b d (mem_filter.1 z).1;have d:=h (others l b c) y;rw[<-w] at d;show eG p (vO (dM l (λ_=>replicate D 0) W0 St c)) D ^^^ sX _ 0 (others l b c)=0;rw[d,Nat.xor_self]
 ·have b:r∈Le:=(P.left r).2 ⟨t,i⟩
  rw[<-h _ (f r)];exact q r b
theorem gZ(p q:Nat->Nat)(n:Nat):eG p q n=eG q p n:=by
 induction n with
 | zero=>rfl
 | succ n a=>show eG p q n ^^^ fm (p n) (q n)=eG q p n ^^^ fm (q n) (p n);rw[a,ku]
def dW(W:Nat->SC)(row z:SC):Nat->SC | 0=>z | k+1=>xr (dW W row z k) (lM (row.getD k 0) (W k))
theorem vC{D:Nat}{w:SC}(c:Nat)(b:w.length=D):Byt D (lM c w):=by
 refine⟨by rw[sK];exact b,λd a=> ?_⟩;unfold lM at a;obtain⟨e,_,rfl⟩:=aZ.1 a;exact jq _ _
theorem gD{D:Nat}{W:Nat->SC}{row z:SC}(b:Byt D z):∀k,(∀c,c<k->(W c).length=D)->Byt D (dW W row z k):=by
 intro k
 induction k with
 | zero=>intro _;exact b
 | succ k d=>intro a;exact(d λc e=>a c (by omega)).xr (vC _ (a k (by omega)))
theorem Rt{D:Nat}{p:Nat->Nat}(e:Vb p){a b:SC}(c:Byt D a)(d:Byt D b):eG p (vO (xr a b)) D=eG p (vO a) D ^^^ eG p (vO b) D:=by
 rw[gZ,gZ p (vO a),gZ p (vO b),<-vB (iT c.2) (iT d.2) e];congr 1;funext f;exact nH (by rw[c.1,d.1]) f
theorem O5{D:Nat}{p:Nat->Nat}(a:Vb p){c:Nat}(b:c<256){w:SC}(d:Byt D w):eG p (vO (lM c w)) D=fm c (eG p (vO w) D):=by
 rw[gZ,gZ p (vO w),<-zW b (iT d.2) a];congr 1;funext e;exact jZ c w e
theorem yU(p:Nat->Nat)(D k:Nat):eG p (vO (replicate k 0)) D=0:=by
 have a:vO (replicate k 0)=vz:=by
  funext b;show(replicate k 0).getD b 0=0;rw[af,List.getElem?_replicate];split <;> rfl
 rw[a,BD]
theorem L9{D:Nat}{W:Nat->SC}{p:Nat->Nat}(b:Vb p){row:SC}(d:∀x∈row,x<256):∀k,(∀c,c<k->Byt D (W c))->eG p (vO (dW W row (replicate D 0) k)) D=eG (vO row) (λc=>eG p (vO (W c)) D) k:=by
 intro k
 induction k with
 | zero=>intro _;exact yU p D D
 | succ k e=>
   intro a;have f:Byt D (dW W row (replicate D 0) k):=gD (Byt.zero D) k λc g=>(a c (by omega)).1;show eG p (vO (xr (dW W row (replicate D 0) k) (lM (row.getD k 0) (W k)))) D=eG (vO row) _ k ^^^ fm (vO row k) (eG p (vO (W k)) D);rw[Rt b f (vC _ (a k (by omega)).1),e λc g=>a c (by omega),O5 b (c:=row.getD k 0) (iT d k) (a k (by omega))];rfl
theorem wU{n:Nat}{q:Nat->Nat}(e:Vb q){row:SC}:∀ {cols:SC},cols.Nodup->(∀c∈cols,c<n)->(∀i,i<n->row.getD i 0=if i∈cols then 1 else 0)->eG q (vO row) n=sX (λc _=>q c) 0 cols:=by
 intro cols g f a
 have d:eG q (vO row) n=eG (λi=>if i∈cols then 1 else 0) q n:=by
  rw[gZ];refine FW λi b=> ?_;show fm (row.getD i 0) (q i)=_;rw[a i b]
 rw[d];clear d a
 induction cols with
 | nil=>
   have:∀a,eG (λi=>if i∈([]:SC) then 1 else 0) q a=0:=λa=>by
    induction a with
    | zero=>rfl
    | succ a d=>show eG _ q a ^^^ fm (if a∈([]:SC) then 1 else 0) (q a)=0;rw[d,bA (by simp),dR];rfl
   exact this n
 | cons c cols d=>
   obtain⟨h,j⟩:=nodup_cons.1 g
   have k:(λi=>if i∈c :: cols then 1 else 0)=λi=>(if i=c then 1 else 0) ^^^ (if i∈cols then 1 else 0):=by
    funext i;by_cases b:i=c
    ·subst b;rw[bu mem_cons_self,bu rfl,bA h];rfl
    ·rw[bA b]
     by_cases a:i∈cols
     ·rw[bu (mem_cons_of_mem _ a),bu a];rfl
     ·rw[bA (λl=>(mem_cons.1 l).elim b a),bA a];rfl
   rw[k,vB (vI c) (λi=>by show(if i∈cols then 1 else 0)<256;split <;> decide) e,kY q e,bu (f c (by simp)),d j λa l=>f a (by simp[l])];rfl
theorem Et{n D:Nat}{known:Nat->Bool}{l:List SC}{St:List (Nat×Nat)}{De Le:SC}(P:Bf n known l St De Le)(U:De.length=D)(z:∀r,(l.getD r []).Nodup)(j:∀r,∀c∈l.getD r [],c<n/\known c=false)
 {W0 W:Nat->SC}(A:∀i,i<D->W0 (De.getD i 0)=eH D i)(w:∀c,c<n->W c=if known c then replicate D 0 else dM l (λ_=>replicate D 0) W0 St c)(o:∀c,c<n->Byt D (W c))
 {m:List SC}(B:Wf n m){E:List SC}{F:List SC}(C:∀cols∈E,cols.Nodup/\(∀c∈cols,c<n)/\(cols.filter (λc=> !known c)=[]\/∃r,r<l.length/\l.getD r []=cols.filter λc=> !known c))
 (G:Wf n F)(H:∀r∈F,r∈m\/∃cols∈E,∀i,i<n->r.getD i 0=if i∈cols then 1 else 0)(I:(eT F).length=n):
 (eT (Le.map (λr=>bZ W (l.getD r []) (replicate D 0))++m.map λb=>dW W b (replicate D 0) n)).length=D:=by
 have p:∀c,c<n->known c=false->W c=dM l (λ_=>replicate D 0) W0 St c:=λc e f=>by rw[w c e,f];rfl
 have q:Wf D (Le.map (λr=>bZ W (l.getD r []) (replicate D 0))++m.map λb=>dW W b (replicate D 0) n):=by
  intro r g;rcases bF.1 g with g | g
  ·obtain⟨i,_,rfl⟩:=aZ.1 g
   exact dU (Byt.zero D) λc a=>o c (j i c a).1
  ·obtain⟨b,_,rfl⟩:=aZ.1 g
   exact gD (Byt.zero D) n λc a=>(o c a).1
 have V:=(lN q).2;have X:=(lN q).1;rcases bD (eT (Le.map (λr=>bZ W (l.getD r []) (replicate D 0))++m.map λb=>dW W b (replicate D 0) n)).length D with J | Y
 ·exfalso
  obtain⟨b,s,⟨d,t,K⟩,x⟩:=kernel q J;have y:Vb λc=>eG b (vO (W c)) D:=λc=>zU _ _ _
  have L:=Hg P z j (W0:=W0) (D:=D) (λc e f=>by rw[<-p c e f];exact o c e) s (λr g=>by
   have:=x (bZ W (l.getD r []) (replicate D 0)) (mem_append_left _ (mem_map_of_mem g))
   rwa [vU λc a=>p c (j r c a).1 (j r c a).2] at this)
  have M:=Bn G I y λr g=>by
   rcases H r g with h | ⟨cols,a,N⟩
   ·have e:=x (dW W r (replicate D 0) n) (mem_append_right _ (mem_map_of_mem h))
    rw[L9 s (B r h).2 n o] at e;rw[gZ];exact e
   ·obtain⟨e,f,u⟩:=C cols a
    rw[wU y e f N,tF _ 0 known cols]
    have O:sX (λc (_:Nat)=>eG b (vO (W c)) D) 0 (cols.filter known)=0:=by
     have:∀k:SC,(∀c∈k,c<n/\known c=true)->sX (λc (_:Nat)=>eG b (vO (W c)) D) 0 k=0:=by
      intro k
      induction k with
      | nil=>intro _;rfl
      | cons c k v=>
        intro h;obtain⟨Q,R⟩:=h c (by simp);show eG b (vO (W c)) D ^^^ sX _ 0 k=0;rw[v λS T=>h S (by simp[T]),w c Q,R];show eG b (vO (replicate D 0)) D ^^^ 0=0;rw[yU];rfl
     exact this _ λc a=>⟨f c (mem_filter.1 a).1,(mem_filter.1 a).2⟩
    have Q:sX (λc (_:Nat)=>eG b (vO (W c)) D) 0 (cols.filter λc=> !known c)=0:=by
     rcases u with u | ⟨v,R,S⟩
     ·rw[u];rfl
     ·rw[<-S]
      refine Eq.trans (nI λc a=> ?_) (L v R);show eG b (vO (W c)) D=_;rw[p c (j v c a).1 (j v c a).2]
    rw[O,Q];rfl
  have k:De.getD d 0∈De:=(by rw[af,ah (by omega)];exact aQ _);have u:=P.bd _ (.inr k);have v:known (De.getD d 0)=false:=(P.all _ u).2 (.inr k);have O:De.getD d 0∉St.map Prod.snd:=λh=>(nodup_append.1 P.cols).2.2 _ h _ k rfl;have Q:=M (De.getD d 0) u
  have e:eG b (vO (W (De.getD d 0))) D=b d:=by
   rw[p _ u v,tC _ _ _ _ _ O,A d t];rw[wU s (cols:=[d]) (by simp) (by simp;exact t) (λi R=>by rw[oo];by_cases h:i=d <;> simp[h,t])];show b d ^^^ 0=b d;exact Nat.xor_zero _
  have f:b d=0:=(by rw[<-e];exact Q);rw[K] at f;cases f
 ·omega
theorem Jl(X:List SC)(w:Nat->Nat)(j:Nat):∀D,tmp X w D j=eG w (λa=>(X.getD a []).getD j 0) D:=by
 intro D
 induction D with
 | zero=>rfl
 | succ D a=>show tmp X w D j ^^^ fm (w D) ((X.getD D []).getD j 0)=_;rw[a];rfl
theorem qW{D Z:Nat}{X:List SC}(b:Wf Z X)(e:X.length=D)(w:SC):(qO Z w X D).length=Z/\∀j,(qO Z w X D).getD j 0=comes D (λa j=>(X.getD a []).getD j 0) w j:=by
 obtain⟨c,f,d⟩:=Ab (w:=Z) (r:=w) b D (by omega);refine⟨c,λj=> ?_⟩;have a:=congrFun d j;rw[Jl] at a;exact a
theorem Jm{D:Nat}{v:Nat->Nat->Nat}(a:∀i j,v i j<256){c:Nat}(b:c<256){w:SC}(d:Byt D w)(j:Nat):comes D v (lM c w) j=fm c (comes D v w j):=by
 unfold comes;rw[<-zW b (iT d.2) λi=>a i j];congr 1;funext i;exact jZ c w i
theorem EJ{D:Nat}{v:Nat->Nat->Nat}(b:∀i j,v i j<256){W:Nat->SC}{row:SC}(f:∀x∈row,x<256)(j:Nat):∀k,(∀c,c<k->Byt D (W c))->comes D v (dW W row (replicate D 0) k) j=eG (vO row) (λc=>comes D v (W c) j) k:=by
 intro k
 induction k with
 | zero=>intro _;exact kN D v D j
 | succ k g=>
   intro a;have d:Byt D (dW W row (replicate D 0) k):=gD (Byt.zero D) k λc h=>(a c (by omega)).1;have e:=vC (row.getD k 0) (a k (by omega)).1;show comes D v (xr (dW W row (replicate D 0) k) (lM (row.getD k 0) (W k))) j=eG (vO row) _ k ^^^ fm (vO row k) (comes D v (W k) j);rw[Bu b (by rw[d.1,e.1]) d.2 e.2,g λc h=>a c (by omega),Jm b (c:=row.getD k 0) (iT f k) (a k (by omega))];rfl
theorem Cg{Z:Nat}{M:Nat->SC}{row:SC}(g:∀x∈row,x<256)(j:Nat):∀k,(∀c,c<k->(M c).length=Z)->(dW M row (replicate Z 0) k).getD j 0=eG (vO row) (λc=>(M c).getD j 0) k:=by
 intro k
 induction k with
 | zero=>intro _;show(replicate Z 0).getD j 0=0;rw[af,List.getElem?_replicate];split <;> rfl
 | succ k b=>
   intro a;have d:=(gD (D:=Z) (W:=M) (row:=row) (Byt.zero Z) k λc e=>a c (by omega)).1;have f:=(vC (row.getD k 0) (a k (by omega))).1;show(xr (dW M row (replicate Z 0) k) (lM (row.getD k 0) (M k))).getD j 0=_;rw[nH (by rw[d,f]),b λc e=>a c (by omega),jZ];rfl
theorem EK{n D Z:Nat}{l:List SC}{Le:SC}{W M:Nat->SC}{X:List SC}{z:Nat->SC}{g:List SC}(m:Nat->Nat->Nat)
 (h:Wf Z X)(o:X.length=D)(F:X≠[])(w:∀c,c<n->Byt D (W c))(i:∀c,c<n->Byt Z (M c))(x:∀c,c<n->∀j,m c j=comes D (λa j=>(X.getD a []).getD j 0) (W c) j ^^^ (M c).getD j 0)
 (p:∀r∈Le,∀c∈l.getD r [],c<n)(y:∀r∈Le,Byt Z (z r))(G:∀r∈Le,∀j,sX m j (l.getD r [])=(z r).getD j 0)
 (H:Wf n g)(I:∀row∈g,∀j,eG (vO row) (λc=>m c j) n=0):
 jW (Le.map (λr=>bZ W (l.getD r []) (replicate D 0))++g.map λrow=>dW W row (replicate D 0) n) X=
  Le.map (λr=>bZ M (l.getD r []) (z r))++g.map λrow=>dW M row (replicate Z 0) n:=by
 have A:∀a j:Nat,(X.getD a []).getD j 0<256:=λa j=>by
  rcases bD a X.length with q | q
  ·exact getD_lt (h.get q).2 j
  ·have e:X.getD a []=[]:=by rw[af,List.getElem?_eq_none q];rfl
   rw[e];show(0:Nat)<256;decide
 have J:wid X=Z:=nO h F;unfold jW;rw[aU,map_map,map_map,J,o];congr 1
 ·refine map_congr_left λr d=> ?_
  show qO Z (bZ W (l.getD r []) (replicate D 0)) X D=_;have K:∀c∈l.getD r [],Byt D (W c):=λc b=>w c (p r d c b);have B:∀c∈l.getD r [],(M c).length=Z:=λc b=>(i c (p r d c b)).1;obtain⟨s,t⟩:=qW h o (bZ W (l.getD r []) (replicate D 0));refine ext_get (by rw[s,fM (y r d).1 B]) λj=> ?_;rw[t,jM j (y r d).1 B,qF A j (Byt.zero D) K,kN,Nat.zero_xor,<-G r d j];have e:sX m j (l.getD r [])=sX (λc j=>comes D (λa j=>(X.getD a []).getD j 0) (W c) j ^^^ (M c).getD j 0) j (l.getD r []):=nI λc b=>x c (p r d c b) j;rw[e];generalize l.getD r []=k
  induction k with
  | nil=>simp[sX]
  | cons c k u=>
    show _ ^^^ _=(_ ^^^ _) ^^^ (_ ^^^ _);rw[u]
    dsimp only
    generalize comes D (λa j=>(X.getD a []).getD j 0) (W c) j=v;generalize (M c).getD j 0=f;generalize sX (λc j=>comes D (λa j=>(X.getD a []).getD j 0) (W c) j ^^^ (M c).getD j 0) j k=C;generalize sX (λc j=>(M c).getD j 0) j k=E;have:(v ^^^ f) ^^^ C ^^^ (f ^^^ E)=v ^^^ (C ^^^ E) ^^^ (f ^^^ f):=(by ac_rfl);rw[this,Nat.xor_self,Nat.xor_zero]
 ·refine map_congr_left λrow d=> ?_
  show qO Z (dW W row (replicate D 0) n) X D=_;have k:=(H row d).2;obtain⟨s,t⟩:=qW h o (dW W row (replicate D 0) n);refine ext_get (by rw[s];exact((gD (Byt.zero Z) n λc b=>(i c b).1).1).symm) λj=> ?_;rw[t,EJ A k j n w,Cg k j n λc b=>(i c b).1];have C:=I row d j
  have e:eG (vO row) (λc=>m c j) n=eG (vO row) (λc=>comes D (λa j=>(X.getD a []).getD j 0) (W c) j) n ^^^ eG (vO row) (λc=>(M c).getD j 0) n:=by
   rw[gZ,gZ (vO row) (λc=>comes D _ (W c) j),gZ (vO row) (λc=>(M c).getD j 0)]
   have:∀b,b<=n->eG (λc=>m c j) (vO row) b=eG (λc=>comes D (λa j=>(X.getD a []).getD j 0) (W c) j) (vO row) b ^^^ eG (λc=>(M c).getD j 0) (vO row) b:=by
    intro b
    induction b with
    | zero=>intro _;simp[eG]
    | succ b u=>
      intro K;have E:∀(B:SC),comes D (λa j=>(X.getD a []).getD j 0) B j<256:=λB=>zU _ _ _;show eG _ _ b ^^^ fm (m b j) (vO row b)=(eG _ _ b ^^^ fm _ (vO row b)) ^^^ (eG _ _ b ^^^ fm _ (vO row b));rw[u (by omega),x b (by omega) j,oD (E (W b)) (getD_lt (i b (by omega)).2 j) (iT k b)]
      dsimp only
      ac_rfl
   exact this n (aj _)
  rw[C] at e;generalize eG (vO row) (λc=>comes D (λa j=>(X.getD a []).getD j 0) (W c) j) n=v at*;generalize eG (vO row) (λc=>(M c).getD j 0) n=f at*;have a:=congrArg (·^^^ f) e;simp only[Nat.zero_xor,Nat.xor_assoc,Nat.xor_self,Nat.xor_zero] at a;exact a.symm
theorem MOwn.reput{w w1:World}{C g n c:Nat}{M:List SC}(d:MOwn w C (slice (some ⟨g,0,none⟩) n c) M){i:Nat}(O:i<n){u b:Value}{l:SC}(F:w.cell? ⟨g,i,none⟩=some u)(x:w.grownBy w1 u.ownBlock)(y:OwnB w1 C b l)
 (G:b.ownBlock=u.ownBlock\/b.ownBlock=some w.heap.size):MOwn (w1.setCell ⟨g,i,none⟩ b) C (slice (some ⟨g,0,none⟩) n c) (M.set i l):=by
 have z:=d.len;obtain⟨p,d⟩:=d;have P:=d.vlen;have t:=d.hd;rw[z] at t;have q:p[i]? =some u:=by rw[<-t.cellAt i (by omega)];exact F
 have r:(Value.slice (some ⟨g,0,none⟩) n c).ownBlock=none\/(Value.slice (some ⟨g,0,none⟩) n c).ownBlock≠u.ownBlock:=by
  right;rcases d.hdrow q with e | e
  ·rw[e];simp[Value.ownBlock]
  ·exact λh=>e h.symm
 have A:=t.kept x r;obtain⟨H,B⟩:=A.stored i b;have I:∀(a:Nat) b,p[a]? =some b->∀f,b.ownBlock=some f->f<w.heap.size:=λa b j f k=>((d.of j).1.lt f k).2;have J:∀(a:Nat) u,p[a]? =some u->u.ownBlock=none\/u.ownBlock≠some g:=λa u j=>by have:=d.hdrow j;simpa[Value.ownBlock] using this
 have K:b.ownBlock=none\/b.ownBlock≠some g:=by have:=own_ne y A wO;simpa[Value.ownBlock] using this
 have D:∀(a:Nat) f,a≠i->p[a]? =some f->(b.ownBlock=none\/b.ownBlock≠f.ownBlock)/\(f.ownBlock=none\/f.ownBlock≠b.ownBlock):=λa f s j=>by
  rcases G with h | h
  ·rw[h];exact⟨d.apart i a u f (λh=>s h.symm) q j,d.apart a i f u s j q⟩
  ·have e:f.ownBlock≠some w.heap.size:=λk=>by have:=I a f j _ k;omega
   rw[h];exact⟨.inr (λk=>e k.symm),.inr e⟩
 refine⟨p.set i b,by rw[length_set,z];exact H,λa L s=> ?_,λa E k f r N j=> ?_⟩
 ·rcases jg s with⟨rfl,rfl,m⟩ | ⟨e,o⟩
  ·exact⟨b,BC (by omega),y.kept B K⟩
  ·obtain⟨k,m,v⟩:=d.row a L o
   exact⟨k,by rw[F5 e];exact m,(v.kept x (d.apart a i k u e m q)).kept B (J a k m)⟩
 ·rcases jg N with⟨rfl,rfl,m⟩ | ⟨e,o⟩
  ·rcases jg j with⟨rfl,_,_⟩ | ⟨e,o⟩
   ·exact absurd rfl r
   ·exact(D E f e o).1
  ·rcases jg j with⟨rfl,rfl,_⟩ | ⟨m,v⟩
   ·exact(D a k e o).2
   ·exact d.apart a E k f r o v
theorem LV{a:Type}{X Y:List a}(e:X.length=Y.length){k:Nat}(d:k<Y.length){x:a}(b:X[k]? =some x):(X.take k++Y.drop k).set k x=X.take (k+1)++Y.drop (k+1):=by
 have c:k<X.length:=by omega
 rw[ah c] at b;rw[set_append_right _ _ (by rw[aH];omega),aH,Nat.min_eq_left (by omega),Nat.sub_self,drop_eq_getElem_cons d,set_cons_zero,aO c,append_assoc,singleton_append,Option.some.inj b]
def qi(a B:List SC)(r:Nat):List SC:=(dQ a B).take r++a.drop r
theorem Er{a B:List SC}(b:a.length=B.length):qi a B a.length=dQ a B:=by
 unfold qi;rw[drop_length,append_nil,aN (by rw[fF b];exact aj _)]
theorem IM{a B:List SC}(b:a.length=B.length){r:Nat}(c:r<a.length):(qi a B r).getD r []=a.getD r []:=by
 unfold qi;rw[af,List.getElem?_append_right (by rw[aH,fF b];omega),aH,fF b,Nat.min_eq_left (by omega),Nat.sub_self,List.getElem?_drop,Nat.add_zero,af]
theorem IP{a B:List SC}(b:a.length=B.length){r:Nat}(c:r<a.length):(qi a B r).set r (a.getD r []++B.getD r [])=qi a B (r+1):=by
 unfold qi;refine LV (fF b) c ?_;rw[<-kw b r];exact getD_some (by rw[fF b];exact c)
def jC(X:List SC)(r:Nat):Bool:=(X.drop r).any λa=>decide (0<=jo a)
def kP(n:Nat)(a B:List SC):Nat:=if (dI (dQ a B) n).2<n then 9 else if jC (dI (dQ a B) n).1 (dI (dQ a B) n).2 then 10 else 0
def kQ(n:Nat)(a B:List SC):List SC:=if kP n a B=0 then ((dI (dQ a B) n).1.take (dI (dQ a B) n).2).map (List.drop n) else []
theorem IQ{X:List SC}{r t:Nat}(a:t<(X.drop r).length)(b:0<=jo ((X.drop r).getD t [])):jC X r=true:=by
 unfold jC;rw[any_eq_true];exact⟨_,oO a,bq b⟩
theorem BF{X:List SC}{r:Nat}(b:∀t,t<(X.drop r).length->¬0<=jo ((X.drop r).getD t [])):jC X r=false:=by
 unfold jC;rw[any_eq_false];intro e c;obtain⟨d,a,rfl⟩:=bH c;have:=b d a;rw[af,ah a] at this;simpa using this
