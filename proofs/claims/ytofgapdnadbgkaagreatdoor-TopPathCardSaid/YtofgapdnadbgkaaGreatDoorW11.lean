import Derived.Test.YtofgapdnadbgkaaGreatDoorW10
import Derived.Laws.ResultCell
import Derived.Laws.BitsAllLaws
set_option linter.unusedVariables false
set_option maxRecDepth 100000
set_option maxHeartbeats 400000000
namespace Go.Proofs.YtofgapdnadbgkaaGreatDoor
open Go.RowKit _root_.Go.Proofs.Tryz
def bL(K H S:Int):Value:=.agg #[.int .i64 K,.int .i64 H,.int .i64 S]
def ed(K H S:Int):Bool:=decide (1≤K∧K≤16∧1≤H∧H≤4∧1≤S∧S≤24)
theorem pM{K H S:Int}(h:1≤K∧K≤16∧1≤H∧H≤4∧1≤S∧S≤24):ed K H S=true:=decide_eq_true h
theorem Jt{K H S:Int}(h:¬(1≤K∧K≤16∧1≤H∧H≤4∧1≤S∧S≤24)):ed K H S=false:=decide_eq_false h
theorem pO{a b:Bool}(h:a=b):Ending.returned (.bool a)=.returned (.bool b):=by rw[h]
theorem eP(K H S:Int)(w:World):
 Calls prog 26 #[bL K H S] w fun e w'=>e=.returned (.bool (ed K H S))∧Below w.heap.size w w':=by
 have hb:=(az w.heap.size w).alloc (ah _) (.cells #[.int .i64 K,.int .i64 H,.int .i64 S] 26);have HB:=ae hb;clear hb;unfold bL;go_enter func26,ntmps26;go_wp2_with fail
 all_goals(
  go_ret;refine⟨pO ?_,HB.out⟩
  first
  | (simp[ed];omega)
  | (simp only[ed,decide_eq_decide];omega)
  | (simp[ed] at*;omega))
def gV(K H S:Int):Int:=if ed K H S then K+H else 0
theorem mM(K H S:Int)(w:World):
 Calls prog 44 #[bL K H S] w fun e w'=>e=.returned (.bool (ed K H S))∧Below w.heap.size w w':=by
 have hb:=(az w.heap.size w).alloc (ah _) (.cells #[.int .i64 K,.int .i64 H,.int .i64 S] 26);have HB:=ae hb;clear hb;unfold bL;go_enter func44,ntmps44;go_wp2_with fail
 all_goals(
  go_ret;refine⟨pO ?_,HB.out⟩
  first
  | (simp[ed];omega)
  | (simp only[ed,decide_eq_decide];omega)
  | (simp[ed] at*;omega))
theorem lU(K H S:Int)(w:World):
 Calls prog 48 #[bL K H S] w fun e w'=>e=.returned (.int .i64 (gV K H S))∧Below w.heap.size w w':=by
 have hb:=(az w.heap.size w).alloc (ah _) (.cells #[.int .i64 K,.int .i64 H,.int .i64 S] 26);have hB:=Blk.new w 26 #[.int .i64 K,.int .i64 H,.int .i64 S];have c0:(w.alloc (.cells #[.int .i64 K,.int .i64 H,.int .i64 S] 26)).cell? ⟨w.heap.size,0,none⟩=some (.int .i64 K):=hB.cell 0;have c1:(w.alloc (.cells #[.int .i64 K,.int .i64 H,.int .i64 S] 26)).cell? ⟨w.heap.size,1,none⟩=some (.int .i64 H):=hB.cell 1;have hs:w.heap.size<(w.alloc (.cells #[.int .i64 K,.int .i64 H,.int .i64 S] 26)).heap.size:=by simp
 have C0:=ae c0;have C1:=ae c1;have HB:=ae hb;have CM:=ae fun w=>eP K H S w;clear hb hB c0 c1;unfold bL at CM ⊢;by_cases h:1≤K∧K≤16∧1≤H∧H≤4∧1≤S∧S≤24
 ·have e1:=pM h
  have HE:Hid (gV K H S=K+H):=ae (by unfold gV;rw[if_pos e1]);rw[e1] at CM;obtain⟨h1,h2,h3,h4,-⟩:=h;clear e1;go_enter func48,ntmps48;go_wp2_with fail;generalize w.alloc (.cells #[.int .i64 K,.int .i64 H,.int .i64 S] 26)=w1 at*;refine(CM.out _).mono ?_;rintro e w2 ⟨rfl,hb2⟩;have k0:=(hb2.cell (p:=⟨w.heap.size,0,none⟩) hs).trans C0.out;have k1:=(hb2.cell (p:=⟨w.heap.size,1,none⟩) hs).trans C1.out;have HB2:=ae (HB.out.trans (hb2.mono (Nat.le_of_lt hs)));clear hb2;go_wp2_with fail;go_ret;exact⟨by rw[HE.out];rfl,HB2.out⟩
 ·have e1:=Jt h
  have HE:Hid (gV K H S=0):=ae (by unfold gV;rw[e1];rfl);rw[e1] at CM;clear e1 h;go_enter func48,ntmps48;go_wp2_with fail;generalize w.alloc (.cells #[.int .i64 K,.int .i64 H,.int .i64 S] 26)=w1 at*;refine(CM.out _).mono ?_;rintro e w2 ⟨rfl,hb2⟩;have HB2:=ae (HB.out.trans (hb2.mono (Nat.le_of_lt hs)));clear hb2;go_wp2_with fail;go_ret;exact⟨by rw[HE.out];rfl,HB2.out⟩
theorem uL(K H S:Int)(w:World):
 Calls prog 46 #[bL K H S] w fun e w'=>e=.returned (.int .i64 (gV K H S))∧Below w.heap.size w w':=by
 have hb:=(az w.heap.size w).alloc (ah _) (.cells #[.int .i64 K,.int .i64 H,.int .i64 S] 26);have hB:=Blk.new w 26 #[.int .i64 K,.int .i64 H,.int .i64 S];have c0:(w.alloc (.cells #[.int .i64 K,.int .i64 H,.int .i64 S] 26)).cell? ⟨w.heap.size,0,none⟩=some (.int .i64 K):=hB.cell 0;have c1:(w.alloc (.cells #[.int .i64 K,.int .i64 H,.int .i64 S] 26)).cell? ⟨w.heap.size,1,none⟩=some (.int .i64 H):=hB.cell 1;have hs:w.heap.size<(w.alloc (.cells #[.int .i64 K,.int .i64 H,.int .i64 S] 26)).heap.size:=by simp
 have C0:=ae c0;have C1:=ae c1;have HB:=ae hb;have CM:=ae fun w=>mM K H S w;clear hb hB c0 c1;unfold bL at CM ⊢;by_cases h:1≤K∧K≤16∧1≤H∧H≤4∧1≤S∧S≤24
 ·have e1:=pM h
  have HE:Hid (gV K H S=K+H):=ae (by unfold gV;rw[if_pos e1]);rw[e1] at CM;obtain⟨h1,h2,h3,h4,-⟩:=h;clear e1;go_enter func46,ntmps46;go_wp2_with fail;generalize w.alloc (.cells #[.int .i64 K,.int .i64 H,.int .i64 S] 26)=w1 at*;refine(CM.out _).mono ?_;rintro e w2 ⟨rfl,hb2⟩;have k0:=(hb2.cell (p:=⟨w.heap.size,0,none⟩) hs).trans C0.out;have k1:=(hb2.cell (p:=⟨w.heap.size,1,none⟩) hs).trans C1.out;have HB2:=ae (HB.out.trans (hb2.mono (Nat.le_of_lt hs)));clear hb2;go_wp2_with fail;go_ret;exact⟨by rw[HE.out];rfl,HB2.out⟩
 ·have e1:=Jt h
  have HE:Hid (gV K H S=0):=ae (by unfold gV;rw[e1];rfl);rw[e1] at CM;clear e1 h;go_enter func46,ntmps46;go_wp2_with fail;generalize w.alloc (.cells #[.int .i64 K,.int .i64 H,.int .i64 S] 26)=w1 at*;refine(CM.out _).mono ?_;rintro e w2 ⟨rfl,hb2⟩;have HB2:=ae (HB.out.trans (hb2.mono (Nat.le_of_lt hs)));clear hb2;go_wp2_with fail;go_ret;exact⟨by rw[HE.out];rfl,HB2.out⟩
def qA(n s:Int):List Nat:=qH (fS (eD n) s) n (j4 (eD n) s:Nat)
theorem xJ(n s:Int):(qA n s).length≤64:=Ja _ _ _
theorem KQ{n:Nat}(h1:1≤n)(h2:n≤64)(s:Int):1≤j4 (eD n) s∧j4 (eD n) s≤n:=by
 rw[sF ⟨h1,h2⟩];have hne:gG n≠[]:=fun e=>by have:=eC n;rw[e] at this;simp at this;omega
 unfold j4;rw[if_neg hne,eC,jc (by omega:n-1<n),show n-1+1=n by omega]
 have hp:0<fN n n:=by
  have:=AV h2 (show n-1<n by omega);rw[show n-1+1=n by omega] at this;omega
 have hpI:(0:Int)<(fN n n:Nat):=by omega
 refine Mf h1 h2 ?_ ?_
 ·exact(lZ _ _).1
 ·rw[oQ hpI];exact Int.emod_lt_of_pos _ hpI
theorem xK{n:Nat}(h1:1≤n)(h2:n≤64)(s:Int):1≤(qA n s).length∧(∀x∈qA n s,x<n)∧(qA n s).Pairwise (·< ·):=by
 obtain⟨d1,d2⟩:=KQ h1 h2 s;unfold qA qH Kk;rw[if_pos (decide_eq_true (by omega)),Int.toNat_natCast,Int.toNat_natCast];exact⟨by rw[sZ d2];exact d1,EP d2,yX d2⟩
def oM(n:Nat)(L:List Nat):List Nat:=L.foldl (fun r i=>r.set i 1) (List.replicate n 0)
theorem zq(n:Nat)(L:List Nat)(x:Nat):oM n (L++[x])=(oM n L).set x 1:=by unfold oM;rw[List.foldl_append];rfl
theorem zr(n:Nat)(L:List Nat):(oM n L).length=n∧∀i,i<n→(oM n L).getD i 0=if i∈L then 1 else 0:=by
 unfold oM
 suffices ∀(M:List Nat) (r:List Nat) (P:Nat→Prop),r.length=n→(∀i,i<n→(P i∧r.getD i 0=1)∨(¬P i∧r.getD i 0=0))→
  (M.foldl (fun r i=>r.set i 1) r).length=n∧∀i,i<n→((P i∨i∈M)∧(M.foldl (fun r i=>r.set i 1) r).getD i 0=1)∨(¬(P i∨i∈M)∧(M.foldl (fun r i=>r.set i 1) r).getD i 0=0) by
  obtain⟨h1,h2⟩:=this L (List.replicate n 0) (fun _=>False) (by simp) (fun i hi=>.inr ⟨id,by rw[af,List.getElem?_replicate];split <;> rfl⟩);refine⟨h1,fun i hi=> ?_⟩;rcases h2 i hi with⟨h,e⟩ | ⟨h,e⟩
  ·rw[e,if_pos (by simpa using h)]
  ·rw[e,if_neg (fun hm=>h (.inr hm))]
 intro M
 induction M with
 | nil=>intro r P h1 h2;exact⟨h1,fun i hi=>by simpa using h2 i hi⟩
 | cons x M ih=>
   intro r P h1 h2
   obtain⟨h3,h4⟩:=ih (r.set x 1) (fun i=>P i∨i=x) (by rw[List.length_set];exact h1) (fun i hi=>by
    rw[af,List.getElem?_set];by_cases e:x=i
    ·subst e
     rw[if_pos rfl,if_pos (by omega)];exact .inl ⟨.inr rfl,rfl⟩
    ·rw[if_neg e,←af]
     rcases h2 i hi with⟨h,e2⟩ | ⟨h,e2⟩
     ·exact .inl ⟨.inl h,e2⟩
     ·exact .inr ⟨fun h'=>h'.elim h fun e3=>e e3.symm,e2⟩)
   refine⟨h3,fun i hi=> ?_⟩;rcases h4 i hi with⟨h,e⟩ | ⟨h,e⟩
   ·left
    refine⟨?_,e⟩;rcases h with(h | h) | h
    ·exact .inl h
    ·exact .inr (by rw[h];exact List.mem_cons_self)
    ·exact .inr (List.mem_cons_of_mem _ h)
   ·right
    refine⟨fun h'=>h ?_,e⟩;rcases h' with h' | h'
    ·exact .inl (.inl h')
    ·rcases List.mem_cons.1 h' with h' | h'
     ·exact .inl (.inr h')
     ·exact .inr h'
theorem rO(n:Nat)(L:List Nat):(oM n L).length=n:=(zr n L).1
theorem DK{n:Nat}{L:List Nat}{i:Nat}(hi:i<n):(oM n L).getD i 0=if i∈L then 1 else 0:=(zr n L).2 i hi
def tL(id:Int):Int:=IntKind.u32.wrap (id%4294967296*2654435761)
theorem DL(id:Int):0≤tL id∧tL id<4294967296:=by unfold tL;rw[IntKind.wrap_u32];omega
def jf(s id:Int):Int:=bits .xor .u32 s (tL id)
theorem KR{s id:Int}(h0:0≤s)(h1:s<4294967296):jf s id=((s.toNat ^^^ (tL id).toNat:Nat):Int):=by
 have hm:=DL id;unfold jf;have:=u32_xor_nat s.toNat (tL id).toNat (by omega) (by omega)
 rwa [Int.toNat_of_nonneg h0,Int.toNat_of_nonneg hm.1] at this
theorem Iw{s:Int}(id:Int)(h0:0≤s)(h1:s<4294967296):0≤jf s id∧jf s id<4294967296:=by
 have hm:=DL id;rw[KR h0 h1];have:=Nat.xor_lt_two_pow (n:=32) (x:=s.toNat) (y:=(tL id).toNat) (by omega) (by omega);omega
def gq(K H S s id:Int):List Nat:=if ed K H S∧0≤id∧id≤65535 then qA (K+H) (gY (jf s id)) else []
def iV(K H S s id:Int):List Nat:=if ed K H S∧0≤id∧id≤65535 then oM (K+H).toNat (qA (K+H) (gY (jf s id))) else []
theorem zt(K H S s id:Int):(gq K H S s id).length≤64:=by
 unfold gq;split
 ·exact xJ _ _
 ·simp
def jT(n k h:Nat):Nat→List Nat
 | 0=>dI n k
 | j+1=>(jT n k h j).set j (ex ((h+1)*(j+1)))
def mY(n h:Nat):Nat→List Nat
 | 0=>List.replicate n 0
 | j+1=>(mY n h j).set j (ex ((h+1)*(j+1)))
def bD(K H:Nat):Nat→List (List Nat)
 | 0=>[]
 | r+1=>bD K H r++[jT (K+H) (K+r) r K]
theorem Ay(n k h j:Nat):(jT n k h j).length=n:=by
 induction j with
 | zero=>exact gD _ _
 | succ j ih=>rw[jT,List.length_set];exact ih
theorem Az(n h j:Nat):(mY n h j).length=n:=by
 induction j with
 | zero=>exact aN ..
 | succ j ih=>rw[mY,List.length_set];exact ih
theorem LO(n k h j:Nat):By (jT n k h j):=by
 induction j with
 | zero=>exact mV _ _
 | succ j ih=>
   intro x hx;rcases List.mem_or_eq_of_mem_set hx with h1 | h1
   ·exact ih x h1
   ·subst h1;exact(kO _).2
theorem JJ(n k h j:Nat)(hj:j≤k):jT n k h j=(mY n h j).set k 1:=by
 induction j with
 | zero=>rfl
 | succ j ih=>rw[jT,mY,ih (by omega),List.set_comm _ _ (by omega)]
theorem dD(K H r:Nat):(bD K H r).length=r:=by
 induction r with
 | zero=>rfl
 | succ r ih=>rw[bD,aJ,ih];rfl
theorem LP(K H r j:Nat):(jT (K+H) (K+r) r j).length=K+H∧By (jT (K+H) (K+r) r j):=⟨Ay _ _ _ _,LO _ _ _ _⟩
theorem uX(K H r:Nat){i:Nat}(hi:i<r):(bD K H r).getD i []=jT (K+H) (K+i) i K:=by
 induction r with
 | zero=>omega
 | succ r ih=>
   rw[bD,af,List.getElem?_append,dD];by_cases h:i<r
   ·rw[if_pos h,←af];exact ih h
   ·obtain rfl:i=r:=by omega
    simp
theorem qO(K H r:Nat):Wf (K+H) (bD K H r):=by
 induction r with
 | zero=>intro l hl;simp[bD] at hl
 | succ r ih=>
   intro l hl;rw[bD,List.mem_append] at hl;rcases hl with h | h
   ·exact ih l h
   ·rw[List.mem_singleton] at h;subst h;exact LP _ _ _ _
theorem Eo(n:Nat)(h:n<255):exI (n:Int)=ex n:=by
 unfold exI;have:((n:Int)%255).toNat=n:=by omega
 rw[this]
theorem qa{w:World}{g:Nat}{t:TypeId}{x y z:Value}(h:Blk w g t #[x,y,z]):w.cell? ⟨g,0,none⟩=some x∧w.cell? ⟨g,1,none⟩=some y∧w.cell? ⟨g,2,none⟩=some z:=⟨h.cell 0,h.cell 1,h.cell 2⟩
theorem yF(K H:Nat)(S:Int)(hK:1≤K∧K≤16)(hH:1≤H∧H≤4)(hS:1≤S∧S≤24)(N:Nat)(hN:K+H=N)(G:Nat)(cs:Array Value)(w:World)(hx:Blk w G 26 cs):
 Calls prog 48 #[.agg #[.int .i64 K,.int .i64 H,.int .i64 S]] w fun e w'=>e=.returned (.int .i64 N)∧Blk w' G 26 cs∧Below w.heap.size w w':=by
 have hok:ed K H S=true:=pM (by omega);have hc:gV K H S=(N:Nat):=by unfold gV;rw[if_pos hok];omega
 have h:=lU K H S w;rw[hc] at h;exact h.mono fun e w' ⟨h1,h2⟩=>⟨h1,hx.below h2 hx.lt,h2⟩
theorem yG(n k:Nat)(G:Nat)(t:TypeId)(cs:Array Value)(w:World)(hx:Blk w G t cs)(hn:n≤64)(hk:k<n):
 Calls prog 134 #[.int .i64 n,.int .i64 k] w fun e w'=>∃g cap,e=.returned (.slice (some ⟨g,0,none⟩) n cap)∧w.heap.size≤g∧OwnB w' w.heap.size (.slice (some ⟨g,0,none⟩) n cap) (dI n k)∧Blk w' G t cs∧Below w.heap.size w w':=
 (JM n k w hn hk).mono fun e w' ⟨v,h1,h2,h3⟩=>by
   obtain⟨g,cap,h4,h5,h6⟩:=OwnB.form h2 (by rw[gD];omega);rw[gD] at h4;subst h4;exact⟨g,cap,h1,h5,h2,hx.below h3 hx.lt,h3⟩
theorem qb(K H:Nat)(S:Int)(w:World)(hK:1≤K∧K≤16)(hH:1≤H∧H≤4)(hS:1≤S∧S≤24):
 Calls prog 68 #[bL K H S] w fun e w'=>∃v,e=.returned v∧MOwn w' w.heap.size v (bD K H H)∧Below w.heap.size w w':=by
 have hb:=(az w.heap.size w).alloc (ah _) (.cells #[.int .i64 K,.int .i64 H,.int .i64 S] 26);have hB:=Blk.new w 26 #[.int .i64 K,.int .i64 H,.int .i64 S];have hs:w.heap.size<(w.alloc (.cells #[.int .i64 K,.int .i64 H,.int .i64 S] 26)).heap.size:=by simp
 have hok:ed K H S=true:=pM (by omega);have HB:=ae hb;have HBX:=ae hB;have CM:=ae fun w=>eP K H S w;have CC:=ae fun N hN G cs w hx=>yF K H S hK hH hS N hN G cs w hx;rw[hok] at CM;clear hb hB hok;unfold bL at CM ⊢;go_enter func68,ntmps68;go_wp2_with fail;generalize w.alloc (.cells #[.int .i64 K,.int .i64 H,.int .i64 S] 26)=w1 at*;generalize hG:w.heap.size=G at*;have HG:=ae hG;clear hG;refine(CM.out _).mono ?_;rintro e w2 ⟨rfl,hb2⟩;have HBX2:=ae (HBX.out.below hb2 hs);have HB2:=ae (HB.out.trans (hb2.mono (Nat.le_of_lt hs)));have hs2:G<w2.heap.size:=by have:=hb2.size;omega
 clear hb2 HBX HB CM hs;go_wp2_with fail;refine(ou _).mono ?_;rintro e w3 ⟨gf,rfl,hgf,hfl,hb3⟩;have HFL:=ae hfl;have HBX3:=ae (HBX2.out.below hb3 hs2);have HB3:=ae (HB2.out.trans (hb3.mono (Nat.le_of_lt hs2)));clear hb3 hfl hgf HBX2 HB2;have c1:=(qa HBX3.out).2.1;go_wp2_with fail;clear c1 hs2 w2 w1;have HM0:Hid (MOwn w3 G (.slice none 0 0) (bD K H 0)):=ae (MOwn.nil _ _);go_loopw [4,5,6,7,14] (fun o _ _ _ i wr=>∃r:Nat,r≤H∧i=.int .i64 r∧Hid (MOwn wr G o (bD K H r))∧Hid (Fld wr gf)∧Hid (Blk wr G 26 #[.int .i64 K,.int .i64 H,.int .i64 S])∧Hid (Below G w wr)) (fun _ _ _ _ i _=>H-(intOf i).toNat)
 case atStart=>exact⟨0,by omega,rfl,HM0,HFL,HBX3,HB3⟩
 case round=>
  clear HM0 HFL HB3 HBX3;obtain⟨r,hr,rfl,HM,HFL,HBX,HB⟩:=hrel;rename World=>wo;have hGr:G<wo.heap.size:=Blk.lt HBX.out;by_cases hrm:r<H
  ·have hrmI:(r:Int)<(H:Int):=by omega
   obtain⟨c0,c1,c2⟩:=qa HBX.out;have HC0:=ae c0;have HC1:=ae c1;have HC2:=ae c2;obtain⟨N,hN⟩:∃N,K+H=N:=⟨_,rfl⟩;obtain⟨q,hq⟩:∃q,K+r=q:=⟨_,rfl⟩;have hqI:((K:Int)+(r:Int))=(q:Int):=(by omega);have hq2:q≤64:=(by omega);have hqw:IntKind.i64.wrap (q:Int)=(q:Int):=(by rw[IntKind.wrap_i64];omega);have CU:=ae fun w hx=>yG N q G 26 #[.int .i64 K,.int .i64 H,.int .i64 S] w hx (by omega) (by omega);have HN:=ae hN;have HQ:=ae hq;clear hN hq;generalize hD:wo.heap.size=D at*;have HD:=ae hD;clear hD;go_wp2_with fail
   go_region_with (first
    | (go_at_call 48
       refine(CC.out N HN.out G _ wo.drew HBX.out).mono ?_;rintro e w2 ⟨rfl,hx2,hb2⟩;obtain⟨k0,k1,k2⟩:=qa hx2;have HX2:=ae hx2;have HB2:=ae hb2;clear hx2 hb2)
    | (go_at_call 134
       try rw[hqw]
       refine(CU.out _ HX2.out).mono ?_;rintro e w3 ⟨g3,cap3,rfl,hg3,hown,hx3,hb3⟩;obtain⟨m0,m1,m2⟩:=qa hx3;have HX3:=ae hx3;have HB3:=ae hb3;have HO3:=ae hown;have HG3:=ae hg3;clear hx3 hb3 hown hg3))
   all_goals(
    have HBD0:Hid (Below D wo w3):=ae (by
     have h1:Below wo.heap.size wo wo.drew:=below_drewN (az _ _) 1;have h2:Below wo.heap.size wo w2:=h1.trans HB2.out;rw[←HD.out];exact h2.trans (HB3.out.mono h2.size))
    have hDg:D≤g3:=(by have h1:=HD.out;have h2:=HB2.out.size;have h3:=HG3.out;have h4:wo.drew.heap.size=wo.heap.size:=rfl;omega);have HO0:Hid (OwnB w3 D (.slice (some ⟨g3,0,none⟩) N cap3) (jT N q r 0)):=ae (OwnB.base HO3.out (by have h1:=HD.out;have h2:=HB2.out.size;have h4:wo.drew.heap.size=wo.heap.size:=rfl;omega));have HTK:Hid (bD K H (r+1)=bD K H r++[jT N q r K]):=ae (by rw[bD,HN.out,HQ.out]);have hKN:K≤N:=(by have:=HN.out;omega);clear HX2 HB2 HX3 HB3 HO3 HG3 k0 k1 k2 c0 c1 c2 HC0 HC1 HC2 hqI hqw CU;go_wp2_with fail;clear m0 m1 m2 hq2;go_loopw [7,26] (fun _ i wq=>∃j:Nat,j≤K∧i=.int .i64 j∧Hid (OwnB wq D (.slice (some ⟨g3,0,none⟩) N cap3) (jT N q r j))∧Hid (Below D wo wq)) (fun _ i _=>K-(intOf i).toNat)
    case atStart=>exact⟨0,by omega,rfl,HO0,HBD0⟩
    case round=>
     clear HO0 HBD0;obtain⟨j,hj,rfl,HO,HBD⟩:=hrel;by_cases hjn:j<K
     ·have hjnI:(j:Int)<(K:Int):=by omega
      obtain⟨x,hx⟩:∃x,(r+1)*(j+1)=x:=⟨_,rfl⟩;have hx2:x≤64:=(by rw[←hx];exact Nat.mul_le_mul (show r+1≤4 by omega) (show j+1≤16 by omega));have hxI:((r:Int)+1)*((j:Int)+1)=(x:Int):=(by rw[←hx];simp);have hx64:IntKind.i64.wrap (x:Int)=(x:Int):=(by rw[IntKind.wrap_i64];omega);have CE:=ae (Ni gf x (by omega) wr (HFL.out.below HBD.out (by have:=Blk.lt HFL.out;rw[HD.out] at this;exact this)));rw[Eo x (by omega)] at CE;have HST:Hid (jT N q r (j+1)=(jT N q r j).set j (ex x)):=ae (by rw[jT,hx]);have HX:=ae hx;have hjN:(j:Int)<(N:Int):=(by omega);clear hx;generalize ex x=y at*;go_wp2_with fail;refine CE.out.mono ?_;rintro e w5 ⟨rfl,z,rfl⟩;have hl:(jT N q r j).length=N:=Ay _ _ _ _;obtain⟨cc,cf⟩:=OwnB.cell (HO.out.drewN z) hl (k:=j) (by omega);have HS:=ae (OwnB.stored (HO.out.drewN z) hl j y);clear hl;go_wp2_with fail;have HO5:Hid (OwnB ((wr.drewN z).setCell ⟨g3,j,none⟩ (.int .u8 (y:Nat))) D (.slice (some ⟨g3,0,none⟩) N cap3) (jT N q r (j+1))):=ae (by rw[HST.out];exact HS.out.1);have HB5:Hid (Below D wo ((wr.drewN z).setCell ⟨g3,j,none⟩ (.int .u8 (y:Nat)))):=ae (Below.setCell (below_drewN HBD.out z) (p:=⟨g3,j,none⟩) hDg _);clear HS HST HO HBD CE cc cf;generalize (wr.drewN z).setCell ⟨g3,j,none⟩ (.int .u8 (y:Nat))=w5 at*;go_wp2_with fail;go_roundw
      case rel=>(try((repeat apply Exists.intro);refine⟨?_,rfl⟩));exact⟨j+1,by omega,by go_num,HO5,HB5⟩
      case measure=>simp[intOf];omega
     ·obtain rfl:j=K:=by omega
      have hmt:(bD j H r).length≤1000000:=(by rw[dD];omega);have hGD2:G≤wo.heap.size:=(by rw[HD.out];omega);have HBD2:Hid (Below wo.heap.size wo wr):=ae (by rw[HD.out];exact HBD.out);have HO2:Hid (OwnB wr wo.heap.size (.slice (some ⟨g3,0,none⟩) N cap3) (jT N q r j)):=ae (by rw[HD.out];exact HO.out);have HF5:Hid (Fld wr gf):=ae (HFL.out.below HBD2.out (Blk.lt HFL.out));have HX5:Hid (Blk wr G 26 #[.int .i64 j,.int .i64 H,.int .i64 S]):=ae (HBX.out.below HBD2.out (Blk.lt HBX.out))
      go_wp2_with (at_builtin;refine kD (w0:=wo) (w1:=wr) rfl _ _ rfl HM.out HBD2.out HO2.out hGD2 hmt rfl rfl ?_)
      intro v' w6 hM6 hb6 hg6 hat6;rw[←HTK.out] at hM6;have HM6:=ae hM6;have HB6:=ae (HB.out.trans hb6);obtain⟨vs,hMV⟩:=HM.out
      have hown:u4.ownBlock=none∨∃g' cs,u4.ownBlock=some g'∧Blk wo g' 23 cs:=by
       rcases hMV.hd.2 with⟨h1,_⟩ | ⟨g',cap,cur,h1,_,hb,_⟩
       ·rw[h1];exact .inl rfl
       ·rw[h1];exact .inr ⟨g',_,rfl,hb⟩
      have HF6:Hid (Fld w6 gf):=ae (by
       refine Blk.grown (Blk.alloc HF5.out _) hg6 ?_;rcases hown with h | ⟨g',cs,h,hb⟩
       ·rw[h];simp
       ·rw[h]
        have:gf≠g':=Blk.ne (t:=119) (t':=23) HFL.out hb (by decide);simpa using this)
      have HX6:Hid (Blk w6 G 26 #[.int .i64 j,.int .i64 H,.int .i64 S]):=ae (by
       refine Blk.grown (Blk.alloc HX5.out _) hg6 ?_;rcases hown with h | ⟨g',cs,h,hb⟩
       ·rw[h];simp
       ·rw[h]
        have:G≠g':=Blk.ne (t:=26) (t':=23) HBX.out hb (by decide);simpa using this)
      clear hM6 hb6 hg6 hat6 HM HBD HBD2 HO HO2 HF5 HX5 HTK HFL HB HBX hown hMV;go_wp2_with fail;go_roundw
      case rel=>(try((repeat apply Exists.intro);refine⟨?_,rfl⟩));exact⟨r+1,by omega,by go_num,HM6,HF6,HX6,HB6⟩
      case measure=>simp[intOf];omega)
  ·obtain rfl:r=H:=by omega
   go_wp2_with fail;go_ret;exact⟨_,rfl,by rw[HG.out];exact HM.out,by rw[HG.out];exact HB.out⟩
theorem sX_at(f:Nat→Nat→Nat)(j:Nat)(l:List Nat):sX (fun c _=>f c j) 0 l=sX f j l:=by
 induction l with
 | nil=>rfl
 | cons c l ih=>show f c j ^^^ sX (fun c _=>f c j) 0 l=f c j ^^^ sX f j l;rw[ih]
theorem ku{K H Z:Nat}{s id:Int}(hk:ed K H Z=true):(∀c∈gq K H Z s id,c<K+H)∧(gq K H Z s id).Pairwise (·< ·):=by
 have hok:=of_decide_eq_true hk;unfold gq;split
 ·have h:=xK (n:=K+H) (by omega) (by omega) (gY (jf s id))
  rw[Int.natCast_add] at h;exact⟨h.2.1,h.2.2⟩
 ·exact⟨by simp,List.Pairwise.nil⟩
theorem lG{l:List Nat}(h:l.Pairwise (·< ·)):l.Nodup:=h.imp fun h=>Nat.ne_of_lt h
theorem pq{K H Z:Nat}{s id:Int}(hk:ed K H Z=true)(h0:0≤id)(h1:id≤65535):(iV K H Z s id).length=K+H∧By (iV K H Z s id)∧(∀i,i<K+H→(iV K H Z s id).getD i 0=if i∈gq K H Z s id then 1 else 0)∧1≤(gq K H Z s id).length:=by
 have hok:=of_decide_eq_true hk;unfold iV gq;rw[if_pos ⟨hk,h0,h1⟩,if_pos ⟨hk,h0,h1⟩,show((K:Int)+(H:Int)).toNat=K+H by omega];have h:=xK (n:=K+H) (by omega) (by omega) (gY (jf s id));rw[Int.natCast_add] at h;refine⟨rO _ _,fun x hx=> ?_,fun i hi=>DK hi,h.1⟩;obtain⟨i,hi,rfl⟩:=List.getElem_of_mem hx;have hi2:=hi;rw[rO] at hi2;have e:=DK (L:=qA ((K:Int)+(H:Int)) (gY (jf s id))) hi2;rw[af,ag hi] at e;have e':(oM (K+H) (qA ((K:Int)+(H:Int)) (gY (jf s id))))[i]=if i∈qA ((K:Int)+(H:Int)) (gY (jf s id)) then 1 else 0:=e;rw[e'];split <;> decide
def dL(K H Z:Nat)(s:Int)(ids:List Nat):List (List Nat):=bD K H H++ids.map fun i=>iV K H Z s (i:Nat)
theorem pu{K H Z:Nat}{s:Int}{ids:List Nat}(hk:ed K H Z=true)(hi:∀i∈ids,i≤65535):Wf (K+H) (dL K H Z s ids):=by
 intro r hr;rcases List.mem_append.1 hr with hr | hr
 ·exact qO K H H r hr
 ·obtain⟨i,h1,rfl⟩:=List.mem_map.1 hr
  have h2:=hi i h1;have:=pq (s:=s) (id:=(i:Nat)) hk (by omega) (by omega);exact⟨this.1,this.2.1⟩
theorem kG(K H Z:Nat)(s:Int)(ids:List Nat):(dL K H Z s ids).length=H+ids.length:=by unfold dL;rw[aJ,aG,dD]
def dn(K H Z:Nat)(s:Int)(m:List (List Nat))(id:Nat):List Nat:=bz (fun c=>m.getD c []) (gq K H Z s (id:Nat)) (List.replicate Z 0)
def jR(H Z:Nat)(dat:List (List Nat)):List (List Nat):=List.replicate H (List.replicate Z 0)++dat
theorem DN{H Z:Nat}{dat:List (List Nat)}(hd:Wf Z dat):Wf Z (jR H Z dat):=by
 intro r hr;rcases List.mem_append.1 hr with hr | hr
 ·rw[List.eq_of_mem_replicate hr];exact⟨aN,By.zeros Z⟩
 ·exact hd r hr
structure MidOK (K H Z:Nat) (s:Int) (m:List (List Nat)):Prop where
 wf:Wf Z m
 len:m.length=K+H
 pre:∀h,h<H→∀j,dG (vO (jT (K+H) (K+h) h K)) (fun c=>(m.getD c []).getD j 0) (K+H)=0
theorem MidOK.row{K H Z:Nat}{s:Int}{m:List (List Nat)}(h:MidOK K H Z s m){c:Nat}(hc:c<K+H):(m.getD c []).length=Z∧By (m.getD c []):=h.wf.get (by rw[h.len];exact hc)
theorem MidOK.vb{K H Z:Nat}{s:Int}{m:List (List Nat)}(h:MidOK K H Z s m)(j:Nat):Vb fun c=>(m.getD c []).getD j 0:=fun c=>by
 rcases Nat.lt_or_ge c (K+H) with hc | hc
 ·exact getD_lt (h.row hc).2 j
 ·have e:m.getD c []=[]:=by rw[af,List.getElem?_eq_none (by rw[h.len];exact hc)];rfl
  show((m.getD c []).getD j 0)<256;rw[e];show(0:Nat)<256;decide
theorem fF{K H Z:Nat}{s:Int}{m:List (List Nat)}(hk:ed K H Z=true)(h:MidOK K H Z s m)(id:Nat):(dn K H Z s m id).length=Z:=eB aN fun c hc=>(h.row ((ku hk).1 c hc)).1
theorem pz{K H Z:Nat}{s:Int}{m:List (List Nat)}(hk:ed K H Z=true)(h:MidOK K H Z s m)(id:Nat):By (dn K H Z s m id):=(df (D:=Z) (Byt.zero Z) fun c hc=>h.row ((ku hk).1 c hc)).2
theorem Iy{K H Z:Nat}{s:Int}{m:List (List Nat)}(hk:ed K H Z=true)(h:MidOK K H Z s m){id:Nat}(hid:id≤65535)(j:Nat):(dn K H Z s m id).getD j 0=dG (vO (iV K H Z s (id:Nat))) (fun c=>(m.getD c []).getD j 0) (K+H):=by
 obtain⟨h1,h2,h3,_⟩:=pq (s:=s) (id:=(id:Nat)) hk (by omega) (by omega);obtain⟨c1,c2⟩:=ku (s:=s) (id:=(id:Nat)) hk;unfold dn;rw[iX j aN fun c hc=>(h.row (c1 c hc)).1,fH (vO _),tV (h.vb j) (lG c2) c1 h3];have e:(List.replicate Z 0).getD j 0=0:=by rw[af,List.getElem?_replicate];split <;> rfl
 rw[e,Nat.zero_xor];exact(sX_at (fun c j=>(m.getD c []).getD j 0) j _).symm
theorem MN{K H Z:Nat}{s:Int}{dat:List (List Nat)}(hk:ed K H Z=true)(hd:Wf Z dat)(hl:dat.length=K)(hr:(dh (dL K H Z s (List.range K))).length=K+H):
 jF (K+H) (dL K H Z s (List.range K)) (jR H Z dat)=0∧MidOK K H Z s (jG (K+H) (dL K H Z s (List.range K)) (jR H Z dat))∧∀i,i<K→dn K H Z s (jG (K+H) (dL K H Z s (List.range K)) (jR H Z dat)) i=dat.getD i []:=by
 have hok:=of_decide_eq_true hk;have hA:Wf (K+H) (dL K H Z s (List.range K)):=pu hk fun i hi=>by have:=List.mem_range.1 hi;omega
 have hAl:(dL K H Z s (List.range K)).length=K+H:=by rw[kG,List.length_range];omega
 have hCl:(jR H Z dat).length=K+H:=by unfold jR;rw[aJ,aN,hl];omega
 obtain⟨h1,h2,h3,h4⟩:=LC hA (DN (H:=H) hd) (by rw[hAl,hCl]) hAl (by omega) hr;generalize jG (K+H) (dL K H Z s (List.range K)) (jR H Z dat)=m at*
 have hm:MidOK K H Z s m:=by
  refine⟨h2,h3,fun h hh j=> ?_⟩;have:=h4 h (by omega) j
  have e1:(dL K H Z s (List.range K)).getD h []=jT (K+H) (K+h) h K:=by
   unfold dL;rw[af,List.getElem?_append_left (by rw[dD];exact hh),←af];exact uX K H H hh
  have e2:((jR H Z dat).getD h []).getD j 0=0:=by
   unfold jR;rw[af (l:=_++_),List.getElem?_append_left (by rw[aN];exact hh),List.getElem?_replicate,if_pos hh];show(List.replicate Z 0).getD j 0=0;rw[af,List.getElem?_replicate];split <;> rfl
  rw[e1,e2] at this;exact this.symm
 refine⟨h1,hm,fun i hi=> ?_⟩;have hdi:dat.getD i []∈dat:=by rw[af,ag (by omega)];exact aU _
 refine iN (by rw[fF hk hm,(hd _ hdi).1]) fun j=> ?_;rw[Iy hk hm (by omega)];have:=h4 (H+i) (by omega) j
 have e1:(dL K H Z s (List.range K)).getD (H+i) []=iV K H Z s (i:Nat):=by
  unfold dL;rw[af,List.getElem?_append_right (by rw[dD];omega),dD,Nat.add_sub_cancel_left,List.getElem?_map,List.getElem?_range hi];rfl
 have e2:(jR H Z dat).getD (H+i) []=dat.getD i []:=by
  unfold jR;rw[af,List.getElem?_append_right (by rw[aN];omega),aN,Nat.add_sub_cancel_left,←af]
 rw[e1,e2] at this;exact this.symm
theorem Sx.drew{w0 w:World}{L:List vC}(h:Sx w0 w L):Sx w0 w.drew L:=h.step ((az _ _).drew)
theorem Sx.cut{w0 w:World}{L:List vC}(h:Sx w0 w L)(M:List vC)(hs:∀e∈M,e∈L):Sx w0 w M:=⟨h.1,fun e he=>h.2 e (hs e he)⟩
theorem OwnI.rd2{w:World}{C:Nat}{v:Value}{l:List Nat}{n:Nat}(h:OwnI w C v l)(hn:l.length=n):∃a c,v=.slice a n c∧(jp a n (bf l)).ok w∧(a=none→c=0):=by
 subst hn;exact jC h
end Go.Proofs.YtofgapdnadbgkaaGreatDoor
