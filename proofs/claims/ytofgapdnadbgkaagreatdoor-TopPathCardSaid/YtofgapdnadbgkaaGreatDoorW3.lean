import Derived.Test.YtofgapdnadbgkaaGreatDoorW2
import Derived.StillTailTactics
import Derived.Laws.CopyOwn
set_option linter.unusedVariables false
set_option maxRecDepth 100000
set_option maxHeartbeats 400000000
namespace Go.Proofs.YtofgapdnadbgkaaGreatDoor
open Go.RowKit _root_.Go.Proofs.Tryz
def gt(M:List (List Nat))(i j:Nat):Nat:=(M.getD i []).getD j 0
def kx(c:Nat)(a b:List Nat):List Nat:=List.zipWith (fun x y=>y ^^^ fm c x) a b
def jH(c:Nat)(a:List Nat):List Nat:=a.map fun x=>fm c x
def vO(r:List Nat):Nat→Nat:=fun j=>r.getD j 0
def swp(M:List (List Nat))(i j:Nat):List (List Nat):=(M.set i (M.getD j [])).set j (M.getD i [])
def bG(M:List (List Nat))(top col k:Nat):List (List Nat):=M.mapIdx fun i r=>if i<k∧i≠top then kx (r.getD col 0) (M.getD top []) r else r
def lw(M:List (List Nat))(col:Nat):Nat→Nat→Option Nat
 | _,0=>none
 | i,n+1=>if gt M i col≠0 then some i else lw M col (i+1) n
def iK(M:List (List Nat))(top col p:Nat):List (List Nat):=(swp M top p).set top (jH (fi (gt (swp M top p) top col)) ((swp M top p).getD top []))
def iD(M:List (List Nat))(top col:Nat):List (List Nat)×Nat:=
 match lw M col top (M.length-top) with
 | none=>(M,top)
 | some p=>(bG (iK M top col p) top col M.length,top+1)
def bI(M:List (List Nat)):Nat→List (List Nat)×Nat
 | 0=>(M,0)
 | col+1=>iD (bI M col).1 (bI M col).2 col
def wid(M:List (List Nat)):Nat:=(M.getD 0 []).length
def dh(M:List (List Nat)):List (List Nat):=(bI M (wid M)).1.take (bI M (wid M)).2
def Wf(n:Nat)(M:List (List Nat)):Prop:=∀r∈M,r.length=n∧∀x∈r,x<256
theorem getD_lt{r:List Nat}(h:∀x∈r,x<256)(j:Nat):r.getD j 0<256:=by
 rcases Nat.lt_or_ge j r.length with hj | hj
 ·rw[af,ag hj];exact h _ (aU hj)
 ·rw[af,List.getElem?_eq_none hj];decide
theorem gP{r:List Nat}(h:∀x∈r,x<256):Vb (vO r):=fun j=>getD_lt h j
theorem Wf.row{n:Nat}{M:List (List Nat)}(h:Wf n M)(i:Nat):(M.getD i []=[]∧M.length≤i)∨((M.getD i []).length=n∧(∀x∈M.getD i [],x<256)∧i<M.length∧M.getD i []∈M):=by
 rcases Nat.lt_or_ge i M.length with hi | hi
 ·rw[af,ag hi]
  have:=h _ (aU hi);exact .inr ⟨this.1,this.2,hi,aU hi⟩
 ·rw[af,List.getElem?_eq_none hi];exact .inl ⟨rfl,hi⟩
theorem Wf.lt{n:Nat}{M:List (List Nat)}(h:Wf n M)(i j:Nat):gt M i j<256:=by
 unfold gt;rcases h.row i with⟨h1,_⟩ | ⟨_,h1,_⟩
 ·rw[h1];simp
 ·exact getD_lt h1 j
theorem uB{M:List (List Nat)}{i:Nat}(h:M.length≤i)(j:Nat):gt M i j=0:=by
 unfold gt;rw[af (l:=M),List.getElem?_eq_none h];simp
theorem fA{c:Nat}{a b:List Nat}(h:a.length=b.length):(kx c a b).length=b.length:=by unfold kx;rw[List.length_zipWith];omega
theorem jY{c:Nat}{a b:List Nat}(h:a.length=b.length)(j:Nat):(kx c a b).getD j 0=b.getD j 0 ^^^ fm c (a.getD j 0):=by
 unfold kx;rcases Nat.lt_or_ge j b.length with hj | hj
 ·simp only[af,List.getElem?_zipWith,ag hj,ag (show j<a.length by omega),Option.getD_some]
 ·simp only[af,List.getElem?_zipWith,List.getElem?_eq_none hj,List.getElem?_eq_none (show a.length≤j by omega),Option.getD_none,bq];rfl
theorem pK{c:Nat}{a b:List Nat}(h:∀x∈b,x<256):∀x∈kx c a b,x<256:=by
 intro x hx;unfold kx at hx;obtain⟨i,hi⟩:=List.getElem?_of_mem hx;rw[List.getElem?_zipWith] at hi;cases ha:a[i]? with
 | none=>simp[ha] at hi
 | some u=>
   cases hb:b[i]? with
   | none=>simp[ha,hb] at hi
   | some v=>
     simp[ha,hb] at hi;rw[←hi];exact qP (h v (List.mem_of_getElem? hb)) (fU _ _)
theorem iO(c:Nat)(a:List Nat)(j:Nat):(jH c a).getD j 0=fm c (a.getD j 0):=by
 unfold jH;simp only[af,List.getElem?_map];cases a[j]? with
 | none=>simp[bq]
 | some x=>simp
theorem z8{a b:List Nat}(h:a.length=b.length):kx 0 a b=b:=by
 refine List.ext_getElem? fun i=> ?_;unfold kx;rw[List.getElem?_zipWith];rcases Nat.lt_or_ge i b.length with hj | hj
 ·simp only[ag hj,ag (show i<a.length by omega),bW,Nat.xor_zero]
 ·simp only[List.getElem?_eq_none hj,List.getElem?_eq_none (show a.length≤i by omega)]
theorem Ml{c:Nat}{a b:List Nat}(h:a.length=b.length):vO (kx c a b)=jK c (vO a) (vO b):=funext fun j=>jY h j
theorem yp{n:Nat}{a b:List Nat}(ha:a.length=n)(hb:b.length=n)(h:vO a=vO b):a=b:=by
 refine List.ext_getElem (by omega) fun i h1 h2=> ?_;have:=congrFun h i;simpa[vO,h1,h2] using this
theorem D8{n:Nat}{a:List Nat}(ha:a.length=n)(h:∀j,j<n→a.getD j 0=0):vO a=vz:=funext fun j=>by
 rcases Nat.lt_or_ge j n with hj | hj
 ·exact h j hj
 ·unfold vO vz;rw[af,List.getElem?_eq_none (by omega)];rfl
theorem kL{M:List (List Nat)}{col:Nat}:∀(n i p:Nat),lw M col i n=some p→i≤p∧p<i+n∧gt M p col≠0∧∀k,i≤k→k<p→gt M k col=0:=by
 intro n
 induction n with
 | zero=>intro i p h;simp[lw] at h
 | succ n ih=>
   intro i p h;rw[lw] at h;split at h
   ·rename_i hg
    obtain rfl:i=p:=(by simpa using h);exact⟨ah _,by omega,hg,fun k h1 h2=>by omega⟩
   ·rename_i hg
    obtain⟨h1,h2,h3,h4⟩:=ih (i+1) p h;refine⟨by omega,by omega,h3,fun k hk1 hk2=> ?_⟩;by_cases hk:k=i
    ·subst hk;exact Classical.byContradiction fun h=>hg h
    ·exact h4 k (by omega) hk2
theorem F9{M:List (List Nat)}{col:Nat}:∀(n i:Nat),lw M col i n=none→∀k,i≤k→k<i+n→gt M k col=0:=by
 intro n
 induction n with
 | zero=>intro i h k h1 h2;omega
 | succ n ih=>
   intro i h k h1 h2;rw[lw] at h;split at h
   ·simp at h
   ·rename_i hg
    by_cases hk:k=i
    ·subst hk;exact Classical.byContradiction fun h=>hg h
    ·exact ih (i+1) h k (by omega) (by omega)
def sg(a b k:Nat):Nat:=if k=a then b else if k=b then a else k
theorem gH(M:List (List Nat))(i j:Nat):(swp M i j).length=M.length:=by simp[swp]
theorem kT{M:List (List Nat)}{i j:Nat}(hi:i<M.length)(hj:j<M.length)(k:Nat):(swp M i j).getD k []=M.getD (sg i j k) []:=by
 unfold swp sg;simp only[af,List.getElem?_set,List.length_set];by_cases h1:k=i
 ·subst h1
  by_cases h2:j=k
  ·subst h2;simp[hi]
  ·simp[hi,h2]
 ·by_cases h2:k=j
  ·subst h2;simp[hj,h1]
  ·rw[if_neg (fun e=>h2 e.symm),if_neg (fun e=>h1 e.symm),if_neg h1,if_neg h2]
theorem fK(M:List (List Nat))(top col p:Nat):(iK M top col p).length=M.length:=by simp[iK,gH]
theorem lQ{M:List (List Nat)}{top col p:Nat}(ht:top<M.length)(hp:p<M.length)(k:Nat):(iK M top col p).getD k []=if k=top then jH (fi (gt M p col)) (M.getD p []) else M.getD (sg top p k) []:=by
 have e1:=kT ht hp top;have e2:sg top p top=p:=by unfold sg;simp
 rw[e2] at e1;unfold iK;have e3:gt (swp M top p) top col=gt M p col:=by unfold gt;rw[e1]
 rw[e3,e1];by_cases h:k=top
 ·subst h;simp[gH,ht]
 ·rw[if_neg h,←kT ht hp k]
  simp only[af,List.getElem?_set,if_neg (fun e:top=k=>h e.symm)]
theorem dZ(M:List (List Nat))(top col k:Nat):(bG M top col k).length=M.length:=by simp[bG]
theorem eO{M:List (List Nat)}(top col k:Nat){i:Nat}(hi:i<M.length):(bG M top col k).getD i []=if i<k∧i≠top then kx (gt M i col) (M.getD top []) (M.getD i []) else M.getD i []:=by
 unfold bG gt;simp only[af,List.getElem?_mapIdx,ag hi,Option.map_some,Option.getD_some]
theorem ru(M:List (List Nat))(top col:Nat):bG M top col 0=M:=by
 refine List.ext_getElem? fun i=> ?_;unfold bG;rw[List.getElem?_mapIdx];cases M[i]? <;> simp
theorem iZ{n:Nat}{M:List (List Nat)}(hM:Wf n M){top col k:Nat}(hk:k<M.length):bG M top col (k+1)=if k=top then bG M top col k else (bG M top col k).set k (kx (gt M k col) (M.getD top []) (M.getD k [])):=by
 split
 ·rename_i e
  subst e;refine List.ext_getElem? fun i=> ?_;unfold bG;simp only[List.getElem?_mapIdx];cases M[i]? with
  | none=>rfl
  | some r=>
    simp only[Option.map_some];by_cases h:i=k
    ·subst h;simp
    ·by_cases h2:i<k
     ·simp[h2,show i<k+1 by omega]
     ·simp[h2,show ¬i<k+1 by omega]
 ·rename_i e
  refine List.ext_getElem? fun i=> ?_;rw[List.getElem?_set];by_cases h:k=i
  ·subst h
   rw[if_pos rfl,if_pos (by rw[dZ];exact hk)];unfold bG gt;simp only[List.getElem?_mapIdx,af,ag hk,Option.map_some,Option.getD_some];rw[if_pos ⟨by omega,e⟩]
  ·rw[if_neg h]
   unfold bG;simp only[List.getElem?_mapIdx];cases M[i]? with
   | none=>rfl
   | some r=>
     simp only[Option.map_some];by_cases h2:i<k
     ·simp[h2,show i<k+1 by omega]
     ·simp[h2,show ¬i<k+1 by omega]
theorem mJ{M:List (List Nat)}{i:Nat}(h:i<M.length):M.getD i []∈M:=by
 rw[af,ag h];exact aU h
theorem uC{n:Nat}{M:List (List Nat)}(h:∀i,i<M.length→(M.getD i []).length=n∧∀x∈M.getD i [],x<256):Wf n M:=by
 intro r hr;obtain⟨i,hi,rfl⟩:=List.getElem_of_mem hr;have:=h i hi;rw[af,ag hi] at this;exact this
theorem Wf.get{n:Nat}{M:List (List Nat)}(h:Wf n M){i:Nat}(hi:i<M.length):(M.getD i []).length=n∧∀x∈M.getD i [],x<256:=h _ (mJ hi)
theorem uD{a b k m:Nat}(ha:a<m)(hb:b<m)(hk:k<m):sg a b k<m:=by unfold sg;split;exact hb;split;exact ha;exact hk
theorem Jc(a b k:Nat):sg a b (sg a b k)=k:=by
 unfold sg;by_cases h1:k=a
 ·subst h1
  by_cases h2:b=k
  ·simp[h2]
  ·simp[h2]
 ·by_cases h2:k=b
  ·subst h2;simp[h1]
  ·simp[h1,h2]
theorem yt{n:Nat}{M:List (List Nat)}(hM:Wf n M){top col p:Nat}(ht:top<M.length)(hp:p<M.length):Wf n (iK M top col p):=by
 refine uC fun i hi=> ?_;rw[fK] at hi;rw[lQ ht hp i];split
 ·have:=hM.get hp
  exact⟨by rw[jH,aG];exact this.1,fun x hx=>by
   simp only[jH,List.mem_map] at hx;obtain⟨y,_,rfl⟩:=hx;exact fU _ _⟩
 ·exact hM.get (uD ht hp hi)
theorem mK{n:Nat}{M:List (List Nat)}(hM:Wf n M){top:Nat}(col k:Nat)(ht:top<M.length):Wf n (bG M top col k):=by
 refine uC fun i hi=> ?_;rw[dZ] at hi;rw[eO top col k hi];have h1:=hM.get hi;have h2:=hM.get ht;split
 ·exact⟨by rw[fA (by omega)];exact h1.1,pK h1.2⟩
 ·exact h1
structure Inv (n:Nat) (M:List (List Nat)) (col top:Nat) (ls:List Nat):Prop where
 wf:Wf n M
 cnt:ls.length=top
 le:top≤M.length
 up:ls.Pairwise (·< ·)
 lt:∀l∈ls,l<col
 piv:∀(i:Nat) l,ls[i]? =some l→∀k,k<M.length→gt M k l=if k=i then 1 else 0
 low:∀(i:Nat) l,ls[i]? =some l→∀j,j<l→gt M i j=0
 rest:∀i,top≤i→∀j,j<col→gt M i j=0
theorem Aa{n:Nat}{M:List (List Nat)}(hM:Wf n M){top col p:Nat}(ht:top<M.length)(hp:p<M.length){k:Nat}(hk:k<M.length)(j:Nat):
 gt (bG (iK M top col p) top col M.length) k j=if k=top then fm (fi (gt M p col)) (gt M p j) else gt M (sg top p k) j ^^^ fm (gt M (sg top p k) col) (fm (fi (gt M p col)) (gt M p j)):=by
 have hw:=yt (col:=col) hM ht hp;have hl:k<(iK M top col p).length:=by rw[fK];exact hk
 have e0:(iK M top col p).getD top []=jH (fi (gt M p col)) (M.getD p []):=by rw[lQ ht hp top,if_pos rfl]
 conv=>lhs;unfold gt
 rw[eO top col _ hl];by_cases h:k=top
 ·subst h
  rw[if_neg (by simp),if_pos rfl,e0,iO];rfl
 ·have e1:(iK M top col p).getD k []=M.getD (sg top p k) []:=by rw[lQ ht hp k,if_neg h]
  have e2:gt (iK M top col p) k col=gt M (sg top p k) col:=(by unfold gt;rw[e1]);have h1:=hM.get (uD ht hp hk);have h2:=hM.get hp;rw[if_pos ⟨hk,h⟩,if_neg h,e2,e1,e0,jY (by simp only[jH,aG];omega),iO];rfl
theorem Inv.step{n:Nat}{M:List (List Nat)}{col top:Nat}{ls:List Nat}(h:Inv n M col top ls):∃ls',Inv n (iD M top col).1 (col+1) (iD M top col).2 ls':=by
 unfold iD;cases hf:lw M col top (M.length-top) with
 | none=>
   refine⟨ls,h.wf,h.cnt,h.le,h.up,fun l hl=>by have:=h.lt l hl;omega,h.piv,h.low,fun i hi j hj=> ?_⟩;by_cases hjc:j=col
   ·subst hjc
    rcases Nat.lt_or_ge i M.length with hl | hl
    ·exact F9 _ _ hf i hi (by omega)
    ·exact uB hl j
   ·exact h.rest i hi j (by omega)
 | some p=>
   dsimp only
   obtain⟨p1,p2,p3,-⟩:=kL _ _ _ hf;have hp:p<M.length:=(by omega);have ht:top<M.length:=(by omega);have hG:=fun k (hk:k<M.length) j=>Aa (col:=col) h.wf ht hp hk j;have hlen:(bG (iK M top col p) top col M.length).length=M.length:=(by rw[dZ,fK]);have hz:∀j,j<col→fm (fi (gt M p col)) (gt M p j)=0:=fun j hj=>(by rw[h.rest p p1 j hj,bq]);have hone:fm (fi (gt M p col)) (gt M p col)=1:=by rw[il];exact vh p3 (h.wf.lt p col)
   have hsz:∀k j,top≤k→j<col→gt M (sg top p k) j=0:=fun k j hk hj=>by
    refine h.rest _ ?_ j hj;unfold sg;split
    ·exact p1
    ·split <;> omega
   have hcol:∀k,k<M.length→gt (bG (iK M top col p) top col M.length) k col=if k=top then 1 else 0:=fun k hk=>by
    rw[hG k hk,hone];split
    ·rfl
    ·rw[jN _ (h.wf.lt _ _),Nat.xor_self]
   refine⟨ls++[col],mK (yt h.wf ht hp) _ _ (by rw[fK];exact ht),by simp[h.cnt],by rw[hlen];exact ht,?_,?_,?_,?_,?_⟩
   ·rw[List.pairwise_append]
    exact⟨h.up,List.pairwise_singleton _ _,fun a ha b hb=>by
     obtain rfl:b=col:=(by simpa using hb);exact h.lt a ha⟩
   ·intro l hl
    rcases List.mem_append.1 hl with hl | hl
    ·have:=h.lt l hl;omega
    ·obtain rfl:l=col:=by simpa using hl
     omega
   ·intro i l hl k hk
    rw[hlen] at hk;rcases Nat.lt_or_ge i ls.length with hi | hi
    ·rw[List.getElem?_append_left hi] at hl
     have hlc:=h.lt l (List.mem_of_getElem? hl);have hit:i<top:=(by have:=h.cnt;omega);rw[hG k hk,hz l hlc];split
     ·rename_i e;subst e;rw[if_neg (by omega)]
     ·rename_i e
      rw[bq,Nat.xor_zero];by_cases hkp:k=p
      ·subst hkp
       rw[hsz k l p1 hlc,if_neg (by omega)]
      ·have:sg top p k=k:=by unfold sg;rw[if_neg e,if_neg hkp]
       rw[this];exact h.piv i l hl k hk
    ·rw[List.getElem?_append_right hi] at hl
     have hi0:i-ls.length=0:=by
      have:=(List.getElem?_eq_some_iff.1 hl).1;simp at this;omega
     rw[hi0] at hl;obtain rfl:col=l:=(by simpa using hl);rw[hcol k hk];have:i=top:=(by have:=h.cnt;omega);rw[this]
   ·intro i l hl j hj
    rcases Nat.lt_or_ge i ls.length with hi | hi
    ·rw[List.getElem?_append_left hi] at hl
     have hlc:=h.lt l (List.mem_of_getElem? hl);have hit:i<top:=(by have:=h.cnt;omega);rw[hG i (by omega),if_neg (by omega),hz j (by omega),bq,Nat.xor_zero];have:sg top p i=i:=(by unfold sg;rw[if_neg (by omega),if_neg (by omega)]);rw[this];exact h.low i l hl j hj
    ·rw[List.getElem?_append_right hi] at hl
     have hi0:i-ls.length=0:=by
      have:=(List.getElem?_eq_some_iff.1 hl).1;simp at this;omega
     rw[hi0] at hl;obtain rfl:col=l:=(by simpa using hl);have:i=top:=(by have:=h.cnt;omega);subst this;rw[hG i ht,if_pos rfl,hz j hj]
   ·intro i hi j hj
    rcases Nat.lt_or_ge i M.length with hl | hl
    ·by_cases hjc:j=col
     ·subst hjc
      rw[hcol i hl,if_neg (by omega)]
     ·rw[hG i hl,if_neg (by omega),hz j (by omega),bq,Nat.xor_zero]
      exact hsz i j (by omega) (by omega)
    ·exact uB (by rw[hlen];exact hl) j
theorem Ga{n:Nat}{M:List (List Nat)}(h:Wf n M):Inv n M 0 0 []:=
 ⟨h,rfl,Nat.zero_le _,List.Pairwise.nil,by simp,by simp,by simp,fun i _ j hj=>by omega⟩
theorem ic{n:Nat}{M:List (List Nat)}(h:Wf n M)(col:Nat):∃ls,Inv n (bI M col).1 col (bI M col).2 ls:=by
 induction col with
 | zero=>exact⟨[],Ga h⟩
 | succ col ih=>
   obtain⟨ls,hi⟩:=ih;exact hi.step
theorem Gb(M:List (List Nat))(top col:Nat):(iD M top col).1.length=M.length:=by
 unfold iD;split
 ·rfl
 ·rw[dZ,fK]
theorem ig(M:List (List Nat))(col:Nat):(bI M col).1.length=M.length:=by
 induction col with
 | zero=>rfl
 | succ col ih=>rw[bI,Gb,ih]
def SpEq(M N:List (List Nat)):Prop:=∀v,Spn (M.map vO) v↔Spn (N.map vO) v
theorem SpEq.refl(M:List (List Nat)):SpEq M M:=fun _=>Iff.rfl
theorem SpEq.symm{M N:List (List Nat)}(h:SpEq M N):SpEq N M:=fun v=>(h v).symm
theorem SpEq.trans{M N L:List (List Nat)}(h:SpEq M N)(h':SpEq N L):SpEq M L:=fun v=>(h v).trans (h' v)
theorem Wf.vb{n:Nat}{M:List (List Nat)}(h:Wf n M):∀r∈M.map vO,Vb r:=by
 intro r hr;obtain⟨x,hx,rfl⟩:=List.mem_map.1 hr;exact gP (h x hx).2
theorem Wf.spn{n:Nat}{M:List (List Nat)}(h:Wf n M){i:Nat}(hi:i<M.length):Spn (M.map vO) (vO (M.getD i [])):=Spn.mem h.vb (List.mem_map_of_mem (mJ hi))
theorem lS{n m:Nat}{M N:List (List Nat)}(hM:Wf n M)(hN:Wf m N)(h:∀i,i<M.length→Spn (N.map vO) (vO (M.getD i []))){v:Nat→Nat}(hv:Spn (M.map vO) v):Spn (N.map vO) v:=by
 refine hv.trans hN.vb fun r hr=> ?_;obtain⟨x,hx,rfl⟩:=List.mem_map.1 hr;obtain⟨i,hi,rfl⟩:=List.getElem_of_mem hx;have:=h i hi;rw[af,ag hi] at this;exact this
theorem Gc{n:Nat}{M:List (List Nat)}(hM:Wf n M)(top col:Nat):SpEq M (iD M top col).1:=by
 unfold iD;cases hf:lw M col top (M.length-top) with
 | none=>exact SpEq.refl M
 | some p=>
   dsimp only
   obtain⟨p1,p2,p3,-⟩:=kL _ _ _ hf;have hp:p<M.length:=(by omega);have ht:top<M.length:=(by omega);have hw:=mK (yt (col:=col) hM ht hp) col M.length (by rw[fK];exact ht);have hlen:(bG (iK M top col p) top col M.length).length=M.length:=(by rw[dZ,fK]);have hG:=fun k (hk:k<M.length) j=>Aa (col:=col) hM ht hp hk j;have hpc:=hM.lt p col;have vp:=gP (hM.get hp).2
   have vtop:vO ((bG (iK M top col p) top col M.length).getD top [])=jK (fi (gt M p col)) (vO (M.getD p [])) vz:=funext fun j=>by
    have:=hG top ht j;rw[if_pos rfl] at this;unfold jK vz;rw[Nat.zero_xor];exact this
   have vk:∀k,k<M.length→k≠top→vO ((bG (iK M top col p) top col M.length).getD k [])=jK (gt M (sg top p k) col) (vO ((bG (iK M top col p) top col M.length).getD top [])) (vO (M.getD (sg top p k) [])):=fun k hk hne=>by
    rw[vtop];funext j;have:=hG k hk j;rw[if_neg hne] at this;unfold jK vz;rw[Nat.zero_xor];exact this
   generalize bG (iK M top col p) top col M.length=N at*
   have stop:Spn (M.map vO) (vO (N.getD top [])):=by
    rw[vtop];exact Spn.ax hM.vb (vg _) (hM.spn hp) .zero
   intro v;constructor
   ·refine lS hM hw fun k hk=> ?_
    have ht':top<N.length:=(by rw[hlen];exact ht);by_cases hkp:k=p
    ·subst hkp
     have:vO (M.getD k [])=jK (gt M k col) (vO (N.getD top [])) vz:=by
      rw[vtop];funext j;unfold jK vz;rw[Nat.zero_xor,Nat.zero_xor,←jb _ _ _ hpc (vg _) (vp j),vh p3 hpc,iQ _ (vp j)]
     rw[this];exact Spn.ax hw.vb hpc (hw.spn ht') .zero
    ·have hs:sg top p k<M.length:=uD ht hp hk
     have hst:sg top p k≠top:=(by unfold sg;split;omega;first | assumption | (rw[if_neg hkp];assumption));have e:=vk _ hs hst;rw[Jc] at e;have:vO (M.getD k [])=jK (gt M k col) (vO (N.getD top [])) (vO (N.getD (sg top p k) [])):=(by rw[e,JR]);rw[this];exact Spn.ax hw.vb (hM.lt k col) (hw.spn ht') (hw.spn (by rw[hlen];exact hs))
   ·refine lS hw hM fun k hk=> ?_
    rw[hlen] at hk;by_cases hkt:k=top
    ·subst hkt;exact stop
    ·rw[vk k hk hkt]
     exact Spn.ax hM.vb (hM.lt _ _) stop (hM.spn (uD ht hp hk))
theorem qK{n:Nat}{M:List (List Nat)}(hM:Wf n M)(col:Nat):SpEq M (bI M col).1:=by
 induction col with
 | zero=>exact SpEq.refl M
 | succ col ih=>
   obtain⟨ls,hi⟩:=ic hM col;exact ih.trans (Gc hi.wf _ _)
structure Red (n:Nat) (R:List (List Nat)) (ls:List Nat):Prop where
 wf:Wf n R
 red:RedV (R.map vO) ls
 lt:∀l∈ls,l<n
theorem Inv.red{n:Nat}{M:List (List Nat)}{top:Nat}{ls:List Nat}(h:Inv n M n top ls):Red n (M.take top) ls∧SpEq M (M.take top):=by
 have hle:=h.le;have hT:∀i,i<top→(M.take top).getD i []=M.getD i []:=fun i hi=>by simp[hi]
 have hwf:Wf n (M.take top):=fun r hr=>h.wf r (List.mem_of_mem_take hr);have hlen:(M.take top).length=top:=by rw[aI];omega
 have hrow:∀(i:Nat) r,((M.take top).map vO)[i]? =some r→i<top∧r=vO (M.getD i []):=fun i r hr=>by
  rw[List.getElem?_map] at hr;rcases Nat.lt_or_ge i top with hi | hi
  ·rw[List.getElem?_take,if_pos hi,ag (by omega)] at hr
   refine⟨hi,?_⟩;rw[af,ag (by omega)];simpa using hr.symm
  ·rw[List.getElem?_eq_none (by omega)] at hr;simp at hr
 refine⟨⟨hwf,⟨by rw[aG,hlen,h.cnt],h.up,?_,?_,?_,hwf.vb⟩,h.lt⟩,fun v=>⟨lS h.wf hwf fun i hi=> ?_,fun hv=>hv.sub fun r hr=> ?_⟩⟩
 ·intro i r l hr hl
  obtain⟨hi,rfl⟩:=hrow i r hr;have:=h.piv i l hl i (by omega);rw[if_pos rfl] at this;exact this
 ·intro i k r l hr hl hne
  obtain⟨hk,rfl⟩:=hrow k r hr;have:=h.piv i l hl k (by omega);rw[if_neg hne] at this;exact this
 ·intro i r l hr hl j hj
  obtain⟨hi,rfl⟩:=hrow i r hr;exact h.low i l hl j hj
 ·rcases Nat.lt_or_ge i top with h1 | h1
  ·rw[←hT i h1];exact hwf.spn (by omega)
  ·rw[D8 (h.wf.get hi).1 (h.rest i h1)];exact .zero
 ·obtain⟨x,hx,rfl⟩:=List.mem_map.1 hr
  exact List.mem_map_of_mem (List.mem_of_mem_take hx)
theorem kU{n:Nat}{M:List (List Nat)}(h:Wf n M)(h0:M≠[]):wid M=n:=by
 unfold wid;exact(h.get (by cases M with | nil=>exact absurd rfl h0 | cons a l=>simp)).1
theorem eU{n:Nat}{M:List (List Nat)}(h:Wf n M):∃ls,Red n (dh M) ls∧SpEq M (dh M):=by
 by_cases h0:M=[]
 ·subst h0
  exact⟨[],⟨by intro r hr;simp[dh,bI,wid] at hr,⟨rfl,.nil,by simp,by simp,by simp,by simp[dh,bI,wid]⟩,by simp⟩,SpEq.refl _⟩
 ·have hw:=kU h h0
  obtain⟨ls,hi⟩:=ic h n;have:=hi.red;unfold dh;rw[hw];exact⟨ls,this.1,(qK h n).trans this.2⟩
theorem Cf{n:Nat}{A B:List (List Nat)}(hA:Wf n A)(hB:Wf n B)(h:A.map vO=B.map vO):A=B:=by
 have hl:A.length=B.length:=by simpa using congrArg List.length h
 refine List.ext_getElem hl fun i h1 h2=> ?_;have e:(A.map vO)[i]? =(B.map vO)[i]? :=by rw[h]
 simp only[List.getElem?_map,ag h1,ag h2,Option.map_some,Option.some.injEq] at e;exact yp (hA _ (aU h1)).1 (hB _ (aU h2)).1 e
theorem Red.spn{n:Nat}{R:List (List Nat)}{ls:List Nat}(h:Red n R ls){r:Nat→Nat}(hr:r∈R.map vO):Spn (R.map vO) r:=Spn.mem h.wf.vb hr
theorem Red.unique{n:Nat}{A B:List (List Nat)}{ls ms:List Nat}(hA:Red n A ls)(hB:Red n B ms)(h:SpEq A B):A=B:=
 Cf hA.wf hB.wf (hA.red.unique hB.red (fun r hr=>(h r).1 (hA.spn hr)) (fun r hr=>(h r).2 (hB.spn hr)))
theorem Lp{n:Nat}{A B:List (List Nat)}(hA:Wf n A)(hB:Wf n B)(h:SpEq A B):dh A=dh B:=by
 obtain⟨ls,h1,h2⟩:=eU hA;obtain⟨ms,h3,h4⟩:=eU hB;exact h1.unique h3 ((h2.symm.trans h).trans h4)
theorem D9{n:Nat}{A B:List (List Nat)}(hA:Wf n A)(hB:Wf n B)(h:∀v,Spn (A.map vO) v→Spn (B.map vO) v):(dh A).length≤(dh B).length:=by
 obtain⟨ls,h1,h2⟩:=eU hA;obtain⟨ms,h3,h4⟩:=eU hB;have:=h1.red.le h3.red fun r hr=>(h4 r).1 (h r ((h2 r).2 (h1.spn hr)));simpa using this
theorem uE{n:Nat}{A B:List (List Nat)}(hA:Wf n A)(hB:Wf n B)(h:∀v,Spn (A.map vO) v→Spn (B.map vO) v)(hc:(dh B).length≤(dh A).length):SpEq A B:=by
 obtain⟨ls,h1,h2⟩:=eU hA;obtain⟨ms,h3,h4⟩:=eU hB;refine fun v=>⟨h v,fun hv=>(h2 v).2 (h1.red.whole h3.red (fun r hr=>(h4 r).1 (h r ((h2 r).2 (h1.spn hr)))) (by simpa using hc) ((h4 v).1 hv))⟩
theorem Mm{n:Nat}{ls:List Nat}(h:ls.Pairwise (·< ·))(hn:∀l∈ls,l<n):ls.length≤n:=by
 have:=(qc h).length_le_of_subset (l₂:=List.range n) fun l hl=>List.mem_range.2 (hn l hl);simpa using this
theorem lT{n:Nat}{M:List (List Nat)}(h:Wf n M):(dh M).length≤n∧(dh M).length≤M.length:=by
 obtain⟨ls,h1,_⟩:=eU h;have e:=h1.red.len;rw[aG] at e;refine⟨by rw[e];exact Mm h1.red.up h1.lt,?_⟩;unfold dh;rw[aI,ig];omega
theorem C8(x n:Int)(hn:0<n):(if x.tmod n<0 then x.tmod n+n else x.tmod n)=x%n:=by
 rw[Int.tmod_eq_emod];have h1:=Int.emod_nonneg x (Int.ne_of_gt hn);have h2:=Int.emod_lt_of_pos x hn;split <;> split <;> omega
theorem gW(x n:Int)(w:World)(hx: -9223372036854775808≤x∧x≤9223372036854775807)(hn:0<n)(hm:n≤9223372036854775807):
 Calls prog 14 #[.int .i64 x,.int .i64 n] w fun e w'=>e=.returned (.int .i64 (x%n))∧w=w':=by
 have hw:=ae (C8 x n hn)
 have h3: -n<x.tmod n∧x.tmod n<n:=by
  rw[Int.tmod_eq_emod];have h1:=Int.emod_nonneg x (Int.ne_of_gt hn);have h2:=Int.emod_lt_of_pos x hn;split <;> omega
 go_enter func14,ntmps14;go_wp2
 all_goals
  go_ret;exact⟨congrArg (fun z=>Ending.returned (.int .i64 z)) (by have:=hw.out;split at this <;> omega),rfl⟩
theorem LR(xs ys:List Int)(a b:Option Addr)(n m c d:Nat)(w:World)(hx:Rd w w.heap.size a n (xs.map (Value.int .u8)))(hy:Rd w w.heap.size b m (ys.map (Value.int .u8)))(hn:n≤maxLen)(hm:m≤maxLen):
 Calls prog 18 #[.slice a n c,.slice b m d] w fun e w'=>e=.returned (.bool (decide (xs=ys)))∧∃j,w'=w.drewN j:=by
 unfold maxLen at hn hm;have hlx:xs.length=n:=by simpa using hx.1
 have hly:ys.length=m:=by simpa using hy.1
 by_cases hne:n=m
 ·subst hne
  have HX:=ae hlx;have HY:=ae hly;have RX:=ae hx;have RY:=ae hy;clear hlx hly hx hy;have hnn:((n:Int) != (n:Int))=false:=(by simp);go_enter func18,ntmps18;go_wp2_with fail;go_loopw [5,13] (fun _ i wr=>∃k:Nat,k≤n∧i=.int .i64 k∧(∀t,t<k→xs[t]? =ys[t]?)∧∃j,wr=w.drewN j) (fun _ i _=>n-(intOf i).toNat)
  case atStart=>exact⟨0,Nat.zero_le _,rfl,fun t ht=>absurd ht (Nat.not_lt_zero _),0,rfl⟩
  case round=>
   obtain⟨k,hk,rfl,halike,j,rfl⟩:=hrel;have HA:=ae halike;clear halike;by_cases hlt:k<n
   ·obtain⟨bx,ox,rfl,_,hcx⟩:=RX.out.2 (by omega)
    obtain⟨by',oy,rfl,_,hcy⟩:=RY.out.2 (by omega);have hkx:k<xs.length:=(by rw[HX.out];exact hlt);have hky:k<ys.length:=(by rw[HY.out];exact hlt);have cx:=hcx k (.int .u8 xs[k]) (by simp[hkx]);have cy:=hcy k (.int .u8 ys[k]) (by simp[hky]);have gx:xs[k]? =some xs[k]:=ag hkx;have gy:ys[k]? =some ys[k]:=ag hky;generalize xs[k]=x at*;generalize ys[k]=y at*;have GX:=ae gx;have GY:=ae gy;clear hkx hky hcx hcy gx gy;go_wp2_with fail
    go_quiet (fail)
    by_cases hxy:x=y
    ·subst hxy
     go_wp2_with fail;go_roundw
     case rel=>exact⟨k+1,by omega,by go_num,fun t ht=>by rcases Nat.lt_or_ge t k with h | h;exact HA.out t h;rw[show t=k by omega,GX.out,GY.out],by first | exact⟨_,rfl⟩ | exact⟨_,World.drewN_drewN _ _ _⟩⟩
     case measure=>simp[intOf];omega
    ·have hxy':(x != y)=true:=by simpa using hxy
     have hd:decide (xs=ys)=false:=decide_eq_false (fun e=>hxy (by have h1:=GX.out;rw[e,GY.out] at h1;exact(Option.some.inj h1).symm));have HD:=ae hd;clear hd;go_wp2_with fail;go_ret;exact⟨by rw[HD.out];rfl,by first | exact⟨_,rfl⟩ | exact⟨_,World.drewN_drewN _ _ _⟩⟩
   ·have hd:decide (xs=ys)=true:=decide_eq_true (List.ext_getElem? fun t=>by
     rcases Nat.lt_or_ge t k with h | h
     ·exact HA.out t h
     ·rw[List.getElem?_eq_none (by rw[HX.out];omega),List.getElem?_eq_none (by rw[HY.out];omega)])
    have HD:=ae hd;clear hd;go_wp2_with fail;go_ret;exact⟨by rw[HD.out];rfl,by first | exact⟨_,rfl⟩ | exact⟨_,World.drewN_drewN _ _ _⟩⟩
 ·have hd:decide (xs=ys)=false:=decide_eq_false (fun e=>hne (by rw[←hlx,←hly,e]))
  have HD:=ae hd;have hnn:((n:Int) != (m:Int))=true:=(by simpa using fun e=>hne (by omega));clear hd hlx hly hx hy;go_enter func18,ntmps18;go_wp2_with fail;go_ret;exact⟨by rw[HD.out];rfl,0,rfl⟩
def ba(l:List Nat):List Value:=l.map fun x:Nat=>Value.int .u8 x
def bn(l:List Nat):Array Value:=(ba l).toArray
theorem bg(l:List Nat):(ba l).length=l.length:=aG _
theorem gQ(l:List Nat):∀u∈ba l,u.oneCell'=true:=by
 intro u hu;obtain⟨x,_,rfl⟩:=List.mem_map.1 hu;rfl
theorem dz{l:List Nat}{i:Nat}(h:i<l.length):(ba l)[i]? =some (.int .u8 (l.getD i 0:Nat)):=by
 simp[ba,List.getElem?_map,ag h]
theorem jy(l:List Nat):(bn l).size=l.length:=by simp[bn,ba]
theorem vq{l:List Nat}{i:Nat}(h:i<l.length):(bn l)[i]? =some (.int .u8 (l.getD i 0:Nat)):=by
 simp only[bn,List.getElem?_toArray];exact dz h
theorem iq(l:List Nat)(i x:Nat):(bn l).setIfInBounds i (.int .u8 (x:Nat))=bn (l.set i x):=by
 apply Array.ext';rw[Array.toList_setIfInBounds];simp[bn,ba]
def By(l:List Nat):Prop:=∀x∈l,x<256
theorem AO(l:List Nat):ba l=(l.map fun x:Nat=>(x:Int)).map (Value.int .u8):=by simp[ba]
def iw(R:List Nat)(k:Nat):List Nat:=R.take k++List.replicate (R.length-k) 0
theorem xo{R:List Nat}{k:Nat}(h:k≤R.length):(iw R k).length=R.length:=by simp[iw];omega
theorem vu(R:List Nat):iw R 0=List.replicate R.length 0:=by simp[iw]
theorem vw(R:List Nat):iw R R.length=R:=by simp[iw]
theorem xp{R:List Nat}{k:Nat}(h:k<R.length):(iw R k).set k (R.getD k 0)=iw R (k+1):=by
 unfold iw;rw[aP h,show R.length-k=(R.length-(k+1))+1 by omega,List.replicate_succ,List.set_append_right _ _ (by rw[aI];omega)];rw[aI,Nat.min_eq_left (by omega),Nat.sub_self,List.set_cons_zero,List.append_assoc,List.singleton_append,af,ag h];rfl
theorem xq{R:List Nat}{k:Nat}(h:k<R.length):(iw R k).getD k 0=0:=by
 unfold iw;rw[af,List.getElem?_append_right (by rw[aI];omega),aI,Nat.min_eq_left (by omega),Nat.sub_self,List.getElem?_replicate,if_pos (by omega)];rfl
theorem GK(n:Nat):madeCells #[Value.int .u8 0] n=bn (List.replicate n 0):=by
 apply Array.ext (by rw[size_madeCells,jy,aN]);intro i h1 h2;simp[madeCells,bn,ba,Nat.mod_one]
def OwnB(w:World)(C:Nat)(v:Value)(l:List Nat):Prop:=w.ownsRow C 5 1 v l.length (ba l)
theorem OwnB.nil(w:World)(C:Nat):OwnB w C (.slice none 0 0) []:=World.ownsRow_nil _ _ _ _
theorem OwnB.base{w:World}{C C':Nat}{v:Value}{l:List Nat}(h:OwnB w C v l)(hC:C'≤C):OwnB w C' v l:=kI h hC
theorem OwnB.below{w w':World}{C:Nat}{v:Value}{l:List Nat}(h:OwnB w C v l)(hb:Below w.heap.size w w'):OwnB w' C v l:=eZ h hb
theorem OwnB.drewN{w:World}{C:Nat}{v:Value}{l:List Nat}(h:OwnB w C v l)(j:Nat):OwnB (w.drewN j) C v l:=h
theorem OwnB.rd{w:World}{C:Nat}{v:Value}{l:List Nat}(h:OwnB w C v l):∃a c,v=.slice a l.length c∧Rd w w.heap.size a l.length (ba l):=mE h
theorem lf{w:World}{g C:Nat}{l:List Nat}(h:Blk w g 5 (bn l))(hC:C≤g)(hl:l.length≤1000000):OwnB w C (.slice (some ⟨g,0,none⟩) l.length l.length) l:=
 ⟨by rw[bg];omega,.inr ⟨g,l.length,bn l,rfl,hC,h,ah _,by unfold maxLen;omega,by rw[jy];omega,by rw[Nat.mul_one];exact aO (by rw[Array.length_toList,jy];exact ah _)⟩⟩
theorem Rd.atB{w:World}{B:Nat}{a:Option Addr}{n:Nat}{l:List Nat}(h:Rd w B a n (ba l)){k:Nat}(hk:k<n):∃b o,a=some ⟨b,o,none⟩∧b<B∧∀j,j<n→w.cell? ⟨b,o+j,none⟩=some (.int .u8 (l.getD j 0:Nat)):=by
 obtain⟨b,o,rfl,hb,hc⟩:=h.2 (by omega);have hl:=h.len;rw[bg] at hl;exact⟨b,o,rfl,hb,fun j hj=>hc j _ (dz (by omega))⟩
theorem iy:(prog.info? 5).map (fun i=>(i.zero,i.size,i.bytes))=some (some (.int .u8 0),1,1):=by kernel_rfl
theorem cQ{n:Nat}(hn:n≤1000000)(w:World):(Instr.makeSlice 23 (.int .i64 (n:Int)) (.int .i64 (n:Int))).run prog w=.ok (.slice (some ⟨w.heap.size,0,none⟩) n n) (w.alloc (.cells (bn (List.replicate n 0)) 5)):=by
 obtain⟨i0,hi,hz0,hz1,hz2⟩:=info_parts iy;have h:=run_make (P:=prog) w 23 5 i0 (.int .u8 0) underlying23 hi hz0 .i64 .i64 (n:Int) (n:Int) (by omega) (by omega) (by rw[hz2];omega) (by omega);rw[hz1,Nat.mul_one,Int.toNat_natCast] at h;rw[←GK];exact h
theorem J4(p:Option Addr)(w:World)(hF:Fp w p):
 Calls prog 209 #[.pointer p] w fun e w'=>∃g,e=.returned (.pointer (some ⟨g,0,none⟩))∧Fld w' g∧Below w.heap.size w w':=by
 rcases hF with rfl | ⟨g,rfl,hF⟩
 ·go_enter func209,ntmps209
  go_wp2_with fail;refine(ou _).mono ?_;rintro e w1 ⟨g,rfl,hg,hF,hb⟩;go_wp2_with fail;go_ret;exact⟨g,rfl,hF,hb⟩
 ·go_enter func209,ntmps209
  go_wp2_with fail;go_ret;exact⟨g,rfl,hF,az _ _⟩
theorem GM(p:Option Addr)(c:Nat)(xs:List Nat)(a:Option Addr)(n d:Nat)(w:World)(hF:Fp w p)(hc:c<256)(hx:Rd w w.heap.size a n (ba xs))(hbx:By xs)(hn:n≤1000000):
 Calls prog 128 #[.pointer p,.int .u8 c,.slice a n d] w fun e w'=>∃v,e=.returned v∧OwnB w' w.heap.size v (jH c xs)∧Below w.heap.size w w':=by
 have lx:=hx.len;rw[bg] at lx;have hRl:(jH c xs).length=n:=by rw[jH,aG];exact lx
 have HRG:Hid (∀k,(jH c xs).getD k 0=fm c (xs.getD k 0)):=ae fun k=>iO c xs k;have hmk:=cQ hn;have HX:=ae hx;have HBX:=ae hbx;have HRL:=ae hRl;clear hx hbx lx hRl;generalize jH c xs=R at*;go_enter func128,ntmps128;go_wp2_with fail;refine(J4 p _ hF).mono ?_;rintro e w1 ⟨gf,rfl,hfl,hb0⟩;have HFL:=ae hfl;have hfz:=Blk.lt hfl
 go_wp2_with (simp only[])
 have hG1:w.heap.size≤w1.heap.size:=hb0.size;have hB1:=Blk.new w1 5 (bn (List.replicate n 0));have HB:Hid (Blk (w1.alloc (.cells (bn (List.replicate n 0)) 5)) w1.heap.size 5 (bn (iw R 0))):=ae (by rw[vu,HRL.out];exact hB1);have HBL:=ae (hb0.alloc hG1 (.cells (bn (List.replicate n 0)) 5));have HF2:=ae (HFL.out.below ((az w1.heap.size w1).alloc (ah _) (.cells (bn (List.replicate n 0)) 5)) hfz);clear hB1 hmk hfl HFL hb0;generalize w1.alloc (.cells (bn (List.replicate n 0)) 5)=w2 at*;generalize hG:w.heap.size=G at*;have HG:=ae hG;clear hG;generalize w1.heap.size=g at*;go_loopw [8,9,17] (fun _ _ i wr=>∃k:Nat,k≤n∧i=.int .i64 k∧Hid (Blk wr g 5 (bn (iw R k)))∧Hid (Fld wr gf)∧Hid (Below G w wr)) (fun _ _ i _=>n-(intOf i).toNat)
 case atStart=>exact⟨0,by omega,rfl,HB,HF2,HBL⟩
 case round=>
  clear HB HBL HF2;obtain⟨k,hk,rfl,HB,HF2,HBL⟩:=hrel;by_cases hlt:k<n
  ·obtain⟨bx,ox,rfl,hbx,hcx⟩:=HX.out.atB hlt
   have cx:=(HBL.out.cell (p:=⟨bx,ox+k,none⟩) (by have:=HG.out;omega)).trans (hcx k hlt);have hx1:=getD_lt HBX.out k;have hrg:=HRG.out k;have hkR:k<R.length:=(by rw[HRL.out];exact hlt);have hset:=HB.out.set k (.int .u8 (R.getD k 0:Nat));rw[iq,xp hkR] at hset;have co:=(HB.out.cell k).trans (vq (by rw[xo (by omega)];exact hkR));rw[xq hkR] at co;have fo:=HB.out.frozen k;rw[hrg] at hset;generalize xs.getD k 0=x at*;have CM:=ae (uu gf c x hc hx1 wr HF2.out);have HS:=ae hset;clear hset hrg hcx;generalize fm c x=z at*;have hlt':(k:Int)<(n:Int):=(by omega);go_wp2_with fail;refine CM.out.mono ?_;rintro e w3 ⟨rfl,j,rfl⟩;have co2:(wr.drewN j).cell? ⟨g,k,none⟩=some (.int .u8 0):=co;have fo2:(wr.drewN j).frozen? ⟨g,k,none⟩=false:=fo;have HS2:Hid (Blk ((wr.drewN j).setCell ⟨g,k,none⟩ (.int .u8 (z:Nat))) g 5 (bn (iw R (k+1)))):=ae HS.out;have HB2:Hid (Below G w ((wr.drewN j).setCell ⟨g,k,none⟩ (.int .u8 (z:Nat)))):=ae ((below_drewN HBL.out j).setCell hG1 _);have HF3:Hid (Fld ((wr.drewN j).setCell ⟨g,k,none⟩ (.int .u8 (z:Nat))) gf):=ae (Blk.far (w:=wr.drewN j) HF2.out (by simp;omega) _);clear HS HBL HB cx co fo CM HF2;generalize wr.drewN j=w4 at*;go_wp2_with fail;go_roundw
   case rel=>(try((repeat apply Exists.intro);refine⟨?_,rfl⟩));exact⟨k+1,by omega,by go_num,HS2,HF3,HB2⟩
   case measure=>simp[intOf];omega
  ·obtain rfl:k=n:=by omega
   have hf:iw R k=R:=(by rw[←HRL.out];exact vw R);rw[hf] at HB;have ho:=lf HB.out (C:=G) hG1 (by rw[HRL.out];exact hn);rw[HRL.out] at ho;have HO:=ae ho;clear ho hf HB;go_wp2_with fail;go_ret;exact⟨_,rfl,by rw[HG.out];exact HO.out,by rw[HG.out];exact HBL.out⟩
theorem By.sc(c:Nat)(xs:List Nat):By (jH c xs):=by
 intro x hx;obtain⟨y,_,rfl⟩:=List.mem_map.1 hx;exact fU _ _
theorem lh(c:Nat)(xs:List Nat):(jH c xs).length=xs.length:=aG _
def jI(r:List Nat):Nat:=r.findIdx (·!= 0)
def iE(r:List Nat):Int:=if jI r<r.length then (jI r:Int) else-1
theorem uI{r:List Nat}{j:Nat}(h1:r.getD j 0≠0)(h2:∀i,i<j→r.getD i 0=0):jI r=j∧j<r.length:=by
 have hj:j<r.length:=by
  rcases Nat.lt_or_ge j r.length with h | h
  ·exact h
  ·exact absurd (by rw[af,List.getElem?_eq_none h];rfl) h1
 refine⟨?_,hj⟩;unfold jI;rw[List.findIdx_eq hj];refine⟨?_,fun i hi=> ?_⟩
 ·rw[af,ag hj] at h1
  simpa using h1
 ·have:=h2 i hi
  rw[af,ag (by omega)] at this;simpa using this
theorem Aj{r:List Nat}(h:jI r<r.length):r.getD (jI r) 0≠0∧∀i,i<jI r→r.getD i 0=0:=by
 constructor
 ·rw[af,ag h]
  have:=List.findIdx_getElem (p:=fun x:Nat=>x != 0) (xs:=r) (w:=h);exact bne_iff_ne.1 this
 ·intro i hi
  have hi2:i<r.length:=(by omega);have:=List.not_of_lt_findIdx (p:=fun x:Nat=>x != 0) (xs:=r) hi;rw[af,ag hi2];simpa using this
theorem Cm{r:List Nat}(h:¬jI r<r.length)(i:Nat):r.getD i 0=0:=by
 rcases Nat.lt_or_ge i r.length with hi | hi
 ·have:=List.not_of_lt_findIdx (p:=fun x:Nat=>x != 0) (xs:=r) (i:=i) (by unfold jI at h;omega)
  rw[af,ag hi];simpa using this
 ·rw[af,List.getElem?_eq_none hi];rfl
theorem xb{r:List Nat}:iE r<0↔vO r=vz:=by
 unfold iE;constructor
 ·intro h
  split at h
  ·omega
  ·rename_i hn;exact funext fun j=>Cm hn j
 ·intro h
  split
  ·rename_i hl;exact absurd (congrFun h _) (Aj hl).1
  ·omega
def kM:List (List Nat)→List Nat→List Nat
 | [],v=>v
 | x :: R,v=>kM R (kx (v.getD (jI x) 0) x v)
theorem restR_wf{n:Nat}:∀ {R:List (List Nat)} {v:List Nat},Wf n R→v.length=n→(∀x∈v,x<256)→(kM R v).length=n∧∀x∈kM R v,x<256:=by
 intro R
 induction R with
 | nil=>intro v _ h1 h2;exact⟨h1,h2⟩
 | cons x R ih=>
   intro v hR h1 h2;have hx:=hR x List.mem_cons_self;exact ih (fun r hr=>hR r (List.mem_cons_of_mem _ hr)) (by rw[fA (by omega)];exact h1) (pK h2)
theorem Gi{n:Nat}:∀ {R:List (List Nat)} {v:List Nat},Wf n R→v.length=n→(∀x∈v,x<256)→∃u,Spn (R.map vO) u∧vO (kM R v)=jK 1 u (vO v):=by
 intro R
 induction R with
 | nil=>
   intro v _ h1 h2;exact⟨vz,.zero,funext fun j=>by unfold jK vz;rw[bq,Nat.xor_zero];rfl⟩
 | cons x R ih=>
   intro v hR h1 h2;have hx:=hR x List.mem_cons_self;obtain⟨u,hu,e⟩:=ih (v:=kx (v.getD (jI x) 0) x v) (fun r hr=>hR r (List.mem_cons_of_mem _ hr)) (by rw[fA (by omega)];exact h1) (pK h2);refine⟨jK (v.getD (jI x) 0) (vO x) u,?_,?_⟩
   ·exact .add _ _ _ (getD_lt h2 _) List.mem_cons_self (hu.sub fun r hr=>List.mem_cons_of_mem _ hr)
   ·simp only[kM]
    rw[e,Ml (by omega)];funext j;unfold jK;rw[iQ _ (hu.vb j),iQ _ (qP (hu.vb j) (fU _ _)),Nat.xor_assoc,Nat.xor_comm (fm _ _)]
theorem Cn{n:Nat}{z:Nat}:∀ {R:List (List Nat)} {v:List Nat},Wf n R→v.length=n→(∀r∈R,r.getD z 0=0)→(kM R v).getD z 0=v.getD z 0:=by
 intro R
 induction R with
 | nil=>intro v _ _ _;rfl
 | cons x R ih=>
   intro v hR h1 h2;have hx:=hR x List.mem_cons_self;simp only[kM];rw[ih (fun r hr=>hR r (List.mem_cons_of_mem _ hr)) (by rw[fA (by omega)];exact h1) fun r hr=>h2 r (List.mem_cons_of_mem _ hr),jY (by omega),h2 x List.mem_cons_self,bq,Nat.xor_zero]
theorem Co{n:Nat}:∀ {R:List (List Nat)} {ls:List Nat} {v:List Nat},Wf n R→v.length=n→(∀x∈v,x<256)→R.length=ls.length→(∀(i k:Nat) r l,R[k]? =some r→ls[i]? =some l→r.getD l 0=if k=i then 1 else 0)→
 (∀(i:Nat) r l,R[i]? =some r→ls[i]? =some l→jI r=l)→∀l∈ls,(kM R v).getD l 0=0:=by
 intro R
 induction R with
 | nil=>intro ls v _ _ _ hl _ _ l hm;cases ls with
   | nil=>simp at hm
   | cons a b=>simp at hl
 | cons x R ih=>
   intro ls v hR h1 h2 hl h3 h4 l hm;have hx:=hR x List.mem_cons_self;cases ls with
   | nil=>simp at hl
   | cons m ls=>
     have hR':Wf n R:=fun r hr=>hR r (List.mem_cons_of_mem _ hr);have hlen:(kx (v.getD (jI x) 0) x v).length=n:=(by rw[fA (by omega)];exact h1);simp only[kM];rcases List.mem_cons.1 hm with e | e
     ·subst e
      rw[Cn hR' hlen fun r hr=>by
       obtain⟨k,hk⟩:=List.getElem?_of_mem hr;have:=h3 0 (k+1) r l (by simpa using hk) rfl;simpa using this]
      have hlead:=h4 0 x l rfl rfl;have hone:=h3 0 0 x l rfl rfl;rw[jY (by omega),hlead,hone,if_pos rfl,jN _ (getD_lt h2 _),Nat.xor_self]
     ·refine ih hR' hlen (pK h2) (by simpa using hl) (fun i k r l' hr hl'=> ?_) (fun i r l' hr hl'=>h4 (i+1) r l' (by simpa using hr) (by simpa using hl')) l e
      have:=h3 (i+1) (k+1) r l' (by simpa using hr) (by simpa using hl');simpa using this
theorem Red.lead{n:Nat}{R:List (List Nat)}{ls:List Nat}(h:Red n R ls){i l:Nat}{r:List Nat}(hr:R[i]? =some r)(hl:ls[i]? =some l):jI r=l∧l<r.length∧r.getD l 0=1:=by
 have e:(R.map vO)[i]? =some (vO r):=by rw[List.getElem?_map,hr];rfl
 have h1:r.getD l 0=1:=h.red.one i (vO r) l e hl;have h2:=uI (r:=r) (j:=l) (by rw[h1];decide) fun j hj=>h.red.low i (vO r) l e hl j hj;exact⟨h2.1,h2.2,h1⟩
theorem Red.rest_zero{n:Nat}{R:List (List Nat)}{ls:List Nat}(h:Red n R ls){v:List Nat}(hv:v.length=n)(hb:∀x∈v,x<256):∀l∈ls,(kM R v).getD l 0=0:=by
 refine Co h.wf hv hb (by have:=h.red.len;rwa [aG] at this) (fun i k r l hr hl=> ?_) fun i r l hr hl=>(h.lead hr hl).1;have e:(R.map vO)[k]? =some (vO r):=by rw[List.getElem?_map,hr];rfl
 split
 ·rename_i hk;subst hk;exact h.red.one k (vO r) l e hl
 ·rename_i hk;exact h.red.zero i k (vO r) l e hl hk
theorem Red.rest_spn{n:Nat}{R:List (List Nat)}{ls:List Nat}(h:Red n R ls){v:List Nat}(hv:v.length=n)(hb:∀x∈v,x<256):vO (kM R v)=vz↔Spn (R.map vO) (vO v):=by
 obtain⟨u,hu,e⟩:=Gi h.wf hv hb;constructor
 ·intro h0
  have:vO v=u:=by
   rw[e] at h0;funext j;have:=congrFun h0 j;unfold jK vz at this;rw[iQ _ (hu.vb j)] at this;exact qf this
  rw[this];exact hu
 ·intro hs
  have h2:Spn (R.map vO) (vO (kM R v)):=(by rw[e];exact Spn.ax h.wf.vb (by decide) hu hs);exact h.red.eq_zero h2 (h.rest_zero hv hb)
theorem yz{n:Nat}{A:List (List Nat)}{v:List Nat}(hA:Wf n A)(hv:v.length=n)(hb:∀x∈v,x<256):Wf n (A++[v]):=by
 intro r hr;rcases List.mem_append.1 hr with hr | hr
 ·exact hA r hr
 ·obtain rfl:r=v:=by simpa using hr
  exact⟨hv,hb⟩
theorem Lu{n:Nat}{A:List (List Nat)}{v:List Nat}(hA:Wf n A)(hv:v.length=n)(hb:∀x∈v,x<256)(h:Spn (A.map vO) (vO v)):SpEq (A++[v]) A:=by
 intro w;constructor
 ·intro hw
  refine hw.trans hA.vb fun r hr=> ?_;rw[aW] at hr;rcases List.mem_append.1 hr with hr | hr
  ·exact Spn.mem hA.vb hr
  ·obtain rfl:r=vO v:=by simpa using hr
   exact h
 ·exact fun hw=>hw.sub fun r hr=>by rw[aW];exact List.mem_append_left _ hr
theorem Jo{n:Nat}{A:List (List Nat)}{v:List Nat}(hA:Wf n A)(hv:v.length=n)(hb:∀x∈v,x<256):
 (dh A).length≤(dh (A++[v])).length∧((dh (A++[v])).length=(dh A).length↔vO (kM (dh A) v)=vz):=by
 have hAv:=yz hA hv hb;have up:∀w,Spn (A.map vO) w→Spn ((A++[v]).map vO) w:=fun w hw=>hw.sub fun r hr=>by rw[aW];exact List.mem_append_left _ hr
 obtain⟨ls,hR,hS⟩:=eU hA;refine⟨D9 hA hAv up,?_,?_⟩
 ·intro h
  have:=uE hA hAv up (by omega);rw[hR.rest_spn hv hb];exact(hS _).1 ((this _).2 (Spn.mem hAv.vb (by rw[aW];exact List.mem_append_right _ (by simp))))
 ·intro h
  rw[hR.rest_spn hv hb] at h;rw[Lp hAv hA (Lu hA hv hb ((hS _).2 h))]
end Go.Proofs.YtofgapdnadbgkaaGreatDoor
