import Derived.Test.YtofgapdnadbgkaaGreatDoorW4
set_option linter.unusedVariables false
set_option maxRecDepth 100000
set_option maxHeartbeats 400000000
namespace Go.Proofs.YtofgapdnadbgkaaGreatDoor
open Go.RowKit _root_.Go.Proofs.Tryz
theorem tF:5≠23:=by decide
structure MOwnV (w:World) (C:Nat) (v:Value) (M:List (List Nat)) (vs:List Value):Prop where
 hd:w.ownsRow C 23 1 v M.length vs
 row:∀(i:Nat) l,M[i]? =some l→∃u,vs[i]? =some u∧OwnB w C u l
 apart:∀(i j:Nat) u u',i≠j→vs[i]? =some u→vs[j]? =some u'→u.ownBlock=none∨u.ownBlock≠u'.ownBlock
def MOwn(w:World)(C:Nat)(v:Value)(M:List (List Nat)):Prop:=∃vs,MOwnV w C v M vs
theorem MOwnV.vlen{w:World}{C:Nat}{v:Value}{M:List (List Nat)}{vs:List Value}(h:MOwnV w C v M vs):vs.length=M.length:=by have:=h.hd.1;omega
theorem MOwnV.len{w:World}{C:Nat}{a:Option Addr}{n c:Nat}{M:List (List Nat)}{vs:List Value}(h:MOwnV w C (.slice a n c) M vs):M.length=n:=by
 rcases h.hd.2 with⟨h1,h2⟩ | ⟨g,cap,cur,h1,_⟩
 ·injection h1 with _ h3;omega
 ·injection h1 with _ h3;exact h3.symm
theorem MOwn.len{w:World}{C:Nat}{a:Option Addr}{n c:Nat}{M:List (List Nat)}(h:MOwn w C (.slice a n c) M):M.length=n:=by
 obtain⟨vs,h⟩:=h;exact h.len
theorem MOwnV.of{w:World}{C:Nat}{v:Value}{M:List (List Nat)}{vs:List Value}(h:MOwnV w C v M vs){i:Nat}{u:Value}(hu:vs[i]? =some u):OwnB w C u (M.getD i [])∧M[i]? =some (M.getD i []):=by
 have hi:i<M.length:=by have:=(List.getElem?_eq_some_iff.1 hu).1;rw[h.vlen] at this;exact this
 have hl:M[i]? =some (M.getD i []):=by rw[af,ag hi];rfl
 obtain⟨u',h1,h2⟩:=h.row i _ hl;rw[hu] at h1;rw[Option.some.inj h1];exact⟨h2,hl⟩
theorem MOwnV.hdrow{w:World}{C:Nat}{v:Value}{M:List (List Nat)}{vs:List Value}(h:MOwnV w C v M vs){i:Nat}{u:Value}(hu:vs[i]? =some u):u.ownBlock=none∨u.ownBlock≠v.ownBlock:=
 own_ne (h.of hu).1 h.hd tF
theorem MOwnV.form{w:World}{C:Nat}{v:Value}{M:List (List Nat)}{vs:List Value}(h:MOwnV w C v M vs)(h0:0<M.length):∃g cap,v=.slice (some ⟨g,0,none⟩) M.length cap∧C≤g∧g<w.heap.size:=h.hd.form h0
theorem MOwn.form{w:World}{C:Nat}{a:Option Addr}{n c:Nat}{M:List (List Nat)}(h:MOwn w C (.slice a n c) M)(h0:0<n):∃g,a=some ⟨g,0,none⟩∧C≤g∧g<w.heap.size:=by
 have hl:=h.len;obtain⟨vs,h⟩:=h;obtain⟨g,cap,e,h1,h2⟩:=h.form (by omega);injection e with e1;exact⟨g,e1,h1,h2⟩
theorem OwnB.lt{w:World}{C:Nat}{u:Value}{l:List Nat}(h:OwnB w C u l):∀g,u.ownBlock=some g→C≤g∧g<w.heap.size:=World.ownsRow.lt h
theorem OwnB.kept{w w':World}{C:Nat}{u:Value}{l:List Nat}{r:Option Nat}(h:OwnB w C u l)(hg:w.grownBy w' r)(hr:u.ownBlock=none∨u.ownBlock≠r):OwnB w' C u l:=World.ownsRow.kept h hg hr
theorem MOwn.at{w:World}{C g n c:Nat}{M:List (List Nat)}(h:MOwn w C (.slice (some ⟨g,0,none⟩) n c) M){i:Nat}(hi:i<n):
 ∃a' c',w.cell? ⟨g,i,none⟩=some (.slice a' (M.getD i []).length c')∧w.frozen? ⟨g,i,none⟩=false∧OwnB w C (.slice a' (M.getD i []).length c') (M.getD i []):=by
 have hl:=h.len;obtain⟨vs,h⟩:=h;have hiv:i<vs.length:=by rw[h.vlen,hl];exact hi
 have hu:vs[i]? =some vs[i]:=ag hiv;obtain⟨ho,_⟩:=h.of hu;have hc:w.cell? ⟨g,i,none⟩=some vs[i]:=by rw[←hu];have:=h.hd;rw[hl] at this;exact this.cellAt i (by omega)
 have hf:=by have:=h.hd;rw[hl] at this;exact this.frozenAt i
 obtain⟨a',c',e,_⟩:=ho.rd;rw[e] at hc ho;exact⟨a',c',hc,hf,ho⟩
theorem MOwnV.new{w w':World}{C:Nat}{v:Value}{M:List (List Nat)}{vs:List Value}(h:MOwnV w C v M vs)(hb:Below w.heap.size w w'):MOwnV w' C v M vs:=
 ⟨eZ h.hd hb,fun i l hl=>by obtain⟨u,h1,h2⟩:=h.row i l hl;exact⟨u,h1,h2.below hb⟩,h.apart⟩
theorem MOwn.new{w w':World}{C:Nat}{v:Value}{M:List (List Nat)}(h:MOwn w C v M)(hb:Below w.heap.size w w'):MOwn w' C v M:=by
 obtain⟨vs,h⟩:=h;exact⟨vs,h.new hb⟩
theorem MOwn.drewN{w:World}{C:Nat}{v:Value}{M:List (List Nat)}(h:MOwn w C v M)(j:Nat):MOwn (w.drewN j) C v M:=h.new (below_drewN (az _ _) j)
theorem MOwn.base{w:World}{C C':Nat}{v:Value}{M:List (List Nat)}(h:MOwn w C v M)(hC:C'≤C):MOwn w C' v M:=by
 obtain⟨vs,h⟩:=h;exact⟨vs,kI h.hd hC,fun i l hl=>by obtain⟨u,h1,h2⟩:=h.row i l hl;exact⟨u,h1,h2.base hC⟩,h.apart⟩
theorem MOwn.nil(w:World)(C:Nat):MOwn w C (.slice none 0 0) []:=⟨[],World.ownsRow_nil _ _ _ _,by simp,by simp⟩
theorem ib{α:Type}{l:List α}{i k:Nat}{x y:α}(h:(l.set i x)[k]? =some y):(k=i∧y=x∧i<l.length)∨(k≠i∧l[k]? =some y):=by
 rw[List.getElem?_set] at h;by_cases e:i=k
 ·subst e
  rw[if_pos rfl] at h;split at h
  ·rename_i h2;exact .inl ⟨rfl,(Option.some.inj h).symm,h2⟩
  ·cases h
 ·rw[if_neg e] at h
  exact .inr ⟨fun h2=>e h2.symm,h⟩
theorem zh{α:Type}{l:List α}{i:Nat}{x:α}(h:i<l.length):(l.set i x)[i]? =some x:=by rw[List.getElem?_set,if_pos rfl,if_pos h]
theorem DI{α:Type}{l:List α}{i k:Nat}{x:α}(h:k≠i):(l.set i x)[k]? =l[k]? :=by rw[List.getElem?_set,if_neg (fun e=>h e.symm)]
theorem MOwn.swap{w:World}{C g n c:Nat}{M:List (List Nat)}(h:MOwn w C (.slice (some ⟨g,0,none⟩) n c) M){i j:Nat}(hi:i<n)(hj:j<n){ui uj:Value}(hci:w.cell? ⟨g,i,none⟩=some ui)(hcj:w.cell? ⟨g,j,none⟩=some uj):
 MOwn ((w.setCell ⟨g,i,none⟩ uj).setCell ⟨g,j,none⟩ ui) C (.slice (some ⟨g,0,none⟩) n c) (swp M i j):=by
 have hl:=h.len;obtain⟨vs,h⟩:=h;have hv:=h.vlen;have hd:=h.hd;rw[hl] at hd;have hui:vs[i]? =some ui:=by rw[←hd.cellAt i (by omega)];exact hci
 have huj:vs[j]? =some uj:=by rw[←hd.cellAt j (by omega)];exact hcj
 obtain⟨d1,g1⟩:=hd.stored i uj;obtain⟨d2,g2⟩:=d1.stored j ui;have hrow:∀(k:Nat) u,vs[k]? =some u→u.ownBlock=none∨u.ownBlock≠some g:=fun k u hu=>by have:=h.hdrow hu;simpa[Value.ownBlock] using this
 have hkeep:∀(k:Nat) u,vs[k]? =some u→OwnB ((w.setCell ⟨g,i,none⟩ uj).setCell ⟨g,j,none⟩ ui) C u (M.getD k []):=fun k u hu=>((h.of hu).1.kept g1 (hrow k u hu)).kept g2 (hrow k u hu)
 have hsg:∀(k:Nat) u,((vs.set i uj).set j ui)[k]? =some u→vs[sg i j k]? =some u:=by
  intro k u hu;unfold sg;rcases ib hu with⟨rfl,rfl,_⟩ | ⟨h1,h2⟩
  ·by_cases e:k=i
   ·rw[if_pos e];subst e;rw[hui] at huj;rw[←hui]
   ·rw[if_neg e,if_pos rfl];exact hui
  ·rcases ib h2 with⟨rfl,rfl,_⟩ | ⟨h3,h4⟩
   ·rw[if_pos rfl];exact huj
   ·rw[if_neg h3,if_neg h1];exact h4
 have hln:(swp M i j).length=n:=by rw[gH];exact hl
 refine⟨(vs.set i uj).set j ui,by rw[hln];exact d2,fun k l hk=> ?_,fun k k' u u' hne hu hu'=> ?_⟩
 ·have hkn:k<n:=by have:=(List.getElem?_eq_some_iff.1 hk).1;omega
  have hs:sg i j k<n:=uD hi hj hkn;obtain⟨u,hu⟩:∃u,((vs.set i uj).set j ui)[k]? =some u:=⟨_,ag (by simp;omega)⟩;refine⟨u,hu,?_⟩;have:=hkeep _ u (hsg k u hu);rw[←kT (by omega) (by omega) k] at this;rw[af,hk] at this;exact this
 ·refine h.apart _ _ u u' (fun e=>hne ?_) (hsg k u hu) (hsg k' u' hu')
  have:=congrArg (sg i j) e
  rwa [Jc,Jc] at this
theorem MOwn.put{w0 w:World}{C g n c:Nat}{M:List (List Nat)}(h:MOwn w0 C (.slice (some ⟨g,0,none⟩) n c) M)(hb:Below w0.heap.size w0 w){i:Nat}(hi:i<n){u:Value}{l:List Nat}(ho:OwnB w w0.heap.size u l)(hC:C≤w0.heap.size):
 MOwn (w.setCell ⟨g,i,none⟩ u) C (.slice (some ⟨g,0,none⟩) n c) (M.set i l):=by
 have hl:=h.len;obtain⟨vs,h⟩:=h;have hv:=h.vlen;have hlt0:∀(k:Nat) u',vs[k]? =some u'→∀b,u'.ownBlock=some b→b<w0.heap.size:=fun k u' hu b hb=>((h.of hu).1.lt b hb).2;replace h:=h.new hb;have hd:=h.hd;rw[hl] at hd;obtain⟨d1,g1⟩:=hd.stored i u;have hgw:u.ownBlock=none∨u.ownBlock≠some g:=by have:=own_ne ho hd tF;simpa[Value.ownBlock] using this
 have hrow:∀(k:Nat) u,vs[k]? =some u→u.ownBlock=none∨u.ownBlock≠some g:=fun k u hu=>by have:=h.hdrow hu;simpa[Value.ownBlock] using this
 refine⟨vs.set i u,by rw[List.length_set,hl];exact d1,fun k l' hk=> ?_,fun k k' u1 u2 hne hu1 hu2=> ?_⟩
 ·rcases ib hk with⟨rfl,rfl,h3⟩ | ⟨h1,h2⟩
  ·exact⟨u,zh (by omega),(ho.base hC).kept g1 hgw⟩
  ·obtain⟨u1,h3,h4⟩:=h.row k l' h2
   exact⟨u1,by rw[DI h1];exact h3,h4.kept g1 (hrow k u1 h3)⟩
 ·rcases ib hu1 with⟨rfl,rfl,h3⟩ | ⟨h1,h2⟩
  ·rcases ib hu2 with⟨rfl,_,_⟩ | ⟨h1,h2⟩
   ·exact absurd rfl hne
   ·cases e:u1.ownBlock with
    | none=>exact .inl rfl
    | some b=>
      right;intro e2;have:=hlt0 _ _ h2 b e2.symm;have:=(ho.lt b e).1;omega
  ·rcases ib hu2 with⟨rfl,rfl,_⟩ | ⟨h3,h4⟩
   ·cases e:u1.ownBlock with
    | none=>exact .inl rfl
    | some b=>
      right;intro e2;have:=hlt0 _ _ h2 b e;have:=(ho.lt b e2.symm).1;omega
   ·exact h.apart k k' u1 u2 hne h2 h4
theorem MOwn.wrote{w w':World}{C g n c:Nat}{M:List (List Nat)}(h:MOwn w C (.slice (some ⟨g,0,none⟩) n c) M){i:Nat}(hi:i<n){u:Value}{l:List Nat}(hc:w.cell? ⟨g,i,none⟩=some u)(hg:w.grownBy w' u.ownBlock)(ho:OwnB w' C u l):
 MOwn w' C (.slice (some ⟨g,0,none⟩) n c) (M.set i l):=by
 have hl:=h.len;obtain⟨vs,h⟩:=h;have hv:=h.vlen;have hd:=h.hd;rw[hl] at hd;have hui:vs[i]? =some u:=by rw[←hd.cellAt i (by omega)];exact hc
 have hne:(Value.slice (some ⟨g,0,none⟩) n c).ownBlock=none∨(Value.slice (some ⟨g,0,none⟩) n c).ownBlock≠u.ownBlock:=by
  right;rcases h.hdrow hui with h1 | h1
  ·rw[h1];simp[Value.ownBlock]
  ·exact fun e=>h1 e.symm
 refine⟨vs,by rw[List.length_set,hl];exact hd.kept hg hne,fun k l' hk=> ?_,h.apart⟩;rcases ib hk with⟨rfl,rfl,h3⟩ | ⟨h1,h2⟩
 ·exact⟨u,hui,ho⟩
 ·obtain⟨u1,h3,h4⟩:=h.row k l' h2
  exact⟨u1,h3,h4.kept hg (h.apart k i u1 u h1 h3 hui)⟩
theorem MOwnV.snoc{w w':World}{C D:Nat}{v v':Value}{M:List (List Nat)}{vs:List Value}{u:Value}{l:List Nat}(h:MOwnV w C v M vs)(hD:∀(i:Nat) u',vs[i]? =some u'→∀b,u'.ownBlock=some b→b<D)(hC:C≤D)(ho:OwnB w D u l)
 (hown:w'.ownsRow C 23 1 v' (M.length+1) (vs++[u]))(hg:w.grownBy w' v.ownBlock):MOwnV w' C v' (M++[l]) (vs++[u]):=by
 have hv:=h.vlen;have huv:u.ownBlock=none∨u.ownBlock≠v.ownBlock:=own_ne ho h.hd tF
 have hcase:∀(k:Nat) u1,(vs++[u])[k]? =some u1→(k<vs.length∧vs[k]? =some u1)∨(k=vs.length∧u1=u):=by
  intro k u1 hk;rw[List.getElem?_append] at hk;split at hk
  ·rename_i h1;exact .inl ⟨h1,hk⟩
  ·rename_i h1
   have:k-vs.length=0:=by
    rcases Nat.eq_zero_or_pos (k-vs.length) with h2 | h2
    ·exact h2
    ·rw[List.getElem?_eq_none (by simp;omega)] at hk;cases hk
   rw[this] at hk;exact .inr ⟨by omega,(Option.some.inj hk).symm⟩
 refine⟨by rw[aJ,List.length_singleton];exact hown,fun k l' hk=> ?_,fun k k' u1 u2 hne hu1 hu2=> ?_⟩
 ·rw[List.getElem?_append] at hk
  split at hk
  ·rename_i h1
   obtain⟨u1,h3,h4⟩:=h.row k l' hk;exact⟨u1,by rw[List.getElem?_append_left (by omega)];exact h3,h4.kept hg (h.hdrow h3)⟩
  ·rename_i h1
   have:k-M.length=0:=by
    rcases Nat.eq_zero_or_pos (k-M.length) with h2 | h2
    ·exact h2
    ·rw[List.getElem?_eq_none (by simp;omega)] at hk;cases hk
   rw[this] at hk;obtain rfl:l=l':=(by simpa using hk);exact⟨u,by rw[List.getElem?_append_right (by omega),hv,this];rfl,(ho.base hC).kept hg huv⟩
 ·rcases hcase k u1 hu1 with⟨h1,h2⟩ | ⟨h1,rfl⟩
  ·rcases hcase k' u2 hu2 with⟨h3,h4⟩ | ⟨h3,rfl⟩
   ·exact h.apart k k' u1 u2 hne h2 h4
   ·cases e:u1.ownBlock with
    | none=>exact .inl rfl
    | some b=>
      right;intro e2;have:=hD _ _ h2 b e;have:=(ho.lt b e2.symm).1;omega
  ·rcases hcase k' u2 hu2 with⟨h3,h4⟩ | ⟨h3,rfl⟩
   ·cases e:u1.ownBlock with
    | none=>exact .inl rfl
    | some b=>
      right;intro e2;have:=hD _ _ h4 b e2.symm;have:=(ho.lt b e).1;omega
   ·omega
theorem MOwn.take{w:World}{C g n c:Nat}{M:List (List Nat)}(h:MOwn w C (.slice (some ⟨g,0,none⟩) n c) M){k:Nat}(hk:k≤n):MOwn w C (.slice (some ⟨g,0,none⟩) k c) (M.take k):=by
 have hl:=h.len;obtain⟨vs,h⟩:=h;have hv:=h.vlen;have hkl:(M.take k).length=k:=by rw[aI];omega
 refine⟨vs.take k,?_,fun i l hi=> ?_,fun i j u u' hne hu hu'=> ?_⟩
 ·rw[hkl]
  have hd:=h.hd;rw[hl] at hd;refine⟨by rw[aI];omega,?_⟩;rcases hd.2 with⟨h1,_⟩ | ⟨g',cap,cur,h1,h2,h3,h4,h5,h6,h7⟩
  ·simp at h1
  ·injection h1 with e1 e2 e3
   subst e3;refine .inr ⟨g',c,cur,by rw[e1],h2,h3,by omega,h5,h6,?_⟩;rw[←h7,List.take_take,Nat.mul_one,Nat.mul_one,Nat.min_eq_left hk]
 ·rw[List.getElem?_take] at hi
  split at hi
  ·rename_i h1
   obtain⟨u,h2,h3⟩:=h.row i l hi;exact⟨u,by rw[List.getElem?_take,if_pos h1];exact h2,h3⟩
  ·cases hi
 ·rw[List.getElem?_take] at hu hu'
  split at hu
  ·split at hu'
   ·exact h.apart i j u u' hne hu hu'
   ·cases hu'
  ·cases hu
def RdM(w:World)(B:Nat)(a:Option Addr)(n:Nat)(M:List (List Nat)):Prop:=
 M.length=n∧∃vs,Rd w B a n vs∧∀(i:Nat) l,M[i]? =some l→∃a' c',vs[i]? =some (.slice a' l.length c')∧Rd w B a' l.length (ba l)∧(a'=none→c'=0)∧l.length≤c'∧c'≤maxLen
theorem RdM.len{w:World}{B:Nat}{a:Option Addr}{n:Nat}{M:List (List Nat)}(h:RdM w B a n M):M.length=n:=h.1
theorem RdM.keep{w w':World}{B:Nat}{a:Option Addr}{n:Nat}{M:List (List Nat)}(h:RdM w B a n M)(hk:∀p:Addr,p.block<B→w'.cell? p=w.cell? p):RdM w' B a n M:=by
 obtain⟨h1,vs,h2,h3⟩:=h;refine⟨h1,vs,h2.keep hk,fun i l hl=> ?_⟩;obtain⟨a',c',h4,h5,h6⟩:=h3 i l hl;exact⟨a',c',h4,h5.keep hk,h6⟩
theorem RdM.more{w:World}{B B':Nat}{a:Option Addr}{n:Nat}{M:List (List Nat)}(h:RdM w B a n M)(hB:B≤B'):RdM w B' a n M:=by
 obtain⟨h1,vs,h2,h3⟩:=h;refine⟨h1,vs,h2.more hB,fun i l hl=> ?_⟩;obtain⟨a',c',h4,h5,h6⟩:=h3 i l hl;exact⟨a',c',h4,h5.more hB,h6⟩
theorem RdM.below{w w':World}{B C:Nat}{a:Option Addr}{n:Nat}{M:List (List Nat)}(h:RdM w B a n M)(hb:Below C w w')(hC:B≤C):RdM w' B a n M:=h.keep fun _ hp=>hb.cell (by omega)
theorem getD_some{M:List (List Nat)}{i:Nat}(h:i<M.length):M[i]? =some (M.getD i []):=by rw[af,ag h];rfl
theorem RdM.at{w:World}{B:Nat}{a:Option Addr}{n:Nat}{M:List (List Nat)}(h:RdM w B a n M){i:Nat}(hi:i<n):
 ∃b o a' c',a=some ⟨b,o,none⟩∧b<B∧w.cell? ⟨b,o+i,none⟩=some (.slice a' (M.getD i []).length c')∧Rd w B a' (M.getD i []).length (ba (M.getD i []))∧(a'=none→c'=0)∧(M.getD i []).length≤c'∧c'≤maxLen:=by
 obtain⟨h1,vs,h2,h3⟩:=h;obtain⟨a',c',h4,h5,h6⟩:=h3 i _ (getD_some (by omega));obtain⟨b,o,rfl,hb,hc⟩:=h2.2 (by omega);exact⟨b,o,a',c',rfl,hb,hc i _ h4,h5,h6⟩
theorem OwnB.caps{w:World}{C:Nat}{a:Option Addr}{n c:Nat}{l:List Nat}(h:OwnB w C (.slice a n c) l):(a=none→c=0)∧n≤c∧c≤maxLen:=by
 rcases h.2 with⟨h1,_⟩ | ⟨g,cap,cur,h1,_,_,h4,h5,_⟩
 ·injection h1 with e1 e2 e3
  subst e2 e3;exact⟨fun _=>rfl,ah _,Nat.zero_le _⟩
 ·injection h1 with e1 e2 e3
  subst e2 e3;exact⟨fun e=>(by rw[e] at e1;cases e1),h4,h5⟩
theorem MOwn.rdM{w:World}{C:Nat}{a:Option Addr}{n c:Nat}{M:List (List Nat)}(h:MOwn w C (.slice a n c) M):RdM w w.heap.size a n M:=by
 have hl:=h.len;obtain⟨vs,h⟩:=h;have hd:=h.hd;rw[hl] at hd;obtain⟨a1,c1,e,hr,_⟩:=jC hd;injection e with e1 e2 e3;subst e1;refine⟨hl,vs,hr,fun i l hi=> ?_⟩;obtain⟨u,hu,ho⟩:=h.row i l hi;obtain⟨a',c',rfl,hr'⟩:=ho.rd;exact⟨a',c',hu,hr',ho.caps⟩
theorem MOwn.caps{w:World}{C:Nat}{a:Option Addr}{n c:Nat}{M:List (List Nat)}(h:MOwn w C (.slice a n c) M):(a=none→c=0)∧n≤c∧c≤maxLen:=by
 have hl:=h.len;obtain⟨vs,h⟩:=h;rcases h.hd.2 with⟨h1,_⟩ | ⟨g,cap,cur,h1,_,_,h4,h5,_⟩
 ·injection h1 with e1 e2 e3
  subst e2 e3;exact⟨fun _=>rfl,ah _,Nat.zero_le _⟩
 ·injection h1 with e1 e2 e3
  subst e2 e3;exact⟨fun e=>(by rw[e] at e1;cases e1),h4,h5⟩
theorem MOwn.val{w:World}{C:Nat}{v:Value}{M:List (List Nat)}(h:MOwn w C v M):∃a c,v=.slice a M.length c:=by
 obtain⟨vs,h⟩:=h;obtain⟨a,c,rfl,_⟩:=jC h.hd;exact⟨a,c,rfl⟩
def qp(a:Option Addr)(n:Nat)(M:List (List Nat)):vC:=⟨fun w=>RdM w w.heap.size a n M,fun _ _ h hb=>(h.below hb (ah _)).more hb.size⟩
theorem MOwn.rdM2{w:World}{C:Nat}{v:Value}{M:List (List Nat)}{n:Nat}(h:MOwn w C v M)(hn:M.length=n):∃a c,v=.slice a n c∧(qp a n M).ok w∧(a=none→c=0)∧n≤c∧c≤maxLen:=by
 obtain⟨a,c,rfl⟩:=h.val;rw[hn] at h ⊢;exact⟨a,c,rfl,h.rdM,h.caps⟩
theorem bQ:(prog.info? 23).map (fun i=>(i.zero,i.size,i.bytes))=some (some (.slice none 0 0),1,24):=by kernel_rfl
theorem dF(xs:List Nat)(B:Nat)(a:Option Addr)(n c:Nat)(w:World)(hx:Rd w B a n (ba xs))(hB:B≤w.heap.size)(hnil:a=none→c=0)(hn:n≤1000000):
 Calls prog 36 #[.slice a n c] w fun e w'=>∃v,e=.returned v∧OwnB w' w.heap.size v xs∧Below w.heap.size w w':=by
 have hlx:xs.length=n:=by have:=hx.len;rwa [bg] at this
 cases a with
 | none=>
   obtain rfl:=hnil rfl
   have hn0:n=0:=by
    rcases Nat.eq_zero_or_pos n with h | h
    ·exact h
    ·obtain⟨b,o,e,_⟩:=hx.2 h
     cases e
   subst hn0;obtain rfl:xs=[]:=List.eq_nil_of_length_eq_zero hlx;have hq:=fun W=>Lib.run_eql_slice_nil (P:=prog) W 23 5 none 0 0 0 0 underlying23;clear hx hnil hlx;go_enter func36,ntmps36;go_wp2_with fail;go_ret;exact⟨_,rfl,OwnB.nil _ _,az _ _⟩
 | some ad=>
   have hq:=fun W=>Lib.run_eql_slice_nil (P:=prog) W 23 5 (some ad) n c 0 0 underlying23;have HX:=ae hx;have HL:=ae hlx;clear hx hnil hlx;go_enter func36,ntmps36
   go_wp2_with (at_builtin;refine zF _ rfl _ _ 23 rfl w.heap.size 5 (.int .u8 0) 1 underlying23 iy rfl (.slice (some ⟨w.heap.size,0,none⟩) 0 0) 0 [] rfl ?o1 B ad n c (ba xs) rfl ?o2 (gQ xs) ?o3 ?o4 ?o5 ?_)
   case o1=>exact World.ownsRow_made w #[] 0 (ah _) (by unfold maxLen;omega) (by simp)
   case o2=>exact HX.out.keep (fun p hp=>World.cell?_alloc_lt _ _ _ (by omega))
   case o3=>omega
   case o4=>unfold maxLen;omega
   case o5=>simp
   intro v w1 hown hg hv;have hb:Below w.heap.size w w1:=((az _ _).alloc (ah _) _).grown hg (by simp) (fun k hk=>by simp[Value.ownBlock] at hk;omega);have hown':OwnB w1 w.heap.size v xs:=(by first | (rw[←HL.out] at hown;exact hown) | (rw[Nat.zero_add,List.nil_append,←HL.out] at hown;exact hown));have HO:=ae hown';have HB:=ae hb;clear hown hg hb hv hown';go_wp2_with fail;go_ret;exact⟨_,rfl,HO.out,HB.out⟩
theorem kD{w0 w1:World}{ops:Array Oper}{rest:List Oper}{o:Oper}{a:Act}{Q:Exit→Act→World→Prop}(hgd:o.guard=none)(s x:Operand){C:Nat}{v u:Value}{M:List (List Nat)}{l:List Nat}
 (ho:o.op=.call { callee:=.builtin .append,args:=#[s,x],argTypes:=#[33,33] })
 (h:MOwn w0 C v M)(hb:Below w0.heap.size w0 w1)(hu:OwnB w1 w0.heap.size u l)(hC:C≤w0.heap.size)(hl:M.length≤1000000)
 (hs:a.eval s=v)(hx:a.eval x=.slice (some ⟨w1.heap.size,0,none⟩) 1 1)
 (K:∀v' w2,MOwn w2 C v' (M++[l])→Below C w0 w2→(w1.alloc (.cells #[u] 23)).grownBy w2 v.ownBlock→(v'.ownBlock=v.ownBlock∨v'.ownBlock=some (w1.heap.size+1))→wpList prog ops Q rest (a.put o.dst v') w2):
 wpList prog ops Q (o :: rest) a (w1.alloc (.cells #[u] 23)):=by
 obtain⟨vs,h⟩:=h;have hs1:=hb.size;have h1:=h.new hb;have hba:=(az w1.heap.size w1).alloc (ah _) (.cells #[u] 23);have h2:=h1.new hba;have hone:u.oneCell'=true:=by obtain⟨a',c',e,_⟩:=hu.rd;rw[e];rfl
 refine jo (P:=prog) _ hgd s x 33 ho C 23 (.slice none 0 0) 24 underlying33 bQ rfl v M.length vs hs h2.hd w1.heap.size u hx (dO w1 #[u] _ 0) hone (by omega) (by unfold maxLen;omega) (by simp;omega) fun v' w2 hown hg hat=> ?_;have hrow:∀(i:Nat) u',vs[i]? =some u'→∀b,u'.ownBlock=some b→b<w0.heap.size:=fun i u' hu' b hb'=>((h.of hu').1.lt b hb').2;refine K v' w2 ⟨_,h2.snoc hrow hC (hu.below hba) hown hg⟩ ?_ hg (by rcases hat with h | h;exact .inl h;right;rw[h];simp);refine(((hb.mono hC).alloc (by omega) _).grown hg (by simp;omega) fun k hk=> ?_);exact(h.hd.lt k hk).1
theorem xA(n m:Nat)(M:List (List Nat))(B:Nat)(a:Option Addr)(c:Nat)(w:World)(h:RdM w B a m M)(hW:Wf n M)(hn:n≤64)(hm:m≤1000000):
 Calls prog 60 #[.slice a m c] w fun e w'=>e=.returned (.bool true)∧w=w':=by
 have H:=ae h;have HW:=ae hW;clear h hW;go_enter func60,ntmps60;go_wp2_with fail;go_loopw [4,7] (fun _ i wr=>∃k:Nat,k≤m∧i=.int .i64 k∧wr=w) (fun _ i _=>m-(intOf i).toNat)
 case atStart=>exact⟨0,by omega,rfl,rfl⟩
 case round=>
  obtain⟨k,hk,rfl,rfl⟩:=hrel;by_cases hlt:k<m
  ·obtain⟨b,o,a0,c0,rfl,hb,hc0,_⟩:=H.out.at (show 0<m by omega)
   obtain⟨b',o',a1,c1,e,_,hc1,_⟩:=H.out.at hlt;injection e with e;injection e with e1 e2 e3;subst e1 e2;have l0:=(HW.out.get (i:=0) (by rw[H.out.len];omega)).1;have l1:=(HW.out.get (i:=k) (by rw[H.out.len];omega)).1;rw[l0,Nat.add_zero] at hc0;rw[l1] at hc1;have hnn:((n:Int) != (n:Int))=false:=(by simp);have hlt':(k:Int)<(m:Int):=(by omega);have hn':¬((n:Int)>64):=(by omega);clear l0 l1;go_wp2_with fail;go_roundw
   case rel=>exact⟨k+1,by omega,by go_num,by first | trivial | rfl⟩
   case measure=>simp[intOf];omega
  ·obtain rfl:k=m:=by omega
   go_wp2_with fail;go_ret;exact⟨rfl,rfl⟩
theorem DF(M:List (List Nat))(B:Nat)(a:Option Addr)(m c:Nat)(w:World)(h:RdM w B a m M)(hB:B≤w.heap.size)(hl:∀l∈M,l.length≤1000000)(hm:m≤1000000):
 Calls prog 62 #[.slice a m c] w fun e w'=>∃g c',e=.returned (.slice (some ⟨g,0,none⟩) m c')∧MOwn w' w.heap.size (.slice (some ⟨g,0,none⟩) m c') M∧Below w.heap.size w w':=by
 have H:=ae (h.more hB);have HL:=ae hl;have HM:=ae h.len;clear h hl;obtain⟨i0,hi,hz0,hz1,hz2⟩:=info_parts bQ
 have hmk:∀w:World,(Instr.makeSlice 33 (.int .i64 0) (.int .i64 (m:Int))).run prog w=.ok (.slice (some ⟨w.heap.size,0,none⟩) 0 m) (w.alloc (.cells (madeCells #[Value.slice none 0 0] m) 23)):=by
  intro w;have h:=run_make (P:=prog) w 33 23 i0 (.slice none 0 0) underlying33 hi hz0 .i64 .i64 0 (m:Int) (by omega) (by omega) (by rw[hz2];omega) (by omega);rw[hz1,Nat.mul_one,Int.toNat_zero,Int.toNat_natCast] at h;exact h
 have hms:(madeCells #[Value.slice none 0 0] m).size=m*1:=by rw[size_madeCells,Nat.mul_one]
 clear hi hz0 hz1 hz2;generalize madeCells #[Value.slice none 0 0] m=cur at*;go_enter func62,ntmps62
 go_wp2_with (simp only[hmk])
 have HO:Hid (∃g cc,Value.slice (some ⟨w.heap.size,0,none⟩) 0 m=.slice (some ⟨g,0,none⟩) 0 cc∧MOwn (w.alloc (.cells cur 23)) w.heap.size (Value.slice (some ⟨w.heap.size,0,none⟩) 0 m) (M.take 0)):=ae ⟨_,_,rfl,[],World.ownsRow_made w cur m (ah _) (by unfold maxLen;omega) hms,by simp,by simp⟩;have HBL:=ae ((az w.heap.size w).alloc (ah _) (.cells cur 23));clear hmk hms;generalize w.alloc (.cells cur 23)=w1 at*;generalize hG:w.heap.size=G at*;have HG:=ae hG;clear hG;go_loopw [3,5,11] (fun v _ i wr=>∃k:Nat,k≤m∧i=.int .i64 k∧Hid (∃g cc,v=.slice (some ⟨g,0,none⟩) k cc∧MOwn wr G v (M.take k))∧Hid (Below G w wr)) (fun _ _ i _=>m-(intOf i).toNat)
 case atStart=>exact⟨0,by omega,rfl,HO,HBL⟩
 case round=>
  clear HO HBL;obtain⟨k,hk,rfl,HO,HBL⟩:=hrel;by_cases hlt:k<m
  ·obtain⟨g,cc,rfl,hO⟩:=HO.out
   have hkM:k<M.length:=(by rw[HM.out];exact hlt);have hcaps:=hO.caps;obtain⟨b,o,a',c',rfl,hb,hcell,hrd,hnil,hcap,_⟩:=H.out.at hlt;have hcell':=(HBL.out.cell (p:=⟨b,o+k,none⟩) hb).trans hcell;have hGr:G≤wr.heap.size:=(by have:=HBL.out.size;have:=HG.out;omega);have hrd':=hrd.below HBL.out (ah _)
   have htk:M.take (k+1)=M.take k++[M.getD k []]:=by
    rw[aP hkM,af,ag hkM];rfl
   have hlen:=HL.out _ (mJ hkM);have CC:=ae (dF (M.getD k []) G a' (M.getD k []).length c' wr hrd' hGr hnil hlen);have HTK:=ae htk;have HOO:=ae hO;have hlt':(k:Int)<(m:Int):=(by omega);have hmt:(M.take k).length≤1000000:=(by rw[aI];omega);clear htk hlen hcell hrd hrd' hO hcaps hcap hnil hkM;generalize M.getD k []=l at*;go_wp2_with fail;refine CC.out.mono ?_;rintro e w2 ⟨u,rfl,hu,hb2⟩;obtain⟨ua,uc,rfl,_⟩:=hu.rd;have HU:=ae hu;have HB2:=ae hb2;clear hu hb2 CC
   go_wp2_with (at_builtin;refine kD (w0:=wr) (w1:=w2) rfl _ _ rfl HOO.out HB2.out HU.out hGr hmt rfl rfl ?_)
   intro v' w3 hM3 hb3 hg3 hat
   have hv:∃g cc,v'=.slice (some ⟨g,0,none⟩) (k+1) cc:=by
    obtain⟨vs,hMV⟩:=hM3;obtain⟨g,cap,e,_⟩:=hMV.form (by simp);refine⟨g,cap,?_⟩;rw[e];congr 1;rw[aJ,aI,List.length_singleton];have:=HM.out;omega
   have HM3:Hid (∃g cc,v'=.slice (some ⟨g,0,none⟩) (k+1) cc∧MOwn w3 G v' (M.take (k+1))):=ae (by
    obtain⟨g,cc,e⟩:=hv;exact⟨g,cc,e,by rw[HTK.out];exact hM3⟩)
   have HB3:=ae (HBL.out.trans hb3);clear hM3 hb3 hg3 hat hv HOO HB2 HU HTK;go_wp2_with fail;go_roundw
   case rel=>(try((repeat apply Exists.intro);refine⟨?_,rfl⟩));exact⟨k+1,by omega,by go_num,HM3,HB3⟩
   case measure=>simp[intOf];omega
  ·obtain rfl:k=m:=by omega
   have HF:Hid (∃g cc,u3=.slice (some ⟨g,0,none⟩) k cc∧MOwn wr G u3 M):=ae (by
    obtain⟨g,cc,e,hO⟩:=HO.out;exact⟨g,cc,e,by rw[aO (by rw[HM.out];exact ah _)] at hO;exact hO⟩)
   go_wp2_with fail;go_ret;obtain⟨g,cc,e,hO⟩:=HF.out;subst e;exact⟨g,cc,rfl,by rw[HG.out];exact hO,by rw[HG.out];exact HBL.out⟩
theorem za(p:Option Addr)(w:World)(hF:Fp w p):
 Calls prog 64 #[.pointer p] w fun e w'=>∃g,e=.returned (.pointer (some ⟨g,0,none⟩))∧Fld w' g∧Below w.heap.size w w':=by
 rcases hF with rfl | ⟨g,rfl,hF⟩
 ·go_enter func64,ntmps64
  go_wp2_with fail;refine(ou _).mono ?_;rintro e w1 ⟨g,rfl,hg,hF,hb⟩;go_wp2_with fail;go_ret;exact⟨g,rfl,hF,hb⟩
 ·go_enter func64,ntmps64
  go_wp2_with fail;go_ret;exact⟨g,rfl,hF,az _ _⟩
theorem wI(M:List (List Nat))(B:Nat)(a:Option Addr)(m c:Nat)(w:World)(h:RdM w B a m M)(hm:m≤1000000):
 Calls prog 61 #[.slice a m c] w fun e w'=>e=.returned (.int .i64 (wid M:Nat))∧w=w':=by
 rcases Nat.eq_zero_or_pos m with h0 | h0
 ·subst h0
  obtain rfl:M=[]:=List.eq_nil_of_length_eq_zero h.len;clear h;go_enter func61,ntmps61;go_wp2_with fail;go_ret;exact⟨rfl,rfl⟩
 ·obtain⟨b,o,a',c',rfl,hb,hcell,_⟩:=h.at h0
  have e:(M.getD 0 []).length=wid M:=rfl;rw[e,Nat.add_zero] at hcell;have hm0:((m:Int) == 0)=false:=(by rw[beq_eq_false_iff_ne];omega);have hmp:(0:Int)<(m:Int):=(by omega);clear h e;generalize wid M=q at*;go_enter func61,ntmps61;go_wp2_with fail;go_ret;exact⟨rfl,rfl⟩
end Go.Proofs.YtofgapdnadbgkaaGreatDoor
