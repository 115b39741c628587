import Derived.Test.YtofgapdnadbgkaaGreatDoorW5
set_option linter.unusedVariables false
set_option maxRecDepth 100000
set_option maxHeartbeats 400000000
namespace Go.Proofs.YtofgapdnadbgkaaGreatDoor
open Go.RowKit _root_.Go.Proofs.Tryz
structure Rp where
 sz:Nat
 ok:World→(Nat→Prop)→List Value→Prop
 len:∀ {w:World} {F:Nat→Prop} {vs:List Value},ok w F vs→vs.length=sz
 one:∀ {w:World} {F:Nat→Prop} {vs:List Value},ok w F vs→∀u∈vs,u.oneCell'=true
 keep:∀ {w w':World} {F G:Nat→Prop} {vs:List Value},ok w F vs→(∀k,F k→k<w.heap.size→w'.heap[k]? =w.heap[k]? ∧G k)→ok w' G vs
def Fr(C:Nat):Nat→Prop:=fun b=>C≤b
def Bl(B:Nat):Nat→Prop:=fun b=>b<B
def Any:Nat→Prop:=fun _=>True
theorem Rp.more(R:Rp){w:World}{F G:Nat→Prop}{vs:List Value}(h:R.ok w F vs)(hg:∀k,F k→k<w.heap.size→G k):R.ok w G vs:=R.keep h fun k hF hk=>⟨rfl,hg k hF hk⟩
theorem Rp.any(R:Rp){w:World}{F:Nat→Prop}{vs:List Value}(h:R.ok w F vs):R.ok w Any vs:=R.more h fun _ _ _=>trivial
theorem Rp.bl(R:Rp){w:World}{F:Nat→Prop}{vs:List Value}(h:R.ok w F vs):R.ok w (Bl w.heap.size) vs:=R.more h fun _ _ hk=>hk
theorem Rp.new(R:Rp){w w':World}{F:Nat→Prop}{vs:List Value}(h:R.ok w F vs)(hb:Below w.heap.size w w'):R.ok w' F vs:=R.keep h fun k hF hk=>⟨hb.block k hk,hF⟩
def eR(F:Nat→Prop)(v:Value)(R:Rp):vC:=⟨fun w=>R.ok w F [v],fun _ _ h hb=>R.new h hb⟩
theorem Sx.rep{w0 w:World}{L:List vC}(h:Sx w0 w L)(i:Nat){F:Nat→Prop}{v:Value}{R:Rp}(hi:L[i]? =some (eR F v R)):R.ok w F [v]:=h.get i hi
def rVs(us:List Value):Rp where
 sz:=us.length
 ok:=fun _ _ vs=>vs=us∧∀u∈us,u.oneCell'=true
 len:=fun h=>by rw[h.1]
 one:=fun h=>by rw[h.1];exact h.2
 keep:=fun h _=>h
def rV(u:Value):Rp:=rVs [u]
theorem xc{w w':World}{b o:Nat}{u:Value}(h:w.cell? ⟨b,o,none⟩=some u)(hk:b<w.heap.size→w'.heap[b]? =w.heap[b]?):w'.cell? ⟨b,o,none⟩=some u:=
 (World.cell?_of_block (w:=w) (a:=⟨b,o,none⟩) (hk (World.block_lt_of_cell? w _ h))).trans h
def rC(cs:List Value):Rp where
 sz:=1
 ok:=fun w F vs=>∃a n c,vs=[.slice a n c]∧n≤c∧c≤maxLen∧(a=none→c=0)∧cs.length=n∧(0<n→∃b o,a=some ⟨b,o,none⟩∧F b∧∀i u,cs[i]? =some u→w.cell? ⟨b,o+i,none⟩=some u)
 len:=fun h=>by obtain⟨a,n,c,rfl,_⟩:=h;rfl
 one:=fun h=>by obtain⟨a,n,c,rfl,_⟩:=h;intro u hu;rw[List.mem_singleton.1 hu];rfl
 keep:=fun {w w' F G vs} h hk=>by
  obtain⟨a,n,c,rfl,h1,h2,h3,h4,h5⟩:=h;refine⟨a,n,c,rfl,h1,h2,h3,h4,fun hn=> ?_⟩;obtain⟨b,o,rfl,hF,hc⟩:=h5 hn;have h0:=hc 0 _ (ag (by omega));have hlt:=World.block_lt_of_cell? w _ h0;exact⟨b,o,rfl,(hk b hF hlt).2,fun i u hu=>xc (hc i u hu) fun _=>(hk b hF hlt).1⟩
def rB(l:List Nat):Rp:=rC (ba l)
def rS(k:Nat)(L:List Rp):Rp where
 sz:=1
 ok:=fun w F vs=>∃a n c,vs=[.slice a n c]∧n≤c∧c≤maxLen∧(a=none→c=0)∧L.length=n∧∃cs:List Value,cs.length=n*k∧
  (0<n*k→∃b o,a=some ⟨b,o,none⟩∧F b∧∀i u,cs[i]? =some u→w.cell? ⟨b,o+i,none⟩=some u)∧∀(i:Nat) R,L[i]? =some R→R.ok w F ((cs.drop (i*k)).take k)
 len:=fun h=>by obtain⟨a,n,c,rfl,_⟩:=h;rfl
 one:=fun h=>by obtain⟨a,n,c,rfl,_⟩:=h;intro u hu;rw[List.mem_singleton.1 hu];rfl
 keep:=fun {w w' F G vs} h hk=>by
  obtain⟨a,n,c,rfl,h1,h2,h3,h4,cs,h5,h6,h7⟩:=h;refine⟨a,n,c,rfl,h1,h2,h3,h4,cs,h5,fun hn=> ?_,fun i R hR=>R.keep (h7 i R hR) hk⟩;obtain⟨b,o,rfl,hF,hc⟩:=h6 hn;have h0:=hc 0 _ (ag (by omega));have hlt:=World.block_lt_of_cell? w _ h0;exact⟨b,o,rfl,(hk b hF hlt).2,fun i u hu=>xc (hc i u hu) fun _=>(hk b hF hlt).1⟩
def rM(M:List (List Nat)):Rp:=rS 1 (M.map rB)
def rP(A B:Rp):Rp where
 sz:=A.sz+B.sz
 ok:=fun w F vs=>∃x y,vs=x++y∧A.ok w F x∧B.ok w F y
 len:=fun h=>by obtain⟨x,y,rfl,h1,h2⟩:=h;rw[aJ,A.len h1,B.len h2]
 one:=fun h=>by
  obtain⟨x,y,rfl,h1,h2⟩:=h;intro u hu;rcases List.mem_append.1 hu with h | h
  ·exact A.one h1 u h
  ·exact B.one h2 u h
 keep:=fun h hk=>by obtain⟨x,y,rfl,h1,h2⟩:=h;exact⟨x,y,rfl,A.keep h1 hk,B.keep h2 hk⟩
theorem uM{w:World}{F:Nat→Prop}{us:List Value}(h:∀u∈us,u.oneCell'=true):(rVs us).ok w F us:=⟨rfl,h⟩
theorem nJ{A B:Rp}{w:World}{F:Nat→Prop}{x y:List Value}(h1:A.ok w F x)(h2:B.ok w F y):(rP A B).ok w F (x++y):=⟨x,y,rfl,h1,h2⟩
theorem pQ{u:Value}{w:World}{F:Nat→Prop}(h:u.oneCell'=true):(rV u).ok w F [u]:=⟨rfl,fun v hv=>by rw[List.mem_singleton.1 hv];exact h⟩
theorem Ak{cs:List Value}{w:World}{F:Nat→Prop}{v:Value}(h:(rC cs).ok w F [v]):∃a c,v=.slice a cs.length c∧Rd w w.heap.size a cs.length cs∧(a=none→c=0)∧cs.length≤c∧c≤maxLen:=by
 obtain⟨a,n,c,e,h1,h2,h3,rfl,h5⟩:=(rC cs).bl h;injection e with e _;exact⟨a,c,e,⟨rfl,h5⟩,h3,h1,h2⟩
theorem gB{l:List Nat}{w:World}{F:Nat→Prop}{v:Value}{n:Nat}(h:(rB l).ok w F [v])(hn:l.length=n):∃a c,v=.slice a n c∧Rd w w.heap.size a n (ba l)∧(a=none→c=0)∧n≤c∧c≤maxLen:=by
 subst hn;have:=Ak h
 rwa [bg] at this
theorem bV{w:World}{C e k m:Nat}{v:Value}{xs:List Value}(h:w.ownsRow C e k v m xs):∃a c,v=.slice a m c∧(a=none→c=0)∧m≤c∧c≤maxLen∧xs.length=m*k∧(0<m*k→∃b o,a=some ⟨b,o,none⟩∧(C≤b∧b<w.heap.size)∧v.ownBlock=some b∧∀i u,xs[i]? =some u→w.cell? ⟨b,o+i,none⟩=some u):=by
 have hx:=h.1;have hlt:=h.lt;have hc:=fun g hg=>h.cells (g:=g) hg;rcases h.2 with⟨rfl,rfl⟩ | ⟨g,cap,cur,rfl,h1,h2,h4,h5,_⟩
 ·exact⟨none,0,rfl,fun _=>rfl,ah _,Nat.zero_le _,hx,fun h=>absurd h (by omega)⟩
 ·refine⟨_,cap,rfl,fun e=>(by cases e),h4,h5,hx,fun _=>⟨g,0,rfl,hlt g rfl,rfl,fun i u hu=> ?_⟩⟩
  have:=hc g rfl i u hu;rw[Addr.add_lit] at this;exact this
theorem Ju{cs:List Value}{w:World}{C e n:Nat}{v:Value}(h:w.ownsRow C e 1 v n cs):(rC cs).ok w (Fr C) [v]:=by
 obtain⟨a,c,rfl,h1,h2,h3,h4,h5⟩:=bV h;rw[Nat.mul_one] at h4 h5;refine⟨a,n,c,rfl,h2,h3,h1,h4,fun hn=> ?_⟩;obtain⟨b,o,e1,⟨hb,_⟩,_,hc⟩:=h5 hn;exact⟨b,o,e1,hb,hc⟩
theorem eY{l:List Nat}{w:World}{C:Nat}{v:Value}(h:OwnB w C v l):(rB l).ok w (Fr C) [v]:=Ju h
def OwnS(w:World)(C:Nat)(e:TypeId)(k:Nat)(F:Nat→Prop)(v:Value)(L:List Rp):Prop:=
 ∃cs,w.ownsRow C e k v L.length cs∧∀(i:Nat) R,L[i]? =some R→R.ok w (fun b=>F b∧some b≠v.ownBlock) ((cs.drop (i*k)).take k)
theorem OwnS.nil(w:World)(C:Nat)(e:TypeId)(k:Nat)(F:Nat→Prop):OwnS w C e k F (.slice none 0 0) []:=⟨[],World.ownsRow_nil _ _ _ _,by simp⟩
theorem kN{w w':World}{C e k n:Nat}{v:Value}{xs:List Value}(h:w.ownsRow C e k v n xs)(hb:Below w.heap.size w w'):w'.ownsRow C e k v n xs:=by
 refine⟨h.1,?_⟩;rcases h.2 with h2 | ⟨g,cap,cur,rfl,hg,hh,r⟩
 ·exact .inl h2
 ·exact .inr ⟨g,cap,cur,rfl,hg,(hb.block g (Array.getElem?_eq_some_iff.1 hh).1).trans hh,r⟩
theorem OwnS.new{w w':World}{C:Nat}{e:TypeId}{k:Nat}{F:Nat→Prop}{v:Value}{L:List Rp}(h:OwnS w C e k F v L)(hb:Below w.heap.size w w'):OwnS w' C e k F v L:=by
 obtain⟨cs,h1,h2⟩:=h;exact⟨cs,kN h1 hb,fun i R hR=>R.new (h2 i R hR) hb⟩
theorem OwnS.drewN{w:World}{C:Nat}{e:TypeId}{k:Nat}{F:Nat→Prop}{v:Value}{L:List Rp}(h:OwnS w C e k F v L)(j:Nat):OwnS (w.drewN j) C e k F v L:=h.new (below_drewN (az _ _) j)
theorem OwnS.base{w:World}{C D:Nat}{e:TypeId}{k:Nat}{F G:Nat→Prop}{v:Value}{L:List Rp}(h:OwnS w C e k F v L)(hD:D≤C)(hF:∀b,F b→G b):OwnS w D e k G v L:=by
 obtain⟨cs,⟨h0,h1⟩,h2⟩:=h;refine⟨cs,⟨h0,?_⟩,fun i R hR=>R.more (h2 i R hR) fun b hb _=>⟨hF b hb.1,hb.2⟩⟩;rcases h1 with h1 | ⟨g,cap,cur,e1,hg,r⟩
 ·exact .inl h1
 ·exact .inr ⟨g,cap,cur,e1,aQ hD hg,r⟩
theorem OwnS.val{w:World}{C:Nat}{e:TypeId}{k:Nat}{F:Nat→Prop}{v:Value}{L:List Rp}(h:OwnS w C e k F v L):∃a c,v=.slice a L.length c∧(a=none→c=0)∧L.length≤c∧c≤maxLen:=by
 obtain⟨cs,h1,_⟩:=h;obtain⟨a,c,e,r1,r2,r3,_⟩:=bV h1;exact⟨a,c,e,r1,r2,r3⟩
theorem OwnS.sl{w:World}{C:Nat}{e:TypeId}{k:Nat}{F:Nat→Prop}{v:Value}{L:List Rp}(h:OwnS w C e k F v L):∃a n c,v=.slice a n c:=by
 obtain⟨a,c,e,_⟩:=h.val;exact⟨a,_,c,e⟩
theorem OwnS.len{w:World}{C:Nat}{e:TypeId}{k:Nat}{F:Nat→Prop}{a:Option Addr}{n c:Nat}{L:List Rp}(h:OwnS w C e k F (.slice a n c) L):L.length=n∧(a=none→c=0)∧n≤c∧c≤maxLen:=by
 obtain⟨a',c',e,h1,h2,h3⟩:=h.val;injection e with e1 e2 e3;subst e1 e2 e3;exact⟨rfl,h1,h2,h3⟩
theorem OwnS.lt{w:World}{C:Nat}{e:TypeId}{k:Nat}{F:Nat→Prop}{v:Value}{L:List Rp}(h:OwnS w C e k F v L):∀b,v.ownBlock=some b→C≤b∧b<w.heap.size:=by
 obtain⟨cs,h1,_⟩:=h;exact h1.lt
theorem OwnS.rep{w:World}{C:Nat}{e:TypeId}{k:Nat}{F:Nat→Prop}{v:Value}{L:List Rp}(h:OwnS w C e k F v L):(rS k L).ok w (fun b=>F b∨C≤b) [v]:=by
 obtain⟨cs,h1,h2⟩:=h;obtain⟨a,c,rfl,r1,r2,r3,r4,r5⟩:=bV h1;refine⟨a,L.length,c,rfl,r2,r3,r1,rfl,cs,r4,fun hn=> ?_,fun i R hR=>R.more (h2 i R hR) fun b hb _=>.inl hb.1⟩;obtain⟨b,o,e1,⟨hb,_⟩,_,hc⟩:=r5 hn;exact⟨b,o,e1,.inr hb,hc⟩
theorem OwnS.fr{w:World}{C:Nat}{e:TypeId}{k:Nat}{v:Value}{L:List Rp}(h:OwnS w C e k (Fr C) v L):(rS k L).ok w (Fr C) [v]:=Rp.more _ h.rep fun b hb _=>by rcases hb with hb | hb <;> exact hb
theorem Gt{cs ds:List Value}{i k n:Nat}(hc:cs.length=n*k)(hi:i<n):((cs++ds).drop (i*k)).take k=(cs.drop (i*k)).take k:=by
 have h1:i*k+k≤n*k:=by
  have:=Nat.mul_le_mul_right k (show i+1≤n by omega)
  rwa [Nat.succ_mul] at this
 rw[List.drop_append_of_le_length (by omega),List.take_append_of_le_length (by rw[List.length_drop];omega)]
theorem Gu{cs ds:List Value}{i k n:Nat}(hc:cs.length=n*k):((cs++ds).drop ((n+i)*k)).take k=(ds.drop (i*k)).take k:=by
 rw[List.drop_append,List.drop_eq_nil_of_le (by rw[hc,Nat.add_mul];omega),List.nil_append,hc,Nat.add_mul,Nat.add_sub_cancel_left]
theorem OwnS.app{w w':World}{C:Nat}{e:TypeId}{k:Nat}{F:Nat→Prop}{v v':Value}{L N:List Rp}{cs ds:List Value}(h1:w.ownsRow C e k v L.length cs)(h2:∀(i:Nat) R,L[i]? =some R→R.ok w (fun b=>F b∧some b≠v.ownBlock) ((cs.drop (i*k)).take k))
 (h3:∀(i:Nat) R,N[i]? =some R→R.ok w (fun b=>F b∧some b≠v.ownBlock) ((ds.drop (i*k)).take k))(hown:w'.ownsRow C e k v' (L.length+N.length) (cs++ds))(hg:w.grownBy w' v.ownBlock)(hat:v'.ownBlock=v.ownBlock∨v'.ownBlock=some w.heap.size):OwnS w' C e k F v' (L++N):=by
 have hkeep:∀b,(F b∧some b≠v.ownBlock)→b<w.heap.size→w'.heap[b]? =w.heap[b]? ∧(F b∧some b≠v'.ownBlock):=fun b hb hlt=>by
  refine⟨hg.block b hlt hb.2,hb.1,?_⟩;rcases hat with e1 | e1
  ·rw[e1];exact hb.2
  ·rw[e1];intro e2;injection e2 with e2;omega
 refine⟨cs++ds,by rw[aJ];exact hown,fun i R hR=> ?_⟩;rw[List.getElem?_append] at hR;split at hR
 ·rename_i hi
  rw[Gt h1.1 hi];exact R.keep (h2 i R hR) hkeep
 ·rename_i hi
  have e1:i=L.length+(i-L.length):=(by omega);rw[e1,Gu h1.1];exact R.keep (h3 _ R hR) hkeep
theorem mN{cs:List Value}{i:Nat}{u:Value}(h:cs[i]? =some u):(cs.drop (i*1)).take 1=[u]:=by
 obtain⟨hi,e⟩:=List.getElem?_eq_some_iff.1 h;rw[Nat.mul_one,List.drop_eq_getElem_cons hi,e];rfl
theorem OwnS.off{w w1:World}{C:Nat}{e:TypeId}{k:Nat}{F G:Nat→Prop}{v:Value}{L:List Rp}(h:OwnS w C e k F v L){R:Rp}{us:List Value}(hR:R.ok w1 G us)(hG:∀b,G b→F b∧(b<C∨w.heap.size≤b)):R.ok w1 (fun b=>F b∧some b≠v.ownBlock) us:=
 R.more hR fun b hb _=>⟨(hG b hb).1,fun e1=>by have:=h.lt b e1.symm;rcases(hG b hb).2 with h5 | h5 <;> omega⟩
theorem OwnS.ty{w:World}{C:Nat}{e:TypeId}{k:Nat}{F:Nat→Prop}{v:Value}{L:List Rp}(h:OwnS w C e k F v L){b:Nat}{t:TypeId}{cs:Array Value}(hb:Blk w b t cs)(hne:t≠e):some b≠v.ownBlock:=by
 obtain⟨xs,h1,_⟩:=h;intro e1;rcases h1.2 with⟨rfl,_⟩ | ⟨g,cap,cur,rfl,_,hg,_⟩
 ·simp[Value.ownBlock] at e1
 ·simp[Value.ownBlock] at e1
  subst e1;have h2:w.heap[b]? =some (.cells cs t (0,0)):=hb;rw[hg] at h2;injection h2 with h2;injection h2 with _ h3;exact hne h3.symm
theorem jJ{w:World}{g:Nat}{l:List Nat}{F:Nat→Prop}(h:Blk w g 5 (bn l))(hF:F g)(hl:l.length≤maxLen):(rB l).ok w F [.slice (some ⟨g,0,none⟩) l.length l.length]:=by
 obtain⟨h1,h2⟩:=kX h;refine⟨_,_,_,rfl,ah _,hl,fun e=>(by cases e),bg l,fun hn=>⟨g,0,rfl,hF,?_⟩⟩;obtain⟨b,o,e,_,hc⟩:=h2 hn;injection e with e;injection e with e1 e2 _;subst e1 e2;exact hc
theorem xd{w:World}{C:Nat}{v:Value}{M:List (List Nat)}(h:MOwn w C v M):OwnS w C 23 1 (Fr C) v (M.map rB):=by
 obtain⟨vs,h⟩:=h;refine⟨vs,by rw[aG];exact h.hd,fun i R hR=> ?_⟩;rw[List.getElem?_map] at hR;obtain⟨l,hl,rfl⟩:=Option.map_eq_some_iff.1 hR;obtain⟨u,h1,h2⟩:=h.row i l hl;rw[mN h1];obtain⟨a,c,rfl,r1,r2,r3,r4,r5⟩:=bV h2;rw[Nat.mul_one] at r5;refine⟨a,l.length,c,rfl,r2,r3,r1,bg l,fun hn=> ?_⟩;obtain⟨b,o,e1,⟨hb,_⟩,hv,hc⟩:=r5 hn;refine⟨b,o,e1,⟨hb,fun e2=> ?_⟩,hc⟩;rcases h.hdrow h1 with h3 | h3
 ·rw[hv] at h3;cases h3
 ·exact h3 (hv.trans e2)
theorem dJ{P:Program}{w w1:World}{ops:Array Oper}{rest:List Oper}{o:Oper}{a:Act}{Q:Exit→Act→World→Prop}(hgd:o.guard=none)(s x:Operand){T e:TypeId}{z:Value}{k bytes:Nat}
 (ho:o.op=.call { callee:=.builtin .append,args:=#[s,x],argTypes:=#[T,T] })(hT:P.underlying T=some (.slice e))(hi:(P.info? e).map (fun i=>(i.zero,i.size,i.bytes))=some (some z,k,bytes))(hzs:z.cells.size=k)(hk:0<k)(hby:bytes≤1000)
 {C:Nat}{v:Value}{L:List Rp}{F:Nat→Prop}{R:Rp}{us:Array Value}(h:OwnS w C e k F v L)(hb:Below w.heap.size w w1)(hC:C≤w.heap.size)(hl:L.length≤1000000)
 (hR:R.ok w1 (fun b=>F b∧some b≠v.ownBlock) us.toList)(hsz:R.sz=k)
 (hs:a.eval s=v)(hx:a.eval x=.slice (some ⟨w1.heap.size,0,none⟩) 1 1)
 (K:∀v' w2,OwnS w2 C e k F v' (L++[R])→Below C w w2→wpList P ops Q rest (a.put o.dst v') w2):
 wpList P ops Q (o :: rest) a (w1.alloc (.cells us e)):=by
 have hba:=(az w1.heap.size w1).alloc (ah _) (.cells us e);have hlt:=h.lt;have hb2:Below w.heap.size w (w1.alloc (.cells us e)):=hb.trans (hba.mono hb.size);have h':=h.new hb2;obtain⟨cs,h1,h2⟩:=h';obtain⟨i,hi1,hi2,hi3,hi4⟩:=info_parts hi;have hus:us.toList.length=k:=by rw[R.len hR];exact hsz
 have hRn:=R.new hR hba;refine wpList_append_own_at (P:=P) (w1.alloc (.cells us e)) hgd s x T ho C e i z k bytes hT hi1 hi2 hi3 hi4 hzs hk v L.length cs hs h1 ⟨w1.heap.size,0,none⟩ 1 1 us.toList hx (by rw[hus,Nat.one_mul]) ?_ (R.one hR) (by unfold maxLen;omega) ?_ (aQ hC hb2.size) fun v' w' hown hg _ hat=> ?_
 ·intro j u hj
  rw[Addr.add_lit,Nat.zero_add,dO];simpa using hj
 ·have:=Nat.mul_le_mul (show L.length+1≤1000001 by omega) hby
  omega
 ·refine K v' w' (OwnS.app h1 h2 (fun i R' hR'=> ?_) hown hg hat) (((hb2.mono hC).grown hg (aQ hC hb2.size) fun b hb'=>(hlt b hb').1))
  cases i with
  | succ i=>simp at hR'
  | zero=>
    obtain rfl:R=R':=(by simpa using hR');rw[Nat.zero_mul,List.drop_zero,aO (by omega)];exact hRn
theorem nK{k:Nat}{L:List Rp}{w:World}{F:Nat→Prop}{v:Value}(h:(rS k L).ok w F [v]):∃a n c,v=.slice a n c:=by
 obtain⟨a',n',c',e,_⟩:=h;injection e with e _;exact⟨a',n',c',e⟩
theorem uN{k:Nat}{L:List Rp}{w:World}{F:Nat→Prop}{a:Option Addr}{n c i:Nat}(h:(rS k L).ok w F [.slice a n c])(hk:0<k)(hi:i<n){R:Rp}(hR:L[i]? =some R):
 ∃b o ds,a=some ⟨b,o,none⟩∧F b∧b<w.heap.size∧R.ok w F ds∧ds.length=k∧∀j u,ds[j]? =some u→w.cell? ⟨b,o+(i*k+j),none⟩=some u:=by
 obtain⟨a',n',c',e,h1,h2,h3,h4,cs,h5,h6,h7⟩:=h;obtain⟨⟨rfl,rfl,rfl⟩,-⟩:(a=a'∧n=n'∧c=c')∧True:=by injection e with e _;injection e with e1 e2 e3;exact⟨⟨e1,e2,e3⟩,trivial⟩
 have hik:i*k+k≤n*k:=by
  have:=Nat.mul_le_mul_right k (show i+1≤n by omega)
  rwa [Nat.succ_mul] at this
 obtain⟨b,o,rfl,hF,hc⟩:=h6 (by omega);have h0:=hc 0 _ (ag (by omega));refine⟨b,o,_,rfl,hF,World.block_lt_of_cell? w _ h0,h7 i R hR,by rw[aI,List.length_drop];omega,fun j u hj=>hc _ u ?_⟩;rw[List.getElem?_take] at hj;split at hj
 ·rw[List.getElem?_drop] at hj;exact hj
 ·cases hj
theorem Jv{k:Nat}{L:List Rp}{w:World}{F:Nat→Prop}{v:Value}(h:(rS k L).ok w F [v]):∃a c,v=.slice a L.length c∧(a=none→c=0)∧L.length≤c∧c≤maxLen:=by
 obtain⟨a',n',c',e,h1,h2,h3,rfl,_⟩:=h;injection e with e _;exact⟨a',c',e,h3,h1,h2⟩
theorem dS{M:List (List Nat)}{w:World}{F:Nat→Prop}{v:Value}{n:Nat}(h:(rM M).ok w F [v])(hn:M.length=n):∃a c,v=.slice a n c∧RdM w w.heap.size a n M∧(a=none→c=0)∧n≤c∧c≤maxLen:=by
 obtain⟨a,n',c,e,h1,h2,h3,h4,cs,h5,h6,h7⟩:=(rM M).bl h;rw[aG,hn] at h4;subst h4;injection e with e _;rw[Nat.mul_one] at h5 h6;refine⟨a,c,e,⟨hn,cs,⟨h5,h6⟩,fun i l hl=> ?_⟩,h3,h1,h2⟩;have hi:i<cs.length:=by rw[h5,←hn];exact(List.getElem?_eq_some_iff.1 hl).1
 have h8:=h7 i (rB l) (by rw[List.getElem?_map,hl];rfl);rw[mN (ag hi)] at h8;obtain⟨a',c',e1,hr⟩:=gB h8 rfl;exact⟨a',c',by rw[ag hi,e1],hr⟩
theorem Ct{M:List (List Nat)}{w:World}{C:Nat}{v:Value}(h:MOwn w C v M):(rM M).ok w (Fr C) [v]:=by
 obtain⟨vs,h⟩:=h;obtain⟨a,c,rfl,r1,r2,r3,r4,r5⟩:=bV h.hd;refine⟨a,M.length,c,rfl,r2,r3,r1,by rw[aG],vs,r4,fun hn=> ?_,fun i R hR=> ?_⟩
 ·obtain⟨b,o,e1,⟨hb,_⟩,_,hc⟩:=r5 hn
  exact⟨b,o,e1,hb,hc⟩
 ·rw[List.getElem?_map] at hR
  obtain⟨l,hl,rfl⟩:=Option.map_eq_some_iff.1 hR;obtain⟨u,h1,h2⟩:=h.row i l hl;rw[mN h1];exact eY h2
def xr(a b:List Nat):List Nat:=List.zipWith (·^^^ ·) a b
theorem jE{a b:List Nat}(h:a.length=b.length):(xr a b).length=a.length:=by unfold xr;rw[List.length_zipWith];omega
theorem lI{a b:List Nat}(h:a.length=b.length)(j:Nat):(xr a b).getD j 0=a.getD j 0 ^^^ b.getD j 0:=by
 unfold xr;rw[af,af,af,List.getElem?_zipWith];rcases Nat.lt_or_ge j a.length with h1 | h1
 ·rw[ag h1,ag (by omega)];rfl
 ·rw[List.getElem?_eq_none h1,List.getElem?_eq_none (by omega)];rfl
theorem xr_lt{a b:List Nat}(ha:∀x∈a,x<256)(hb:∀x∈b,x<256):∀x∈xr a b,x<256:=by
 intro x hx;obtain⟨i,hi,rfl⟩:=List.getElem_of_mem hx;unfold xr at hi ⊢;rw[List.length_zipWith] at hi;rw[List.getElem_zipWith];exact Nat.xor_lt_two_pow (n:=8) (ha _ (aU _)) (hb _ (aU _))
theorem iN{a b:List Nat}(h:a.length=b.length)(hg:∀j,a.getD j 0=b.getD j 0):a=b:=by
 refine List.ext_getElem h fun i h1 h2=> ?_;have e:=hg i;rw[af,af,ag h1,ag h2] at e;exact e
def sX(m:Nat→Nat→Nat)(j:Nat):List Nat→Nat | []=>0 | c :: l=>m c j ^^^ sX m j l
theorem qE(m:Nat→Nat→Nat)(j:Nat)(p:Nat→Bool)(l:List Nat):sX m j l=sX m j (l.filter p) ^^^ sX m j (l.filter fun c=> !p c):=by
 induction l with
 | nil=>simp[sX]
 | cons c l ih=>
   rw[List.filter_cons,List.filter_cons];cases hp:p c with
   | true=>
     simp only[Bool.not_true,Bool.false_eq_true,if_true,if_false];show m c j ^^^ sX m j l=(m c j ^^^ _) ^^^ _;rw[Nat.xor_assoc,←ih]
   | false=>
     simp only[Bool.not_false,Bool.false_eq_true,if_true,if_false];show m c j ^^^ sX m j l=_ ^^^ (m c j ^^^ _);rw[←Nat.xor_assoc,Nat.xor_comm _ (m c j),Nat.xor_assoc,←ih]
theorem lJ{m m':Nat→Nat→Nat}{j:Nat}:∀ {l:List Nat},(∀c∈l,m c j=m' c j)→sX m j l=sX m' j l:=by
 intro l
 induction l with
 | nil=>intro _;rfl
 | cons c l ih=>
   intro h;show m c j ^^^ sX m j l=m' c j ^^^ sX m' j l;rw[h c (by simp),ih fun d hd=>h d (by simp[hd])]
theorem IP{m:Nat→Nat→Nat}{j:Nat}{l:List Nat}{c:Nat}(hc:c∈l)(hn:l.Nodup):sX m j l=m c j ^^^ sX m j (l.filter fun d=> !(d == c)):=by
 rw[qE m j (fun d=>d == c) l];congr 1
 have:l.filter (fun d=>d == c)=[c]:=by
  rw[List.filter_beq,hn.count,if_pos hc];rfl
 rw[this];show m c j ^^^ 0=m c j;exact Nat.xor_zero _
def bz(m:Nat→List Nat)(cols:List Nat)(z:List Nat):List Nat:=cols.foldl (fun acc c=>xr acc (m c)) z
theorem eB{m:Nat→List Nat}{Z:Nat}:∀ {cols:List Nat} {z:List Nat},z.length=Z→(∀c∈cols,(m c).length=Z)→(bz m cols z).length=Z:=by
 intro cols
 induction cols with
 | nil=>intro z h _;exact h
 | cons c cols ih=>
   intro z h hm;exact ih (by rw[jE (by rw[h,hm c (by simp)])];exact h) fun d hd=>hm d (by simp[hd])
theorem iX{m:Nat→List Nat}{Z:Nat}(j:Nat):∀ {cols:List Nat} {z:List Nat},z.length=Z→(∀c∈cols,(m c).length=Z)→(bz m cols z).getD j 0=z.getD j 0 ^^^ sX (fun c j=>(m c).getD j 0) j cols:=by
 intro cols
 induction cols with
 | nil=>intro z h _;exact(Nat.xor_zero _).symm
 | cons c cols ih=>
   intro z h hm;have h1:z.length=(m c).length:=(by rw[h,hm c (by simp)]);show(bz m cols (xr z (m c))).getD j 0=_;rw[ih (by rw[jE h1];exact h) fun d hd=>hm d (by simp[hd]),lI h1,Nat.xor_assoc];rfl
theorem IQ{m v:Nat→List Nat}{Z:Nat}{cols:List Nat}{d:List Nat}(p:Nat→Bool)(hm:∀c∈cols,(m c).length=Z)(hv:∀c∈cols,p c=true→v c=m c)(hd:d=bz m cols (List.replicate Z 0)):
 bz v (cols.filter p) d=bz m (cols.filter fun c=> !p c) (List.replicate Z 0):=by
 have hz:(List.replicate Z 0:List Nat).length=Z:=aN;have hdl:d.length=Z:=by rw[hd];exact eB hz hm
 have hv2:∀c∈cols.filter p,(v c).length=Z:=fun c hc=>by
  obtain⟨h1,h2⟩:=List.mem_filter.1 hc;rw[hv c h1 h2];exact hm c h1
 have hm2:∀c∈cols.filter (fun c=> !p c),(m c).length=Z:=fun c hc=>hm c (List.mem_filter.1 hc).1;refine iN (by rw[eB hdl hv2,eB hz hm2]) fun j=> ?_;rw[iX j hdl hv2,iX j hz hm2,hd,iX j hz hm,qE (fun c j=>(m c).getD j 0) j p cols]
 have e:sX (fun c j=>(v c).getD j 0) j (cols.filter p)=sX (fun c j=>(m c).getD j 0) j (cols.filter p):=lJ fun c hc=>by
  obtain⟨h1,h2⟩:=List.mem_filter.1 hc;show(v c).getD j 0=(m c).getD j 0;rw[hv c h1 h2]
 rw[e,Nat.xor_assoc,Nat.xor_comm (sX _ j (cols.filter p)),Nat.xor_assoc,Nat.xor_self,Nat.xor_zero]
def ij(c:Nat)(xs ys:List Nat)(k:Nat):List Nat:=(kx c xs ys).take k++ys.drop k
theorem pU{c:Nat}{xs ys:List Nat}(h:xs.length=ys.length){k:Nat}(hk:k≤ys.length):(ij c xs ys k).length=ys.length:=by
 unfold ij;rw[aJ,aI,List.length_drop,fA h];omega
theorem mQ{c:Nat}{xs ys:List Nat}(h:xs.length=ys.length):ij c xs ys ys.length=kx c xs ys:=by
 unfold ij;rw[List.drop_length,List.append_nil,aO (by rw[fA h];exact ah _)]
theorem pV{c:Nat}{xs ys:List Nat}(h:xs.length=ys.length){k:Nat}(hk:k<ys.length):(ij c xs ys k).getD k 0=ys.getD k 0:=by
 unfold ij;rw[af,List.getElem?_append_right (by rw[aI,fA h];omega),aI,fA h,Nat.min_eq_left (by omega),Nat.sub_self,List.getElem?_drop,Nat.add_zero,af]
theorem pW{c:Nat}{xs ys:List Nat}(h:xs.length=ys.length){k:Nat}(hk:k<ys.length):(ij c xs ys k).set k (ys.getD k 0 ^^^ fm c (xs.getD k 0))=ij c xs ys (k+1):=by
 have hax:k<(kx c xs ys).length:=by rw[fA h];exact hk
 rw[←jY h k];unfold ij;rw[List.set_append_right _ _ (by rw[aI];omega),aI,Nat.min_eq_left (by omega),Nat.sub_self];rw[aP hax,List.append_assoc,List.singleton_append];congr 1;rw[List.drop_eq_getElem_cons hk,List.set_cons_zero,af,ag hax];rfl
theorem OwnB.form{w:World}{C:Nat}{v:Value}{l:List Nat}(h:OwnB w C v l)(h0:0<l.length):∃g cap,v=.slice (some ⟨g,0,none⟩) l.length cap∧C≤g∧g<w.heap.size:=World.ownsRow.form h h0
theorem OwnB.cell{w:World}{C g n c:Nat}{l:List Nat}(h:OwnB w C (.slice (some ⟨g,0,none⟩) n c) l)(hl:l.length=n){k:Nat}(hk:k<n):w.cell? ⟨g,k,none⟩=some (.int .u8 (l.getD k 0:Nat))∧w.frozen? ⟨g,k,none⟩=false:=by
 unfold OwnB at h;rw[hl] at h;exact⟨(h.cellAt k (by omega)).trans (dz (by omega)),h.frozenAt k⟩
theorem uS(l:List Nat)(k x:Nat):(ba l).set k (.int .u8 (x:Nat))=ba (l.set k x):=by
 unfold ba;rw[List.map_set]
theorem OwnB.stored{w:World}{C g n c:Nat}{l:List Nat}(h:OwnB w C (.slice (some ⟨g,0,none⟩) n c) l)(hl:l.length=n)(k x:Nat):
 OwnB (w.setCell ⟨g,k,none⟩ (.int .u8 (x:Nat))) C (.slice (some ⟨g,0,none⟩) n c) (l.set k x)∧w.grownBy (w.setCell ⟨g,k,none⟩ (.int .u8 (x:Nat))) (some g):=by
 unfold OwnB at h ⊢;rw[hl] at h;rw[List.length_set,hl,←uS];exact h.stored k _
theorem grownBy_refl(w:World)(r:Option Nat):w.grownBy w r:=⟨rfl,rfl,rfl,ah _,fun _ _ _=>rfl⟩
theorem grownBy_trans{a b c:World}{r:Option Nat}(h:a.grownBy b r)(k:b.grownBy c r):a.grownBy c r:=
 ⟨k.os.trans h.os,k.tape.trans h.tape,k.output.trans h.output,aQ h.size k.size,fun i hi hr=>(k.block i (aY hi h.size) hr).trans (h.block i hi hr)⟩
theorem iP{a b:World}{r:Option Nat}(h:a.grownBy b r)(j:Nat):a.grownBy (b.drewN j) r:=⟨h.os,h.tape,h.output,h.size,h.block⟩
theorem Blk.ne{w:World}{g g':Nat}{t t':TypeId}{cs cs':Array Value}(h:Blk w g t cs)(h':Blk w g' t' cs')(hne:t≠t'):g≠g':=by
 intro e;subst e;have:=h.symm.trans h';injection this with this;injection this with _ ht;exact hne ht
theorem LD{w:World}{C g gf n c:Nat}{l:List Nat}(h:OwnB w C (.slice (some ⟨g,0,none⟩) n c) l)(hF:Fld w gf):gf≠g:=by
 rcases h.2 with⟨h1,_⟩ | ⟨g',cap,cur,h1,_,hb,_⟩
 ·simp at h1
 ·injection h1 with h1
  injection h1 with h1;injection h1 with h1;subst h1;exact Blk.ne (t:=119) (t':=5) hF hb (by decide)
theorem LG(gf c:Nat)(xs ys:List Nat)(a:Option Addr)(n ca C:Nat)(u:Value)(w:World)(hF:Fld w gf)(hc:c<256)(hx:∀w',w.grownBy w' u.ownBlock→Rd w' w'.heap.size a n (ba xs))(hu:OwnB w C u ys)(hly:ys.length=n)(hbx:By xs)(hby:By ys)(hn:n≤1000000):
 Calls prog 130 #[.pointer (some ⟨gf,0,none⟩),.int .u8 c,.slice a n ca,u] w fun e w'=>e=.returned (.tuple #[])∧OwnB w' C u (kx c xs ys)∧w.grownBy w' u.ownBlock:=by
 have hlx:xs.length=n:=by have:=(hx w (grownBy_refl _ _)).len;rwa [bg] at this
 by_cases hc0:c=0
 ·subst hc0
  rw[z8 (by omega)];clear hx hbx hby hlx hly;have HU:=ae hu;clear hu;go_enter func130,ntmps130;go_wp2_with fail
  (try simp only[Exit.inBlock,Exit.then]);refine bodyPost_ret (results_none rfl _ _ _) rfl ?_
  exact⟨rfl,HU.out,grownBy_refl _ _⟩
 ·have hcz:((c:Int) == 0)=false:=by simpa using hc0
  have HX:=ae hx;have HBX:=ae hbx;have HBY:=ae hby;have HLX:=ae hlx;have HLY:=ae hly;have HU:Hid (OwnB w C u (ij c xs ys 0)):=ae hu;have HF:=ae hF;clear hx hbx hby hlx hly hu hF;go_enter func130,ntmps130;go_wp2_with fail;go_loopw [8,9,14] (fun _ _ i wr=>∃k:Nat,k≤n∧i=.int .i64 k∧Hid (OwnB wr C u (ij c xs ys k))∧Hid (Fld wr gf)∧Hid (w.grownBy wr u.ownBlock)) (fun _ _ i _=>n-(intOf i).toNat)
  case atStart=>exact⟨0,by omega,rfl,HU,HF,ae (grownBy_refl _ _)⟩
  case round=>
   clear HU HF;obtain⟨k,hk,rfl,HU,HF,HG⟩:=hrel;by_cases hlt:k<n
   ·have hx1:=HX.out wr HG.out
    obtain⟨bx,ox,rfl,hbx,hcx⟩:=hx1.atB hlt;have cx:=hcx k hlt;have hml:(ij c xs ys k).length=n:=(by rw[pU (by rw[HLX.out,HLY.out]) (by rw[HLY.out];omega)];exact HLY.out);obtain⟨g,cap,rfl,hgC,hgs⟩:=HU.out.form (by omega);rw[hml] at HU HG HX ⊢;obtain⟨cy,fy⟩:=HU.out.cell hml hlt;rw[pV (by rw[HLX.out,HLY.out]) (by rw[HLY.out];exact hlt)] at cy;have hst:=HU.out.stored hml k (ys.getD k 0 ^^^ fm c (xs.getD k 0));rw[pW (by rw[HLX.out,HLY.out]) (by rw[HLY.out];exact hlt)] at hst;have hxb:=getD_lt HBX.out k;have hyb:=getD_lt HBY.out k;have hgf:=LD HU.out HF.out;have hml2:=hml;have HGF:=ae hgf;clear hx1 hcx hml hgf;generalize xs.getD k 0=x at*;generalize ys.getD k 0=y at*;have CM:=ae (uu gf c x hc hxb wr.drew (Blk.drew HF.out));have hz:=fU c x;generalize fm c x=z at*;have e1:=u8_xor_nat y z hyb hz;generalize y ^^^ z=q at*;have HST:=ae hst;clear hst;have hlt':(k:Int)<(n:Int):=(by omega);go_wp2_with fail
    go_region_with ((go_at_call 152;refine CM.out.mono ?_;rintro e w3 ⟨rfl,j,rfl⟩))
    all_goals(
     have HU2:Hid (OwnB ((wr.drewN (1+j)).setCell ⟨g,k,none⟩ (.int .u8 (q:Nat))) C (.slice (some ⟨g,0,none⟩) n cap) (ij c xs ys (k+1))):=ae HST.out.1;have HG2:Hid (w.grownBy ((wr.drewN (1+j)).setCell ⟨g,k,none⟩ (.int .u8 (q:Nat))) (Value.slice (some ⟨g,0,none⟩) n cap).ownBlock):=ae (grownBy_trans HG.out (grownBy_trans (iP (grownBy_refl _ _) (1+j)) ((OwnB.stored (HU.out.drewN (1+j)) hml2 k q).2)));have HF2:Hid (Fld ((wr.drewN (1+j)).setCell ⟨g,k,none⟩ (.int .u8 (q:Nat))) gf):=ae (Blk.far (w:=wr.drewN (1+j)) HF.out HGF.out _);clear HST HU HG HF CM cx cy fy;generalize (wr.drewN (1+j)).setCell ⟨g,k,none⟩ (.int .u8 (q:Nat))=w4 at*;go_wp2_with fail;go_roundw
     case rel=>(try((repeat apply Exists.intro);refine⟨?_,rfl⟩));exact⟨k+1,by omega,by go_num,HU2,HF2,HG2⟩
     case measure=>simp[intOf];omega)
   ·obtain rfl:k=n:=by omega
    have hf:ij c xs ys k=kx c xs ys:=(by rw[←HLY.out];exact mQ (by rw[HLX.out,HLY.out]));rw[hf] at HU;go_wp2_with fail
    go_end0
    exact⟨rfl,HU.out,HG.out⟩
def cE(J:Nat→Act→World→Prop)(Q:Exit→Act→World→Prop):Exit→Act→World→Prop
 | .goto l',a,w=>J l' a w
 | e,a,w=>Q e a w
theorem iL{P:Program}{Q:Exit→Act→World→Prop}{c:Code}{a:Act}{w:World}(J:Nat→Nat→Act→World→Prop)
 (first:c.wp P (cE (fun l a w=>∃n,J l n a w) Q) a w)
 (pass:∀l n a w,J l n a w→∃rest,findLabel c l=some rest∧rest.wp P (cE (fun l' a' w'=>∃n',n'<n∧J l' n' a' w') Q) a w):(Code.scope c).wp P Q a w:=by
 intro b k cs;have hg:∀l rest,findLabel c l=some rest→gotoIn l (.inScope c :: k)=some (.code rest :: .inScope c :: k):=fun l rest hf=>by simp[gotoIn,hf]
 have key:∀n l a w rest,J l n a w→findLabel c l=some rest→∃e a' w',Q e a' w'∧Arrives P (lone (b.at a (.code rest :: .inScope c :: k)) cs w) b k cs e a' w':=by
  intro n
  induction n using Nat.strongRecOn with
  | _ n ih=>
    intro l a w rest hJ hf;obtain⟨rest',hf',hw⟩:=pass l n a w hJ;obtain rfl:rest=rest':=(by rw[hf] at hf';exact Option.some.inj hf');obtain⟨e,a₁,w₁,hq,harr⟩:=hw b (.inScope c :: k) cs;cases e with
    | normal=>exact⟨.normal,a₁,w₁,hq,Steps.trans harr (.one step_inScope)⟩
    | exit id=>exact⟨.exit id,a₁,w₁,hq,fun k' hk=>harr k' (by simp[exitTo,hk])⟩
    | goto l'=>
      obtain⟨n',hlt,hJ'⟩:=hq;obtain⟨rest2,hf2,_⟩:=pass l' n' a₁ w₁ hJ';obtain⟨e₂,a₂,w₂,hq₂,harr₂⟩:=ih n' hlt l' a₁ w₁ rest2 hJ' hf2;exact⟨e₂,a₂,w₂,hq₂,.of_steps (harr _ (hg l' rest2 hf2)) harr₂⟩
    | ret=>exact⟨_,a₁,w₁,hq,harr⟩
    | panic ch=>exact⟨_,a₁,w₁,hq,harr⟩
    | outgrown=>exact⟨_,a₁,w₁,hq,harr⟩
 obtain⟨e,a₁,w₁,hq,harr⟩:=first b (.inScope c :: k) cs
 cases e with
 | normal=>exact⟨.normal,a₁,w₁,hq,.head step_scope (Steps.trans harr (.one step_inScope))⟩
 | exit id=>exact⟨.exit id,a₁,w₁,hq,fun k' hk=>.head step_scope (harr k' (by simp[exitTo,hk]))⟩
 | goto l'=>
   obtain⟨n',hJ'⟩:=hq;obtain⟨rest2,hf2,_⟩:=pass l' n' a₁ w₁ hJ';obtain⟨e₂,a₂,w₂,hq₂,harr₂⟩:=key n' l' a₁ w₁ rest2 hJ' hf2;exact⟨e₂,a₂,w₂,hq₂,.of_steps (.head step_scope (harr _ (hg l' rest2 hf2))) harr₂⟩
 | ret=>exact⟨_,a₁,w₁,hq,.of_steps (.one step_scope) harr⟩
 | panic ch=>exact⟨_,a₁,w₁,hq,.of_steps (.one step_scope) harr⟩
 | outgrown=>exact⟨_,a₁,w₁,hq,.of_steps (.one step_scope) harr⟩
theorem Ar{P:Program}{Q:Exit→Act→World→Prop}{a:Act}{w:World}{pre rest:Code}(l m:Nat)(hlm:l≠m)(J:Nat→Act→World→Prop)(K:Act→World→Prop)(n₀:Nat)(rest2:Code)
 (hf:findLabel (pre.seq ((Code.label l).seq rest)) l=some (Code.skip.seq rest))
 (hf2:findLabel (pre.seq ((Code.label l).seq rest)) m=some (Code.skip.seq rest2))
 (first:pre.wp P (Exit.then (J n₀) (cE (fun _ _ _=>False) Q)) a w)
 (pass:∀n a w,J n a w→rest.wp P (cE (fun l' a' w'=>(l'=l∧∃n',n'<n∧J n' a' w')∨(l'=m∧K a' w')) Q) a w)
 (out:∀a w,K a w→rest2.wp P (cE (fun _ _ _=>False) Q) a w):(Code.scope (pre.seq ((Code.label l).seq rest))).wp P Q a w:=by
 have weak:∀n (e:Exit) (a':Act) (w':World),cE (fun l' a' w'=>(l'=l∧∃n',n'<n∧J n' a' w')∨(l'=m∧K a' w')) Q e a' w'→cE (fun l' a' w'=>∃n',n'<n+1∧((l'=l∧∃k,n'=k+1∧J k a' w')∨(l'=m∧n'=0∧K a' w'))) Q e a' w':=by
  intro n e a' w' hq;cases e with
  | goto l'=>
    rcases hq with⟨h1,n',h2,h3⟩ | ⟨h1,h2⟩
    ·exact⟨n'+1,by omega,.inl ⟨h1,n',rfl,h3⟩⟩
    ·exact⟨0,by omega,.inr ⟨h1,rfl,h2⟩⟩
  | normal=>exact hq
  | exit id=>exact hq
  | ret=>exact hq
  | panic ch=>exact hq
  | outgrown=>exact hq
 refine iL (fun l' n a w=>(l'=l∧∃k,n=k+1∧J k a w)∨(l'=m∧n=0∧K a w)) ?_ ?_
 ·refine wp_seq (wp_mono first ?_)
  intro e a' w' hq;cases e with
  | normal=>
    refine wp_seq (wp_label ?_);refine wp_mono (pass n₀ a' w' hq) ?_;intro e a' w' hq;have:=weak _ e a' w' hq;cases e with
    | goto l'=>obtain⟨n',_,h⟩:=this;exact⟨n',h⟩
    | normal=>exact hq
    | exit id=>exact hq
    | ret=>exact hq
    | panic ch=>exact hq
    | outgrown=>exact hq
  | goto l'=>exact hq.elim
  | exit id=>exact hq
  | ret=>exact hq
  | panic ch=>exact hq
  | outgrown=>exact hq
 ·intro l' n a w hJ
  rcases hJ with⟨rfl,k,rfl,hJ⟩ | ⟨rfl,rfl,hK⟩
  ·exact⟨_,hf,wp_seq (wp_skip (wp_mono (pass k a w hJ) (weak k)))⟩
  ·refine⟨_,hf2,wp_seq (wp_skip (wp_mono (out a w hK) ?_))⟩
   intro e a' w' hq;cases e with
   | goto l'=>exact hq.elim
   | normal=>exact hq
   | exit id=>exact hq
   | ret=>exact hq
   | panic ch=>exact hq
   | outgrown=>exact hq
def fZ(M:List (List Nat))(col i k:Nat):Int:=match lw M col i k with | some p=>(p:Int) | none=> -1
theorem mR(M:List (List Nat))(col i:Nat):fZ M col i 0= -1:=rfl
theorem pX{M:List (List Nat)}{col i k:Nat}(h:gt M i col≠0):fZ M col i (k+1)=i:=by unfold fZ;rw[lw,if_pos h]
theorem mS{M:List (List Nat)}{col i k:Nat}(h:gt M i col=0):fZ M col i (k+1)=fZ M col (i+1) k:=by unfold fZ;rw[lw,if_neg (fun h2=>h2 h)]
theorem Ee{a b:Int}(h:a=b):Ending.returned (.int .i64 a)=.returned (.int .i64 b):=by rw[h]
theorem Cu(n m top col:Nat)(M:List (List Nat))(B:Nat)(a:Option Addr)(c:Nat)(w:World)(h:RdM w B a m M)(hW:Wf n M)(hcol:col<n)(ht:top≤m)(hm:m≤1000000)(hn:n≤1000000):
 Calls prog 127 #[.slice a m c,.int .i64 top,.int .i64 col] w fun e w'=>e=.returned (.int .i64 (fZ M col top (m-top)))∧w=w':=by
 have H:=ae h;have HW:=ae hW;clear h hW;go_enter func127,ntmps127;go_wp2_with fail
 refine Ar 0 1 (by decide) (fun x a' w'=>∃(i:Nat) (u8 u9 u10 u11 u12 u13 u14 u15 u16 u17 u18 u19 u20 u21 u22 u23:Value),(i≤m∧m-i<x∧Hid (fZ M col i (m-i)=fZ M col top (m-top))∧w=w')∧
  a'= { tmps:=#[.slice a m c,.int .i64 top,.int .i64 col,undef,undef,undef,.int .i64 0,.int .i64 i,u8,u9,u10,u11,u12,u13,u14,u15,u16,u17,u18,u19,u20,u21,u22,u23],defers:=[] }) (fun a' w'=>∃(i:Nat) (u8 u9 u10 u11 u12 u13 u14 u15 u16 u17 u18 u19 u20 u21 u22 u23:Value),(Hid ((i:Int)=fZ M col top (m-top))∧w=w')∧
  a'= { tmps:=#[.slice a m c,.int .i64 top,.int .i64 col,undef,undef,undef,.int .i64 0,.int .i64 i,u8,u9,u10,u11,u12,u13,u14,u15,u16,u17,u18,u19,u20,u21,u22,u23],defers:=[] }) (m-top+1) _ rfl rfl ?_ ?_ ?_
 ·go_wp2_with fail
  exact⟨top,_,_,_,_,_,_,_,_,_,_,_,_,_,_,_,_,⟨ht,by omega,ae rfl,by first | rfl | trivial⟩,rfl⟩
 ·rintro x a' w' ⟨i,u8,u9,u10,u11,u12,u13,u14,u15,u16,u17,u18,u19,u20,u21,u22,u23,⟨hi,hx,HR,rfl⟩,rfl⟩
  by_cases hlt:i<m
  ·obtain⟨b,o,a',c',rfl,hb,hcell,hrd,_⟩:=H.out.at hlt
   have hl:=(HW.out.get (i:=i) (by rw[H.out.len];exact hlt)).1;rw[hl] at hcell hrd;obtain⟨bx,ox,rfl,hbx,hcx⟩:=hrd.atB hcol;have cx:=hcx col hcol;have hmi:m-i=(m-(i+1))+1:=(by omega);have hgt:(M.getD i []).getD col 0=gt M i col:=rfl;rw[hgt] at cx;have hlt':(i:Int)<(m:Int):=(by omega);have hlt2:(col:Int)<(n:Int):=(by omega);by_cases h0:gt M i col=0
   ·have HR2:Hid (fZ M col (i+1) (m-(i+1))=fZ M col top (m-top)):=ae (by rw[←HR.out,hmi,mS h0])
    rw[h0] at cx;clear hcx hrd hl hmi hgt h0 HR;obtain⟨y,rfl⟩:∃y,x=y+1:=⟨x-1,by omega⟩;go_wp2_with fail;go_step3;exact .inl ⟨rfl,y,by omega,i+1,_,_,_,_,_,_,_,_,_,_,_,_,_,_,_,_,⟨by omega,by omega,HR2,by first | rfl | trivial⟩,by rfl⟩
   ·have HR2:Hid ((i:Int)=fZ M col top (m-top)):=ae (by rw[←HR.out,hmi,pX h0])
    generalize gt M i col=q at*;have hq:((q:Int) != 0)=true:=(by simp;omega);clear hcx hrd hl hmi hgt HR;go_wp2_with fail;go_step3;exact .inr ⟨rfl,i,_,_,_,_,_,_,_,_,_,_,_,_,_,_,_,_,⟨HR2,by first | rfl | trivial⟩,by rfl⟩
  ·obtain rfl:i=m:=by omega
   have HR2:Hid ((-1:Int)=fZ M col top (i-top)):=ae (by rw[←HR.out,Nat.sub_self,mR]);go_wp2_with fail;simp only[cE];go_ret;exact⟨Ee HR2.out,rfl⟩
 ·rintro a' w' ⟨i,u8,u9,u10,u11,u12,u13,u14,u15,u16,u17,u18,u19,u20,u21,u22,u23,⟨HR,rfl⟩,rfl⟩
  go_wp2_with fail;simp only[cE];go_ret;exact⟨Ee HR.out,rfl⟩
end Go.Proofs.YtofgapdnadbgkaaGreatDoor
