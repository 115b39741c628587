import Derived.Test.YtgccllbnfngpcaaGreatDoorW3
import Derived.Deep.DeepCutAuto
set_option linter.unusedVariables false
set_option maxRecDepth 100000
set_option maxHeartbeats 400000000
namespace Go.Proofs.YtgccllbnfngpcaaGreatDoor
open Go.RowKit _root_.Go.Proofs.Tryz List
open Value (int slice pointer bool)
open IntKind (i64)
open Ending (returned)
open Obj (cells)
structure Rp where
 sz:Nat
 ok:World->(Nat->Prop)->List Value->Prop
 len:∀ {w:World} {F:Nat->Prop} {vs:List Value},ok w F vs->vs.length=sz
 one:∀ {w:World} {F:Nat->Prop} {vs:List Value},ok w F vs->∀u∈vs,u.oneCell'=true
 keep:∀ {w w':World} {F G:Nat->Prop} {vs:List Value},ok w F vs->(∀k,F k->k<w.heap.size->w'.heap[k]? =w.heap[k]? /\G k)->ok w' G vs
def Fr(C:Nat):Nat->Prop:=fun b=>C<=b
def Bl(B:Nat):Nat->Prop:=fun b=>b<B
def Any:Nat->Prop:=fun _=>True
theorem Rp.more(R:Rp){w:World}{F G:Nat->Prop}{vs:List Value}(h:R.ok w F vs)(hg:∀k,F k->k<w.heap.size->G k):R.ok w G vs:=R.keep h fun k hF hk=>⟨rfl,hg k hF hk⟩
theorem Rp.any(R:Rp){w:World}{F:Nat->Prop}{vs:List Value}(h:R.ok w F vs):R.ok w Any vs:=R.more h fun _ _ _=>trivial
theorem Rp.bl(R:Rp){w:World}{F:Nat->Prop}{vs:List Value}(h:R.ok w F vs):R.ok w (Bl w.heap.size) vs:=R.more h fun _ _ hk=>hk
theorem Rp.new(R:Rp){w w':World}{F:Nat->Prop}{vs:List Value}(h:R.ok w F vs)(hb:Below w.heap.size w w'):R.ok w' F vs:=R.keep h fun k hF hk=>⟨hb.block k hk,hF⟩
def eR(F:Nat->Prop)(v:Value)(R:Rp):wR:=⟨fun w=>R.ok w F [v],fun _ _ h hb=>R.new h hb⟩
theorem Sx.rep{w0 w:World}{L:List wR}(h:Sx w0 w L)(i:Nat){F:Nat->Prop}{v:Value}{R:Rp}(hi:L[i]? =some (eR F v R)):R.ok w F [v]:=h.get i hi
def rVs(us:List Value):Rp where
 sz:=us.length
 ok:=fun _ _ vs=>vs=us/\∀u∈us,u.oneCell'=true
 len:=fun h=>by rw[h.1]
 one:=fun h=>by rw[h.1];exact h.2
 keep:=fun h _=>h
def rV(u:Value):Rp:=rVs [u]
theorem xy{w w':World}{b o:Nat}{u:Value}(h:w.cell? ⟨b,o,none⟩=some u)(hk:b<w.heap.size->w'.heap[b]? =w.heap[b]?):w'.cell? ⟨b,o,none⟩=some u:=
 (World.cell?_of_block (w:=w) (a:=⟨b,o,none⟩) (hk (World.block_lt_of_cell? w _ h))).trans h
def rC(cs:List Value):Rp where
 sz:=1
 ok:=fun w F vs=>∃a n c,vs=[slice a n c]/\n<=c/\c<=maxLen/\(a=none->c=0)/\cs.length=n/\(0<n->∃b o,a=some ⟨b,o,none⟩/\F b/\∀i u,cs[i]? =some u->w.cell? ⟨b,o+i,none⟩=some u)
 len:=fun h=>by obtain⟨a,n,c,rfl,_⟩:=h;rfl
 one:=fun h=>by obtain⟨a,n,c,rfl,_⟩:=h;intro u hu;rw[mem_singleton.1 hu];rfl
 keep:=fun {w w' F G vs} h hk=>by
  obtain⟨a,n,c,rfl,h1,h2,h3,h4,h5⟩:=h;refine⟨a,n,c,rfl,h1,h2,h3,h4,fun hn=> ?_⟩;obtain⟨b,o,rfl,hF,hc⟩:=h5 hn;have h0:=hc 0 _ (ag (by omega));have hlt:=World.block_lt_of_cell? w _ h0;exact⟨b,o,rfl,(hk b hF hlt).2,fun i u hu=>xy (hc i u hu) fun _=>(hk b hF hlt).1⟩
def rB(l:List Nat):Rp:=rC (bF l)
def rS(k:Nat)(L:List Rp):Rp where
 sz:=1
 ok:=fun w F vs=>∃a n c,vs=[slice a n c]/\n<=c/\c<=maxLen/\(a=none->c=0)/\L.length=n/\∃cs:List Value,cs.length=n*k/\
  (0<n*k->∃b o,a=some ⟨b,o,none⟩/\F b/\∀i u,cs[i]? =some u->w.cell? ⟨b,o+i,none⟩=some u)/\∀(i:Nat) R,L[i]? =some R->R.ok w F ((cs.drop (i*k)).take k)
 len:=fun h=>by obtain⟨a,n,c,rfl,_⟩:=h;rfl
 one:=fun h=>by obtain⟨a,n,c,rfl,_⟩:=h;intro u hu;rw[mem_singleton.1 hu];rfl
 keep:=fun {w w' F G vs} h hk=>by
  obtain⟨a,n,c,rfl,h1,h2,h3,h4,cs,h5,h6,h7⟩:=h;refine⟨a,n,c,rfl,h1,h2,h3,h4,cs,h5,fun hn=> ?_,fun i R hR=>R.keep (h7 i R hR) hk⟩;obtain⟨b,o,rfl,hF,hc⟩:=h6 hn;have h0:=hc 0 _ (ag (by omega));have hlt:=World.block_lt_of_cell? w _ h0;exact⟨b,o,rfl,(hk b hF hlt).2,fun i u hu=>xy (hc i u hu) fun _=>(hk b hF hlt).1⟩
def rM(M:List (List Nat)):Rp:=rS 1 (M.map rB)
def rP(A B:Rp):Rp where
 sz:=A.sz+B.sz
 ok:=fun w F vs=>∃x y,vs=x++y/\A.ok w F x/\B.ok w F y
 len:=fun h=>by obtain⟨x,y,rfl,h1,h2⟩:=h;rw[aH,A.len h1,B.len h2]
 one:=fun h=>by
  obtain⟨x,y,rfl,h1,h2⟩:=h;intro u hu;rcases bz.1 hu with h | h
  ·exact A.one h1 u h
  ·exact B.one h2 u h
 keep:=fun h hk=>by obtain⟨x,y,rfl,h1,h2⟩:=h;exact⟨x,y,rfl,A.keep h1 hk,B.keep h2 hk⟩
theorem yR{w:World}{F:Nat->Prop}{us:List Value}(h:∀u∈us,u.oneCell'=true):(rVs us).ok w F us:=⟨rfl,h⟩
theorem rX{A B:Rp}{w:World}{F:Nat->Prop}{x y:List Value}(h1:A.ok w F x)(h2:B.ok w F y):(rP A B).ok w F (x++y):=⟨x,y,rfl,h1,h2⟩
theorem uW{u:Value}{w:World}{F:Nat->Prop}(h:u.oneCell'=true):(rV u).ok w F [u]:=⟨rfl,fun v hv=>by rw[mem_singleton.1 hv];exact h⟩
theorem Ar{cs:List Value}{w:World}{F:Nat->Prop}{v:Value}(h:(rC cs).ok w F [v]):∃a c,v=slice a cs.length c/\Rd w w.heap.size a cs.length cs/\(a=none->c=0)/\cs.length<=c/\c<=maxLen:=by
 obtain⟨a,n,c,e,h1,h2,h3,rfl,h5⟩:=(rC cs).bl h;injection e with e _;exact⟨a,c,e,⟨rfl,h5⟩,h3,h1,h2⟩
theorem rC_of{cs:List Value}{w:World}{F:Nat->Prop}{B:Nat}{a:Option Addr}{n c:Nat}(h:Rd w B a n cs)(h1:n<=c)(h2:c<=maxLen)(h3:a=none->c=0)(hF:∀b,b<B->F b):(rC cs).ok w F [slice a n c]:=
 ⟨a,n,c,rfl,h1,h2,h3,h.1,fun hn=>by obtain⟨b,o,e,hb,hc⟩:=h.2 hn;exact⟨b,o,e,hF b hb,hc⟩⟩
theorem gP{l:List Nat}{w:World}{F:Nat->Prop}{v:Value}{n:Nat}(h:(rB l).ok w F [v])(hn:l.length=n):∃a c,v=slice a n c/\Rd w w.heap.size a n (bF l)/\(a=none->c=0)/\n<=c/\c<=maxLen:=by
 subst hn;have:=Ar h
 rwa [bI] at this
theorem dB{w:World}{C e k m:Nat}{v:Value}{xs:List Value}(h:w.ownsRow C e k v m xs):∃a c,v=slice a m c/\(a=none->c=0)/\m<=c/\c<=maxLen/\xs.length=m*k/\(0<m*k->∃b o,a=some ⟨b,o,none⟩/\(C<=b/\b<w.heap.size)/\v.ownBlock=some b/\∀i u,xs[i]? =some u->w.cell? ⟨b,o+i,none⟩=some u):=by
 have hx:=h.1;have hlt:=h.lt;have hc:=fun g hg=>h.cells (g:=g) hg;rcases h.2 with⟨rfl,rfl⟩ | ⟨g,cap,cur,rfl,h1,h2,h4,h5,_⟩
 ·exact⟨none,0,rfl,fun _=>rfl,ah _,bu _,hx,fun h=>absurd h (by omega)⟩
 ·refine⟨_,cap,rfl,fun e=>(by cases e),h4,h5,hx,fun _=>⟨g,0,rfl,hlt g rfl,rfl,fun i u hu=> ?_⟩⟩
  have:=hc g rfl i u hu;rw[Addr.add_lit] at this;exact this
theorem JY{cs:List Value}{w:World}{C e n:Nat}{v:Value}(h:w.ownsRow C e 1 v n cs):(rC cs).ok w (Fr C) [v]:=by
 obtain⟨a,c,rfl,h1,h2,h3,h4,h5⟩:=dB h;rw[Nat.mul_one] at h4 h5;refine⟨a,n,c,rfl,h2,h3,h1,h4,fun hn=> ?_⟩;obtain⟨b,o,e1,⟨hb,_⟩,_,hc⟩:=h5 hn;exact⟨b,o,e1,hb,hc⟩
theorem fL{l:List Nat}{w:World}{C:Nat}{v:Value}(h:OwnB w C v l):(rB l).ok w (Fr C) [v]:=JY h
def OwnS(w:World)(C:Nat)(e:TypeId)(k:Nat)(F:Nat->Prop)(v:Value)(L:List Rp):Prop:=
 ∃cs,w.ownsRow C e k v L.length cs/\∀(i:Nat) R,L[i]? =some R->R.ok w (fun b=>F b/\some b≠v.ownBlock) ((cs.drop (i*k)).take k)
theorem OwnS.nil(w:World)(C:Nat)(e:TypeId)(k:Nat)(F:Nat->Prop):OwnS w C e k F (slice none 0 0) []:=⟨[],World.ownsRow_nil _ _ _ _,by simp⟩
theorem lq{w w':World}{C e k n:Nat}{v:Value}{xs:List Value}(h:w.ownsRow C e k v n xs)(hb:Below w.heap.size w w'):w'.ownsRow C e k v n xs:=by
 refine⟨h.1,?_⟩;rcases h.2 with h2 | ⟨g,cap,cur,rfl,hg,hh,r⟩
 ·exact .inl h2
 ·exact .inr ⟨g,cap,cur,rfl,hg,(hb.block g (Array.getElem?_eq_some_iff.1 hh).1).trans hh,r⟩
theorem OwnS.new{w w':World}{C:Nat}{e:TypeId}{k:Nat}{F:Nat->Prop}{v:Value}{L:List Rp}(h:OwnS w C e k F v L)(hb:Below w.heap.size w w'):OwnS w' C e k F v L:=by
 obtain⟨cs,h1,h2⟩:=h;exact⟨cs,lq h1 hb,fun i R hR=>R.new (h2 i R hR) hb⟩
theorem OwnS.drewN{w:World}{C:Nat}{e:TypeId}{k:Nat}{F:Nat->Prop}{v:Value}{L:List Rp}(h:OwnS w C e k F v L)(j:Nat):OwnS (w.drewN j) C e k F v L:=h.new (below_drewN (az _ _) j)
theorem OwnS.base{w:World}{C D:Nat}{e:TypeId}{k:Nat}{F G:Nat->Prop}{v:Value}{L:List Rp}(h:OwnS w C e k F v L)(hD:D<=C)(hF:∀b,F b->G b):OwnS w D e k G v L:=by
 obtain⟨cs,⟨h0,h1⟩,h2⟩:=h;refine⟨cs,⟨h0,?_⟩,fun i R hR=>R.more (h2 i R hR) fun b hb _=>⟨hF b hb.1,hb.2⟩⟩;rcases h1 with h1 | ⟨g,cap,cur,e1,hg,r⟩
 ·exact .inl h1
 ·exact .inr ⟨g,cap,cur,e1,aO hD hg,r⟩
theorem OwnS.val{w:World}{C:Nat}{e:TypeId}{k:Nat}{F:Nat->Prop}{v:Value}{L:List Rp}(h:OwnS w C e k F v L):∃a c,v=slice a L.length c/\(a=none->c=0)/\L.length<=c/\c<=maxLen:=by
 obtain⟨cs,h1,_⟩:=h;obtain⟨a,c,e,r1,r2,r3,_⟩:=dB h1;exact⟨a,c,e,r1,r2,r3⟩
theorem OwnS.sl{w:World}{C:Nat}{e:TypeId}{k:Nat}{F:Nat->Prop}{v:Value}{L:List Rp}(h:OwnS w C e k F v L):∃a n c,v=slice a n c:=by
 obtain⟨a,c,e,_⟩:=h.val;exact⟨a,_,c,e⟩
theorem OwnS.len{w:World}{C:Nat}{e:TypeId}{k:Nat}{F:Nat->Prop}{a:Option Addr}{n c:Nat}{L:List Rp}(h:OwnS w C e k F (slice a n c) L):L.length=n/\(a=none->c=0)/\n<=c/\c<=maxLen:=by
 obtain⟨a',c',e,h1,h2,h3⟩:=h.val;injection e with e1 e2 e3;subst e1 e2 e3;exact⟨rfl,h1,h2,h3⟩
theorem OwnS.lt{w:World}{C:Nat}{e:TypeId}{k:Nat}{F:Nat->Prop}{v:Value}{L:List Rp}(h:OwnS w C e k F v L):∀b,v.ownBlock=some b->C<=b/\b<w.heap.size:=by
 obtain⟨cs,h1,_⟩:=h;exact h1.lt
theorem OwnS.rep{w:World}{C:Nat}{e:TypeId}{k:Nat}{F:Nat->Prop}{v:Value}{L:List Rp}(h:OwnS w C e k F v L):(rS k L).ok w (fun b=>F b\/C<=b) [v]:=by
 obtain⟨cs,h1,h2⟩:=h;obtain⟨a,c,rfl,r1,r2,r3,r4,r5⟩:=dB h1;refine⟨a,L.length,c,rfl,r2,r3,r1,rfl,cs,r4,fun hn=> ?_,fun i R hR=>R.more (h2 i R hR) fun b hb _=>.inl hb.1⟩;obtain⟨b,o,e1,⟨hb,_⟩,_,hc⟩:=r5 hn;exact⟨b,o,e1,.inr hb,hc⟩
theorem OwnS.fr{w:World}{C:Nat}{e:TypeId}{k:Nat}{v:Value}{L:List Rp}(h:OwnS w C e k (Fr C) v L):(rS k L).ok w (Fr C) [v]:=Rp.more _ h.rep fun b hb _=>by rcases hb with hb | hb <;> exact hb
theorem Gy{cs ds:List Value}{i k n:Nat}(hc:cs.length=n*k)(hi:i<n):((cs++ds).drop (i*k)).take k=(cs.drop (i*k)).take k:=by
 have h1:i*k+k<=n*k:=by
  have:=Nat.mul_le_mul_right k (show i+1<=n by omega)
  rwa [Nat.succ_mul] at this
 rw[drop_append_of_le_length (by omega),take_append_of_le_length (by rw[length_drop];omega)]
theorem Gz{cs ds:List Value}{i k n:Nat}(hc:cs.length=n*k):((cs++ds).drop ((n+i)*k)).take k=(ds.drop (i*k)).take k:=by
 rw[drop_append,drop_eq_nil_of_le (by rw[hc,Nat.add_mul];omega),nil_append,hc,Nat.add_mul,Nat.add_sub_cancel_left]
theorem OwnS.app{w w':World}{C:Nat}{e:TypeId}{k:Nat}{F:Nat->Prop}{v v':Value}{L N:List Rp}{cs ds:List Value}(h1:w.ownsRow C e k v L.length cs)(h2:∀(i:Nat) R,L[i]? =some R->R.ok w (fun b=>F b/\some b≠v.ownBlock) ((cs.drop (i*k)).take k))
 (h3:∀(i:Nat) R,N[i]? =some R->R.ok w (fun b=>F b/\some b≠v.ownBlock) ((ds.drop (i*k)).take k))(hown:w'.ownsRow C e k v' (L.length+N.length) (cs++ds))(hg:w.grownBy w' v.ownBlock)(hat:v'.ownBlock=v.ownBlock\/v'.ownBlock=some w.heap.size):OwnS w' C e k F v' (L++N):=by
 have hkeep:∀b,(F b/\some b≠v.ownBlock)->b<w.heap.size->w'.heap[b]? =w.heap[b]? /\(F b/\some b≠v'.ownBlock):=fun b hb hlt=>by
  refine⟨hg.block b hlt hb.2,hb.1,?_⟩;rcases hat with e1 | e1
  ·rw[e1];exact hb.2
  ·rw[e1];intro e2;injection e2 with e2;omega
 refine⟨cs++ds,by rw[aH];exact hown,fun i R hR=> ?_⟩;rw[List.getElem?_append] at hR;split at hR
 ·rename_i hi
  rw[Gy h1.1 hi];exact R.keep (h2 i R hR) hkeep
 ·rename_i hi
  have e1:i=L.length+(i-L.length):=(by omega);rw[e1,Gz h1.1];exact R.keep (h3 _ R hR) hkeep
theorem rA{cs:List Value}{i:Nat}{u:Value}(h:cs[i]? =some u):(cs.drop (i*1)).take 1=[u]:=by
 obtain⟨hi,e⟩:=List.getElem?_eq_some_iff.1 h;rw[Nat.mul_one,drop_eq_getElem_cons hi,e];rfl
theorem OwnS.off{w w1:World}{C:Nat}{e:TypeId}{k:Nat}{F G:Nat->Prop}{v:Value}{L:List Rp}(h:OwnS w C e k F v L){R:Rp}{us:List Value}(hR:R.ok w1 G us)(hG:∀b,G b->F b/\(b<C\/w.heap.size<=b)):R.ok w1 (fun b=>F b/\some b≠v.ownBlock) us:=
 R.more hR fun b hb _=>⟨(hG b hb).1,fun e1=>by have:=h.lt b e1.symm;rcases(hG b hb).2 with h5 | h5 <;> omega⟩
theorem OwnS.ty{w:World}{C:Nat}{e:TypeId}{k:Nat}{F:Nat->Prop}{v:Value}{L:List Rp}(h:OwnS w C e k F v L){b:Nat}{t:TypeId}{cs:Array Value}(hb:Blk w b t cs)(hne:t≠e):some b≠v.ownBlock:=by
 obtain⟨xs,h1,_⟩:=h;intro e1;rcases h1.2 with⟨rfl,_⟩ | ⟨g,cap,cur,rfl,_,hg,_⟩
 ·simp[Value.ownBlock] at e1
 ·simp[Value.ownBlock] at e1
  subst e1;have h2:w.heap[b]? =some (.cells cs t (0,0)):=hb;rw[hg] at h2;injection h2 with h2;injection h2 with _ h3;exact hne h3.symm
theorem lQ{w:World}{g:Nat}{l:List Nat}{F:Nat->Prop}(h:Blk w g 5 (bJ l))(hF:F g)(hl:l.length<=maxLen):(rB l).ok w F [slice (some ⟨g,0,none⟩) l.length l.length]:=by
 obtain⟨h1,h2⟩:=nk h;refine⟨_,_,_,rfl,ah _,hl,fun e=>(by cases e),bI l,fun hn=>⟨g,0,rfl,hF,?_⟩⟩;obtain⟨b,o,e,_,hc⟩:=h2 hn;injection e with e;injection e with e1 e2 _;subst e1 e2;exact hc
theorem xA{w:World}{C:Nat}{v:Value}{M:List (List Nat)}(h:MOwn w C v M):OwnS w C 30 1 (Fr C) v (M.map rB):=by
 obtain⟨vs,h⟩:=h;refine⟨vs,by rw[aC];exact h.hd,fun i R hR=> ?_⟩;rw[List.getElem?_map] at hR;obtain⟨l,hl,rfl⟩:=Option.map_eq_some_iff.1 hR;obtain⟨u,h1,h2⟩:=h.row i l hl;rw[rA h1];obtain⟨a,c,rfl,r1,r2,r3,r4,r5⟩:=dB h2;rw[Nat.mul_one] at r5;refine⟨a,l.length,c,rfl,r2,r3,r1,bI l,fun hn=> ?_⟩;obtain⟨b,o,e1,⟨hb,_⟩,hv,hc⟩:=r5 hn;refine⟨b,o,e1,⟨hb,fun e2=> ?_⟩,hc⟩;rcases h.hdrow h1 with h3 | h3
 ·rw[hv] at h3;cases h3
 ·exact h3 (hv.trans e2)
theorem fF{P:Program}{w w1:World}{ops:Array Oper}{rest:List Oper}{o:Oper}{a:Act}{Q:Exit->Act->World->Prop}(hgd:o.guard=none)(s x:Operand){T e:TypeId}{z:Value}{k bytes:Nat}
 (ho:o.op=.call { callee:=.builtin .append,args:=#[s,x],argTypes:=#[T,T] })(hT:P.underlying T=some (.slice e))(hi:(P.info? e).map (fun i=>(i.zero,i.size,i.bytes))=some (some z,k,bytes))(hzs:z.cells.size=k)(hk:0<k)(hby:bytes<=1000)
 {C:Nat}{v:Value}{L:List Rp}{F:Nat->Prop}{R:Rp}{us:Array Value}(h:OwnS w C e k F v L)(hb:Below w.heap.size w w1)(hC:C<=w.heap.size)(hl:L.length<=1000000)
 (hR:R.ok w1 (fun b=>F b/\some b≠v.ownBlock) us.toList)(hsz:R.sz=k)
 (hs:a.eval s=v)(hx:a.eval x=slice (some ⟨w1.heap.size,0,none⟩) 1 1)
 (K:∀v' w2,OwnS w2 C e k F v' (L++[R])->Below C w w2->wpList P ops Q rest (a.put o.dst v') w2):
 wpList P ops Q (o :: rest) a (w1.alloc (.cells us e)):=by
 have hba:=(az w1.heap.size w1).alloc (ah _) (.cells us e);have hlt:=h.lt;have hb2:Below w.heap.size w (w1.alloc (.cells us e)):=hb.trans (hba.mono hb.size);have h':=h.new hb2;obtain⟨cs,h1,h2⟩:=h';obtain⟨i,hi1,hi2,hi3,hi4⟩:=info_parts hi;have hus:us.toList.length=k:=by rw[R.len hR];exact hsz
 have hRn:=R.new hR hba;refine wpList_append_own_at (P:=P) (w1.alloc (.cells us e)) hgd s x T ho C e i z k bytes hT hi1 hi2 hi3 hi4 hzs hk v L.length cs hs h1 ⟨w1.heap.size,0,none⟩ 1 1 us.toList hx (by rw[hus,Nat.one_mul]) ?_ (R.one hR) (by unfold maxLen;omega) ?_ (aO hC hb2.size) fun v' w' hown hg _ hat=> ?_
 ·intro j u hj
  rw[Addr.add_lit,Nat.zero_add,dZ];simpa using hj
 ·have:=bn (show L.length+1<=1000001 by omega) hby
  omega
 ·refine K v' w' (OwnS.app h1 h2 (fun i R' hR'=> ?_) hown hg hat) (((hb2.mono hC).grown hg (aO hC hb2.size) fun b hb'=>(hlt b hb').1))
  cases i with
  | succ i=>simp at hR'
  | zero=>
    obtain rfl:R=R':=(by simpa using hR');rw[Nat.zero_mul,drop_zero,aJ (by omega)];exact hRn
theorem oz{k:Nat}{L:List Rp}{w:World}{F:Nat->Prop}{v:Value}(h:(rS k L).ok w F [v]):∃a n c,v=slice a n c:=by
 obtain⟨a',n',c',e,_⟩:=h;injection e with e _;exact⟨a',n',c',e⟩
theorem rY{k:Nat}{L:List Rp}{w:World}{F:Nat->Prop}{a:Option Addr}{n c i:Nat}(h:(rS k L).ok w F [slice a n c])(hk:0<k)(hi:i<n){R:Rp}(hR:L[i]? =some R):
 ∃b o ds,a=some ⟨b,o,none⟩/\F b/\b<w.heap.size/\R.ok w F ds/\ds.length=k/\∀j u,ds[j]? =some u->w.cell? ⟨b,o+(i*k+j),none⟩=some u:=by
 obtain⟨a',n',c',e,h1,h2,h3,h4,cs,h5,h6,h7⟩:=h;obtain⟨⟨rfl,rfl,rfl⟩,-⟩:(a=a'/\n=n'/\c=c')/\True:=by injection e with e _;injection e with e1 e2 e3;exact⟨⟨e1,e2,e3⟩,trivial⟩
 have hik:i*k+k<=n*k:=by
  have:=Nat.mul_le_mul_right k (show i+1<=n by omega)
  rwa [Nat.succ_mul] at this
 obtain⟨b,o,rfl,hF,hc⟩:=h6 (by omega);have h0:=hc 0 _ (ag (by omega));refine⟨b,o,_,rfl,hF,World.block_lt_of_cell? w _ h0,h7 i R hR,by rw[aG,length_drop];omega,fun j u hj=>hc _ u ?_⟩;rw[List.getElem?_take] at hj;split at hj
 ·rw[List.getElem?_drop] at hj;exact hj
 ·cases hj
theorem OP{k:Nat}{L:List Rp}{w:World}{F:Nat->Prop}{v:Value}(h:(rS k L).ok w F [v]):∃a c,v=slice a L.length c/\(a=none->c=0)/\L.length<=c/\c<=maxLen:=by
 obtain⟨a',n',c',e,h1,h2,h3,rfl,_⟩:=h;injection e with e _;exact⟨a',c',e,h3,h1,h2⟩
theorem fM{M:List (List Nat)}{w:World}{F:Nat->Prop}{v:Value}{n:Nat}(h:(rM M).ok w F [v])(hn:M.length=n):∃a c,v=slice a n c/\RdM w w.heap.size a n M/\(a=none->c=0)/\n<=c/\c<=maxLen:=by
 obtain⟨a,n',c,e,h1,h2,h3,h4,cs,h5,h6,h7⟩:=(rM M).bl h;rw[aC,hn] at h4;subst h4;injection e with e _;rw[Nat.mul_one] at h5 h6;refine⟨a,c,e,⟨hn,cs,⟨h5,h6⟩,fun i l hl=> ?_⟩,h3,h1,h2⟩;have hi:i<cs.length:=by rw[h5,<-hn];exact(List.getElem?_eq_some_iff.1 hl).1
 have h8:=h7 i (rB l) (by rw[List.getElem?_map,hl];rfl);rw[rA (ag hi)] at h8;obtain⟨a',c',e1,hr⟩:=gP h8 rfl;exact⟨a',c',by rw[ag hi,e1],hr⟩
theorem C9{M:List (List Nat)}{w:World}{C:Nat}{v:Value}(h:MOwn w C v M):(rM M).ok w (Fr C) [v]:=by
 obtain⟨vs,h⟩:=h;obtain⟨a,c,rfl,r1,r2,r3,r4,r5⟩:=dB h.hd;refine⟨a,M.length,c,rfl,r2,r3,r1,by rw[aC],vs,r4,fun hn=> ?_,fun i R hR=> ?_⟩
 ·obtain⟨b,o,e1,⟨hb,_⟩,_,hc⟩:=r5 hn
  exact⟨b,o,e1,hb,hc⟩
 ·rw[List.getElem?_map] at hR
  obtain⟨l,hl,rfl⟩:=Option.map_eq_some_iff.1 hR;obtain⟨u,h1,h2⟩:=h.row i l hl;rw[rA h1];exact fL h2
structure Chg (M:Nat->Prop) (w w':World):Prop where
 os:w'.os=w.os
 tape:w'.tape=w.tape
 output:w'.output=w.output
 size:w.heap.size<=w'.heap.size
 block:∀k,k<w.heap.size->¬M k->w'.heap[k]? =w.heap[k]?
theorem Chg.refl(M:Nat->Prop)(w:World):Chg M w w:=⟨rfl,rfl,rfl,ah _,fun _ _ _=>rfl⟩
theorem Chg.trans{M:Nat->Prop}{a b c:World}(h:Chg M a b)(k:Chg M b c):Chg M a c:=
 ⟨k.os.trans h.os,k.tape.trans h.tape,k.output.trans h.output,aO h.size k.size,fun i hi hM=>(k.block i (aU hi h.size) hM).trans (h.block i hi hM)⟩
theorem Chg.mono{M N:Nat->Prop}{a b:World}(h:Chg M a b)(hM:∀k,k<a.heap.size->M k->N k):Chg N a b:=⟨h.os,h.tape,h.output,h.size,fun k hk hN=>h.block k hk fun hm=>hN (hM k hk hm)⟩
theorem Chg.of{M:Nat->Prop}{a b:World}(h:Below a.heap.size a b):Chg M a b:=⟨h.os,h.tape,h.output,h.size,fun k hk _=>h.block k hk⟩
theorem Chg.grown{M:Nat->Prop}{a b:World}{r:Option Nat}(h:a.grownBy b r)(hr:∀k,r=some k->k<a.heap.size->M k):Chg M a b:=⟨h.os,h.tape,h.output,h.size,fun k hk hM=>h.block k hk fun e=>hM (hr k e.symm hk)⟩
theorem Chg.below{M:Nat->Prop}{a b:World}{C:Nat}(h:Chg M a b)(hC:C<=a.heap.size)(hM:∀k,M k->C<=k):Below C a b:=⟨h.os,h.tape,h.output,h.size,fun k hk=>h.block k (by omega) fun hm=>by have:=hM k hm;omega⟩
theorem Chg.set{M:Nat->Prop}{a b:World}(h:Chg M a b)(p:Addr)(v:Value)(hp:p.block<a.heap.size->M p.block):Chg M a (b.setCell p v):=
 ⟨h.os,h.tape,h.output,by simpa[World.setCell] using h.size,fun k hk hM=>(bE b p v k fun e=>hM (by subst e;exact hp hk)).trans (h.block k hk hM)⟩
theorem Blk.chg{w w':World}{M:Nat->Prop}{g:Nat}{t:TypeId}{cs:Array Value}(h:Blk w g t cs)(hc:Chg M w w')(hg:¬M g):Blk w' g t cs:=(hc.block g h.lt hg).trans h
def pwC:Array Value:=#[bool false,bool false,int i64 0,int i64 0]
def PwS(w:World)(g:Nat):Prop:=Blk w g 138 pwC
theorem PwS.cells{w:World}{g:Nat}(h:PwS w g):w.cell? ⟨g,0,none⟩=some (bool false)/\w.cell? ⟨g,1,none⟩=some (bool false)/\w.cell? ⟨g,2,none⟩=some (int i64 0)/\w.cell? ⟨g,3,none⟩=some (int i64 0):=⟨Blk.cell h 0,Blk.cell h 1,Blk.cell h 2,Blk.cell h 3⟩
theorem Pm(w:World):Calls prog 42 #[] w fun e w'=>e=returned (pointer (some ⟨w.heap.size,0,none⟩))/\PwS w' w.heap.size/\w'=w.alloc (.cells pwC 138):=by
 go_enter func42,ntmps42;go_wp2_with fail;go_ret;exact⟨rfl,Blk.new w _ _,rfl⟩
theorem E9(g:Nat)(w:World)(h:PwS w g):Calls prog 81 #[pointer (some ⟨g,0,none⟩)] w fun e w'=>e=returned (bool true)/\w'=w:=by
 obtain⟨c0,c1,c2,c3⟩:=h.cells;go_enter func81,ntmps81;go_wp2_with fail;go_ret;exact⟨rfl,rfl⟩
theorem Fa(g:Nat)(w:World)(h:PwS w g):Calls prog 89 #[pointer (some ⟨g,0,none⟩)] w fun e w'=>e=returned (int i64 0)/\w'=w:=by
 obtain⟨c0,c1,c2,c3⟩:=h.cells;go_enter func89,ntmps89;go_wp2_with fail;go_ret;exact⟨rfl,rfl⟩
theorem Fb(g:Nat)(w:World)(h:PwS w g):Calls prog 200 #[pointer (some ⟨g,0,none⟩)] w fun e w'=>e=returned (bool true)/\w'=w:=by
 obtain⟨c0,c1,c2,c3⟩:=h.cells;have CO:=ae (E9 g w h);go_enter func200,ntmps200;go_wp2_with fail;refine CO.out.mono ?_;rintro e w1 ⟨rfl,rfl⟩;go_wp2_with fail;go_ret;exact⟨rfl,rfl⟩
def drC(p room:Nat)(v:Value)(wait:Nat):Array Value:=#[pointer (some ⟨p,0,none⟩),int i64 room,v,int i64 wait,slice none 0 0,bool false,bool false]
def DrB(w:World)(g p room:Nat)(v:Value)(wait:Nat):Prop:=Blk w g 88 (drC p room v wait)
theorem DrB.cells{w:World}{g p room:Nat}{v:Value}{wait:Nat}(h:DrB w g p room v wait):w.cell? ⟨g,0,none⟩=some (pointer (some ⟨p,0,none⟩))/\w.cell? ⟨g,1,none⟩=some (int i64 room)/\w.cell? ⟨g,2,none⟩=some v/\
 w.cell? ⟨g,3,none⟩=some (int i64 wait)/\w.cell? ⟨g,4,none⟩=some (slice none 0 0)/\w.cell? ⟨g,5,none⟩=some (bool false)/\w.cell? ⟨g,6,none⟩=some (bool false):=⟨Blk.cell h 0,Blk.cell h 1,Blk.cell h 2,Blk.cell h 3,Blk.cell h 4,Blk.cell h 5,Blk.cell h 6⟩
theorem Pn(n p:Nat)(w:World)(hn:1<=n/\n<=512):Calls prog 61 #[int i64 n,pointer (some ⟨p,0,none⟩)] w fun e w'=>e=returned (pointer (some ⟨w.heap.size,0,none⟩))/\DrB w' w.heap.size p n (slice none 0 0) 0/\Below w.heap.size w w':=by
 have h1:¬(n:Int)<1:=by omega
 have h2:¬(512:Int)<(n:Int):=by omega
 have h1':(decide ((n:Int)<1))=false:=by simpa using h1
 have h2':(decide ((512:Int)<(n:Int)))=false:=by simpa using h2
 go_enter func61,ntmps61;go_wp2_with fail;go_ret;exact⟨rfl,Blk.new w _ _,(az _ _).alloc (ah _) _⟩
theorem NI(g p room wait:Nat)(v:Value)(w:World)(h:DrB w g p room v wait):Calls prog 199 #[pointer (some ⟨g,0,none⟩)] w fun e w'=>e=returned (int i64 room)/\w'=w:=by
 obtain⟨c0,c1,c2,c3,c4,c5,c6⟩:=h.cells;go_enter func199,ntmps199;go_wp2_with fail;go_ret;exact⟨rfl,rfl⟩
theorem K7(g p room wait n c:Nat)(a:Option Addr)(w:World)(h:DrB w g p room (slice a n c) wait):Calls prog 133 #[pointer (some ⟨g,0,none⟩)] w fun e w'=>e=returned (int i64 n)/\w'=w:=by
 obtain⟨c0,c1,c2,c3,c4,c5,c6⟩:=h.cells;go_enter func133,ntmps133;go_wp2_with fail;go_ret;exact⟨rfl,rfl⟩
theorem zq(g p room wait:Nat)(v:Value)(w:World)(h:DrB w g p room v wait):Calls prog 90 #[pointer (some ⟨g,0,none⟩)] w fun e w'=>e=returned (bool false)/\w'=w:=by
 obtain⟨c0,c1,c2,c3,c4,c5,c6⟩:=h.cells;go_enter func90,ntmps90;go_wp2_with fail;go_ret;exact⟨rfl,rfl⟩
theorem Fc(g p room wait:Nat)(v:Value)(w:World)(h:DrB w g p room v wait):Calls prog 201 #[pointer (some ⟨g,0,none⟩)] w fun e w'=>e=returned (int i64 0)/\DrB w' g p room v wait/\Chg (·=g) w w':=by
 obtain⟨c0,c1,c2,c3,c4,c5,c6⟩:=h.cells;have f4:=Blk.frozen h 4;have f5:=Blk.frozen h 5;have h1:=Blk.set h 4 (slice none 0 0);have h2:=Blk.set h1 5 (bool false);have f5':=Blk.frozen h1 5;have c5':(w.setCell ⟨g,4,none⟩ (slice none 0 0)).cell? ⟨g,5,none⟩=some (bool false):=Blk.cell h1 5;have HE:=ae h2;have HG:Hid (Chg (·=g) w ((w.setCell ⟨g,4,none⟩ (slice none 0 0)).setCell ⟨g,5,none⟩ (bool false))):=ae (((Chg.refl (·=g) w).set ⟨g,4,none⟩ _ fun _=>rfl).set ⟨g,5,none⟩ _ fun _=>rfl);clear h1 h2;go_enter func201,ntmps201;go_wp2_with fail;go_ret;exact⟨rfl,HE.out,HG.out⟩
theorem NJ(g p room wait:Nat)(v:Value)(w:World)(h:DrB w g p room v wait)(hp:PwS w p):Calls prog 204 #[pointer (some ⟨g,0,none⟩)] w fun e w'=>e=returned (int i64 0)/\DrB w' g p room v 0/\Chg (·=g) w w':=by
 obtain⟨c0,c1,c2,c3,c4,c5,c6⟩:=h.cells;have CP:=ae (Fb p w hp);have f3:=Blk.frozen h 3;have h1:DrB (w.setCell ⟨g,3,none⟩ (int i64 0)) g p room v 0:=Blk.set h 3 (int i64 0);have CW:=ae (Fc g p room 0 v _ h1);have HG:Hid (Chg (·=g) w (w.setCell ⟨g,3,none⟩ (int i64 0))):=ae ((Chg.refl (·=g) w).set ⟨g,3,none⟩ _ fun _=>rfl);clear h1;go_enter func204,ntmps204;go_wp2_with fail;refine CP.out.mono ?_;rintro e w1 ⟨rfl,rfl⟩;go_wp2_with fail;refine CW.out.mono ?_;rintro e w2 ⟨rfl,hd,hg⟩;have HD:=ae hd;have HG2:=ae (HG.out.trans hg);clear hd hg HG CW;go_wp2_with fail;go_ret;exact⟨rfl,HD.out,HG2.out⟩
def xr(a b:List Nat):List Nat:=zipWith (·^^^ ·) a b
theorem jQ{a b:List Nat}(h:a.length=b.length):(xr a b).length=a.length:=by unfold xr;rw[length_zipWith];omega
theorem mb{a b:List Nat}(h:a.length=b.length)(j:Nat):(xr a b).getD j 0=a.getD j 0 ^^^ b.getD j 0:=by
 unfold xr;rw[af,af,af,List.getElem?_zipWith];rcases bq j a.length with h1 | h1
 ·rw[ag h1,ag (by omega)];rfl
 ·rw[List.getElem?_eq_none h1,List.getElem?_eq_none (by omega)];rfl
theorem xr_lt{a b:List Nat}(ha:∀x∈a,x<256)(hb:∀x∈b,x<256):∀x∈xr a b,x<256:=by
 intro x hx;obtain⟨i,hi,rfl⟩:=bC hx;unfold xr at hi ⊢;rw[length_zipWith] at hi;rw[getElem_zipWith];exact Nat.xor_lt_two_pow (n:=8) (ha _ (aP _)) (hb _ (aP _))
theorem jh{a b:List Nat}(h:a.length=b.length)(hg:∀j,a.getD j 0=b.getD j 0):a=b:=by
 refine ext_getElem h fun i h1 h2=> ?_;have e:=hg i;rw[af,af,ag h1,ag h2] at e;exact e
def sX(m:Nat->Nat->Nat)(j:Nat):List Nat->Nat | []=>0 | c :: l=>m c j ^^^ sX m j l
theorem qQ(m:Nat->Nat->Nat)(j:Nat)(p:Nat->Bool)(l:List Nat):sX m j l=sX m j (l.filter p) ^^^ sX m j (l.filter fun c=> !p c):=by
 induction l with
 | nil=>simp[sX]
 | cons c l ih=>
   rw[filter_cons,filter_cons];cases hp:p c with
   | true=>
     simp only[Bool.not_true,Bool.false_eq_true,if_true,if_false];show m c j ^^^ sX m j l=(m c j ^^^ _) ^^^ _;rw[Nat.xor_assoc,<-ih]
   | false=>
     simp only[Bool.not_false,Bool.false_eq_true,if_true,if_false];show m c j ^^^ sX m j l=_ ^^^ (m c j ^^^ _);rw[<-Nat.xor_assoc,Nat.xor_comm _ (m c j),Nat.xor_assoc,<-ih]
theorem mf{m m':Nat->Nat->Nat}{j:Nat}:∀ {l:List Nat},(∀c∈l,m c j=m' c j)->sX m j l=sX m' j l:=by
 intro l
 induction l with
 | nil=>intro _;rfl
 | cons c l ih=>
   intro h;show m c j ^^^ sX m j l=m' c j ^^^ sX m' j l;rw[h c (by simp),ih fun d hd=>h d (by simp[hd])]
theorem IV{m:Nat->Nat->Nat}{j:Nat}{l:List Nat}{c:Nat}(hc:c∈l)(hn:l.Nodup):sX m j l=m c j ^^^ sX m j (l.filter fun d=> !(d == c)):=by
 rw[qQ m j (fun d=>d == c) l];congr 1
 have:l.filter (fun d=>d == c)=[c]:=by
  rw[filter_beq,hn.count,bf hc];rfl
 rw[this];show m c j ^^^ 0=m c j;exact Nat.xor_zero _
def bP(m:Nat->List Nat)(cols:List Nat)(z:List Nat):List Nat:=cols.foldl (fun acc c=>xr acc (m c)) z
theorem eU{m:Nat->List Nat}{Z:Nat}:∀ {cols:List Nat} {z:List Nat},z.length=Z->(∀c∈cols,(m c).length=Z)->(bP m cols z).length=Z:=by
 intro cols
 induction cols with
 | nil=>intro z h _;exact h
 | cons c cols ih=>
   intro z h hm;exact ih (by rw[jQ (by rw[h,hm c (by simp)])];exact h) fun d hd=>hm d (by simp[hd])
theorem jo{m:Nat->List Nat}{Z:Nat}(j:Nat):∀ {cols:List Nat} {z:List Nat},z.length=Z->(∀c∈cols,(m c).length=Z)->(bP m cols z).getD j 0=z.getD j 0 ^^^ sX (fun c j=>(m c).getD j 0) j cols:=by
 intro cols
 induction cols with
 | nil=>intro z h _;exact(Nat.xor_zero _).symm
 | cons c cols ih=>
   intro z h hm;have h1:z.length=(m c).length:=(by rw[h,hm c (by simp)]);show(bP m cols (xr z (m c))).getD j 0=_;rw[ih (by rw[jQ h1];exact h) fun d hd=>hm d (by simp[hd]),mb h1,Nat.xor_assoc];rfl
theorem IW{m v:Nat->List Nat}{Z:Nat}{cols:List Nat}{d:List Nat}(p:Nat->Bool)(hm:∀c∈cols,(m c).length=Z)(hv:∀c∈cols,p c=true->v c=m c)(hd:d=bP m cols (replicate Z 0)):
 bP v (cols.filter p) d=bP m (cols.filter fun c=> !p c) (replicate Z 0):=by
 have hz:(replicate Z 0:List Nat).length=Z:=aI;have hdl:d.length=Z:=by rw[hd];exact eU hz hm
 have hv2:∀c∈cols.filter p,(v c).length=Z:=fun c hc=>by
  obtain⟨h1,h2⟩:=mem_filter.1 hc;rw[hv c h1 h2];exact hm c h1
 have hm2:∀c∈cols.filter (fun c=> !p c),(m c).length=Z:=fun c hc=>hm c (mem_filter.1 hc).1;refine jh (by rw[eU hdl hv2,eU hz hm2]) fun j=> ?_;rw[jo j hdl hv2,jo j hz hm2,hd,jo j hz hm,qQ (fun c j=>(m c).getD j 0) j p cols]
 have e:sX (fun c j=>(v c).getD j 0) j (cols.filter p)=sX (fun c j=>(m c).getD j 0) j (cols.filter p):=mf fun c hc=>by
  obtain⟨h1,h2⟩:=mem_filter.1 hc;show(v c).getD j 0=(m c).getD j 0;rw[hv c h1 h2]
 rw[e,Nat.xor_assoc,Nat.xor_comm (sX _ j (cols.filter p)),Nat.xor_assoc,Nat.xor_self,Nat.xor_zero]
def iJ(c:Nat)(xs ys:List Nat)(k:Nat):List Nat:=(kS c xs ys).take k++ys.drop k
theorem pU{c:Nat}{xs ys:List Nat}(h:xs.length=ys.length){k:Nat}(hk:k<=ys.length):(iJ c xs ys k).length=ys.length:=by
 unfold iJ;rw[aH,aG,length_drop,fP h];omega
theorem mP{c:Nat}{xs ys:List Nat}(h:xs.length=ys.length):iJ c xs ys ys.length=kS c xs ys:=by
 unfold iJ;rw[drop_length,append_nil,aJ (by rw[fP h];exact ah _)]
theorem pV{c:Nat}{xs ys:List Nat}(h:xs.length=ys.length){k:Nat}(hk:k<ys.length):(iJ c xs ys k).getD k 0=ys.getD k 0:=by
 unfold iJ;rw[af,List.getElem?_append_right (by rw[aG,fP h];omega),aG,fP h,Nat.min_eq_left (by omega),Nat.sub_self,List.getElem?_drop,Nat.add_zero,af]
theorem pW{c:Nat}{xs ys:List Nat}(h:xs.length=ys.length){k:Nat}(hk:k<ys.length):(iJ c xs ys k).set k (ys.getD k 0 ^^^ fm c (xs.getD k 0))=iJ c xs ys (k+1):=by
 have hax:k<(kS c xs ys).length:=by rw[fP h];exact hk
 rw[<-kE h k];unfold iJ;rw[set_append_right _ _ (by rw[aG];omega),aG,Nat.min_eq_left (by omega),Nat.sub_self];rw[aN hax,append_assoc,singleton_append];congr 1;rw[drop_eq_getElem_cons hk,set_cons_zero,af,ag hax];rfl
theorem OwnB.form{w:World}{C:Nat}{v:Value}{l:List Nat}(h:OwnB w C v l)(h0:0<l.length):∃g cap,v=slice (some ⟨g,0,none⟩) l.length cap/\C<=g/\g<w.heap.size:=World.ownsRow.form h h0
theorem OwnB.cell{w:World}{C g n c:Nat}{l:List Nat}(h:OwnB w C (slice (some ⟨g,0,none⟩) n c) l)(hl:l.length=n){k:Nat}(hk:k<n):w.cell? ⟨g,k,none⟩=some (.int .u8 (l.getD k 0:Nat))/\w.frozen? ⟨g,k,none⟩=false:=by
 unfold OwnB at h;rw[hl] at h;exact⟨(h.cellAt k (by omega)).trans (dX (by omega)),h.frozenAt k⟩
theorem ub(l:List Nat)(k x:Nat):(bF l).set k (.int .u8 (x:Nat))=bF (l.set k x):=by
 unfold bF;rw[map_set]
theorem OwnB.stored{w:World}{C g n c:Nat}{l:List Nat}(h:OwnB w C (slice (some ⟨g,0,none⟩) n c) l)(hl:l.length=n)(k x:Nat):
 OwnB (w.setCell ⟨g,k,none⟩ (.int .u8 (x:Nat))) C (slice (some ⟨g,0,none⟩) n c) (l.set k x)/\w.grownBy (w.setCell ⟨g,k,none⟩ (.int .u8 (x:Nat))) (some g):=by
 unfold OwnB at h ⊢;rw[hl] at h;rw[length_set,hl,<-ub];exact h.stored k _
theorem grownBy_refl(w:World)(r:Option Nat):w.grownBy w r:=⟨rfl,rfl,rfl,ah _,fun _ _ _=>rfl⟩
theorem grownBy_trans{a b c:World}{r:Option Nat}(h:a.grownBy b r)(k:b.grownBy c r):a.grownBy c r:=
 ⟨k.os.trans h.os,k.tape.trans h.tape,k.output.trans h.output,aO h.size k.size,fun i hi hr=>(k.block i (aU hi h.size) hr).trans (h.block i hi hr)⟩
theorem ji{a b:World}{r:Option Nat}(h:a.grownBy b r)(j:Nat):a.grownBy (b.drewN j) r:=⟨h.os,h.tape,h.output,h.size,h.block⟩
theorem Blk.ne{w:World}{g g':Nat}{t t':TypeId}{cs cs':Array Value}(h:Blk w g t cs)(h':Blk w g' t' cs')(hne:t≠t'):g≠g':=by
 intro e;subst e;have:=h.symm.trans h';injection this with this;injection this with _ ht;exact hne ht
theorem LP{w:World}{C g gf n c:Nat}{l:List Nat}(h:OwnB w C (slice (some ⟨g,0,none⟩) n c) l)(hF:Fld w gf):gf≠g:=by
 rcases h.2 with⟨h1,_⟩ | ⟨g',cap,cur,h1,_,hb,_⟩
 ·simp at h1
 ·injection h1 with h1
  injection h1 with h1;injection h1 with h1;subst h1;exact Blk.ne (t:=337) (t':=5) hF hb (by decide)
theorem LQ(gf c:Nat)(xs ys:List Nat)(a:Option Addr)(n ca C:Nat)(u:Value)(w:World)(hF:Fld w gf)(hc:c<256)(hx:∀w',w.grownBy w' u.ownBlock->Rd w' w'.heap.size a n (bF xs))(hu:OwnB w C u ys)(hly:ys.length=n)(hbx:By xs)(hby:By ys)(hn:n<=1000000):
 Calls prog 336 #[pointer (some ⟨gf,0,none⟩),.int .u8 c,slice a n ca,u] w fun e w'=>e=returned (.tuple #[])/\OwnB w' C u (kS c xs ys)/\w.grownBy w' u.ownBlock:=by
 have hlx:xs.length=n:=by have:=(hx w (grownBy_refl _ _)).len;rwa [bI] at this
 by_cases hc0:c=0
 ·subst hc0
  rw[zN (by omega)];clear hx hbx hby hlx hly;have HU:=ae hu;clear hu;go_enter func336,ntmps336;go_wp2_with fail
  (try simp only[Exit.inBlock,Exit.then]);refine bodyPost_ret (results_none rfl _ _ _) rfl ?_
  exact⟨rfl,HU.out,grownBy_refl _ _⟩
 ·have hcz:((c:Int) == 0)=false:=by simpa using hc0
  have HX:=ae hx;have HBX:=ae hbx;have HBY:=ae hby;have HLX:=ae hlx;have HLY:=ae hly;have HU:Hid (OwnB w C u (iJ c xs ys 0)):=ae hu;have HF:=ae hF;clear hx hbx hby hlx hly hu hF;go_enter func336,ntmps336;go_wp2_with fail;go_loopw [8,9,14] (fun _ _ i wr=>∃k:Nat,k<=n/\i=int i64 k/\Hid (OwnB wr C u (iJ c xs ys k))/\Hid (Fld wr gf)/\Hid (w.grownBy wr u.ownBlock)) (fun _ _ i _=>n-(intOf i).toNat)
  case atStart=>exact⟨0,by omega,rfl,HU,HF,ae (grownBy_refl _ _)⟩
  case round=>
   clear HU HF;obtain⟨k,hk,rfl,HU,HF,HG⟩:=hrel;by_cases hlt:k<n
   ·have hx1:=HX.out wr HG.out
    obtain⟨bx,ox,rfl,hbx,hcx⟩:=hx1.atB hlt;have cx:=hcx k hlt;have hml:(iJ c xs ys k).length=n:=(by rw[pU (by rw[HLX.out,HLY.out]) (by rw[HLY.out];omega)];exact HLY.out);obtain⟨g,cap,rfl,hgC,hgs⟩:=HU.out.form (by omega);rw[hml] at HU HG HX ⊢;obtain⟨cy,fy⟩:=HU.out.cell hml hlt;rw[pV (by rw[HLX.out,HLY.out]) (by rw[HLY.out];exact hlt)] at cy;have hst:=HU.out.stored hml k (ys.getD k 0 ^^^ fm c (xs.getD k 0));rw[pW (by rw[HLX.out,HLY.out]) (by rw[HLY.out];exact hlt)] at hst;have hxb:=getD_lt HBX.out k;have hyb:=getD_lt HBY.out k;have hgf:=LP HU.out HF.out;have hml2:=hml;have HGF:=ae hgf;clear hx1 hcx hml hgf;generalize xs.getD k 0=x at*;generalize ys.getD k 0=y at*;have CM:=ae (uz gf c x hc hxb wr.drew (Blk.drew HF.out));have hz:=gQ c x;generalize fm c x=z at*;have e1:=u8_xor_nat y z hyb hz;generalize y ^^^ z=q at*;have HST:=ae hst;clear hst;have hlt':(k:Int)<(n:Int):=(by omega);go_wp2_with fail
    go_region_with ((go_at_call 307;refine CM.out.mono ?_;rintro e w3 ⟨rfl,j,rfl⟩))
    all_goals(
     have HU2:Hid (OwnB ((wr.drewN (1+j)).setCell ⟨g,k,none⟩ (.int .u8 (q:Nat))) C (slice (some ⟨g,0,none⟩) n cap) (iJ c xs ys (k+1))):=ae HST.out.1;have HG2:Hid (w.grownBy ((wr.drewN (1+j)).setCell ⟨g,k,none⟩ (.int .u8 (q:Nat))) (Value.slice (some ⟨g,0,none⟩) n cap).ownBlock):=ae (grownBy_trans HG.out (grownBy_trans (ji (grownBy_refl _ _) (1+j)) ((OwnB.stored (HU.out.drewN (1+j)) hml2 k q).2)));have HF2:Hid (Fld ((wr.drewN (1+j)).setCell ⟨g,k,none⟩ (.int .u8 (q:Nat))) gf):=ae (Blk.far (w:=wr.drewN (1+j)) HF.out HGF.out _);clear HST HU HG HF CM cx cy fy;generalize (wr.drewN (1+j)).setCell ⟨g,k,none⟩ (.int .u8 (q:Nat))=w4 at*;go_wp2_with fail;go_roundw
     case rel=>exact⟨k+1,by omega,by go_num,HU2,HF2,HG2⟩
     case measure=>simp[intOf];omega)
   ·obtain rfl:k=n:=by omega
    have hf:iJ c xs ys k=kS c xs ys:=(by rw[<-HLY.out];exact mP (by rw[HLX.out,HLY.out]));rw[hf] at HU;go_wp2_with fail
    go_end0
    exact⟨rfl,HU.out,HG.out⟩
def dn(J:Nat->Act->World->Prop)(Q:Exit->Act->World->Prop):Exit->Act->World->Prop
 | .goto l',a,w=>J l' a w
 | e,a,w=>Q e a w
theorem iZ{P:Program}{Q:Exit->Act->World->Prop}{c:Code}{a:Act}{w:World}(J:Nat->Nat->Act->World->Prop)
 (first:c.wp P (dn (fun l a w=>∃n,J l n a w) Q) a w)
 (pass:∀l n a w,J l n a w->∃rest,findLabel c l=some rest/\rest.wp P (dn (fun l' a' w'=>∃n',n'<n/\J l' n' a' w') Q) a w):(Code.scope c).wp P Q a w:=by
 intro b k cs;have hg:∀l rest,findLabel c l=some rest->gotoIn l (.inScope c :: k)=some (.code rest :: .inScope c :: k):=fun l rest hf=>by simp[gotoIn,hf]
 have key:∀n l a w rest,J l n a w->findLabel c l=some rest->∃e a' w',Q e a' w'/\Arrives P (lone (b.at a (.code rest :: .inScope c :: k)) cs w) b k cs e a' w':=by
  intro n
  induction n using Nat.strongRecOn with
  | _ n ih=>
    intro l a w rest hJ hf;obtain⟨rest',hf',hw⟩:=pass l n a w hJ;obtain rfl:rest=rest':=(by rw[hf] at hf';exact Option.some.inj hf');obtain⟨e,a₁,w₁,hq,harr⟩:=hw b (.inScope c :: k) cs;cases e with
    | normal=>exact⟨.normal,a₁,w₁,hq,Steps.trans harr (.one step_inScope)⟩
    | exit id=>exact⟨.exit id,a₁,w₁,hq,fun k' hk=>harr k' (by simp[exitTo,hk])⟩
    | goto l'=>
      obtain⟨n',hlt,hJ'⟩:=hq;obtain⟨rest2,hf2,_⟩:=pass l' n' a₁ w₁ hJ';obtain⟨e₂,a₂,w₂,hq₂,harr₂⟩:=ih n' hlt l' a₁ w₁ rest2 hJ' hf2;exact⟨e₂,a₂,w₂,hq₂,.of_steps (harr _ (hg l' rest2 hf2)) harr₂⟩
    | ret=>exact⟨_,a₁,w₁,hq,harr⟩
    | panic ch=>exact⟨_,a₁,w₁,hq,harr⟩
    | outgrown=>exact⟨_,a₁,w₁,hq,harr⟩
 obtain⟨e,a₁,w₁,hq,harr⟩:=first b (.inScope c :: k) cs
 cases e with
 | normal=>exact⟨.normal,a₁,w₁,hq,.head step_scope (Steps.trans harr (.one step_inScope))⟩
 | exit id=>exact⟨.exit id,a₁,w₁,hq,fun k' hk=>.head step_scope (harr k' (by simp[exitTo,hk]))⟩
 | goto l'=>
   obtain⟨n',hJ'⟩:=hq;obtain⟨rest2,hf2,_⟩:=pass l' n' a₁ w₁ hJ';obtain⟨e₂,a₂,w₂,hq₂,harr₂⟩:=key n' l' a₁ w₁ rest2 hJ' hf2;exact⟨e₂,a₂,w₂,hq₂,.of_steps (.head step_scope (harr _ (hg l' rest2 hf2))) harr₂⟩
 | ret=>exact⟨_,a₁,w₁,hq,.of_steps (.one step_scope) harr⟩
 | panic ch=>exact⟨_,a₁,w₁,hq,.of_steps (.one step_scope) harr⟩
 | outgrown=>exact⟨_,a₁,w₁,hq,.of_steps (.one step_scope) harr⟩
theorem zL{P:Program}{Q:Exit->Act->World->Prop}{a:Act}{w:World}{pre rest:Code}(l m:Nat)(hlm:l≠m)(J:Nat->Act->World->Prop)(K:Act->World->Prop)(n₀:Nat)(rest2:Code)
 (hf:findLabel (pre.seq ((Code.label l).seq rest)) l=some (Code.skip.seq rest))
 (hf2:findLabel (pre.seq ((Code.label l).seq rest)) m=some (Code.skip.seq rest2))
 (first:pre.wp P (Exit.then (J n₀) (dn (fun _ _ _=>False) Q)) a w)
 (pass:∀n a w,J n a w->rest.wp P (dn (fun l' a' w'=>(l'=l/\∃n',n'<n/\J n' a' w')\/(l'=m/\K a' w')) Q) a w)
 (out:∀a w,K a w->rest2.wp P (dn (fun _ _ _=>False) Q) a w):(Code.scope (pre.seq ((Code.label l).seq rest))).wp P Q a w:=by
 have weak:∀n (e:Exit) (a':Act) (w':World),dn (fun l' a' w'=>(l'=l/\∃n',n'<n/\J n' a' w')\/(l'=m/\K a' w')) Q e a' w'->dn (fun l' a' w'=>∃n',n'<n+1/\((l'=l/\∃k,n'=k+1/\J k a' w')\/(l'=m/\n'=0/\K a' w'))) Q e a' w':=by
  intro n e a' w' hq;cases e with
  | goto l'=>
    rcases hq with⟨h1,n',h2,h3⟩ | ⟨h1,h2⟩
    ·exact⟨n'+1,by omega,.inl ⟨h1,n',rfl,h3⟩⟩
    ·exact⟨0,by omega,.inr ⟨h1,rfl,h2⟩⟩
  | normal=>exact hq
  | exit id=>exact hq
  | ret=>exact hq
  | panic ch=>exact hq
  | outgrown=>exact hq
 refine iZ (fun l' n a w=>(l'=l/\∃k,n=k+1/\J k a w)\/(l'=m/\n=0/\K a w)) ?_ ?_
 ·refine wp_seq (wp_mono first ?_)
  intro e a' w' hq;cases e with
  | normal=>
    refine wp_seq (wp_label ?_);refine wp_mono (pass n₀ a' w' hq) ?_;intro e a' w' hq;have:=weak _ e a' w' hq;cases e with
    | goto l'=>obtain⟨n',_,h⟩:=this;exact⟨n',h⟩
    | normal=>exact hq
    | exit id=>exact hq
    | ret=>exact hq
    | panic ch=>exact hq
    | outgrown=>exact hq
  | goto l'=>exact hq.elim
  | exit id=>exact hq
  | ret=>exact hq
  | panic ch=>exact hq
  | outgrown=>exact hq
 ·intro l' n a w hJ
  rcases hJ with⟨rfl,k,rfl,hJ⟩ | ⟨rfl,rfl,hK⟩
  ·exact⟨_,hf,wp_seq (wp_skip (wp_mono (pass k a w hJ) (weak k)))⟩
  ·refine⟨_,hf2,wp_seq (wp_skip (wp_mono (out a w hK) ?_))⟩
   intro e a' w' hq;cases e with
   | goto l'=>exact hq.elim
   | normal=>exact hq
   | exit id=>exact hq
   | ret=>exact hq
   | panic ch=>exact hq
   | outgrown=>exact hq
def gT(M:List (List Nat))(col i k:Nat):Int:=match ma M col i k with | some p=>(p:Int) | none=> -1
theorem mQ(M:List (List Nat))(col i:Nat):gT M col i 0= -1:=rfl
theorem pX{M:List (List Nat)}{col i k:Nat}(h:gt M i col≠0):gT M col i (k+1)=i:=by unfold gT;rw[ma,bf h]
theorem mR{M:List (List Nat)}{col i k:Nat}(h:gt M i col=0):gT M col i (k+1)=gT M col (i+1) k:=by unfold gT;rw[ma,bg (fun h2=>h2 h)]
theorem El{a b:Int}(h:a=b):Ending.returned (int i64 a)=returned (int i64 b):=by rw[h]
theorem BV(n m top col:Nat)(M:List (List Nat))(B:Nat)(a:Option Addr)(c:Nat)(w:World)(h:RdM w B a m M)(hW:Wf n M)(hcol:col<n)(ht:top<=m)(hm:m<=1000000)(hn:n<=1000000):
 Calls prog 333 #[slice a m c,int i64 top,int i64 col] w fun e w'=>e=returned (int i64 (gT M col top (m-top)))/\w=w':=by
 have H:=ae h;have HW:=ae hW;clear h hW;go_enter func333,ntmps333;go_wp2_with fail
 refine zL 0 1 (by decide) (fun x a' w'=>∃(i:Nat) (u8 u9 u10 u11 u12 u13 u14 u15 u16 u17 u18 u19 u20 u21 u22 u23:Value),(i<=m/\m-i<x/\Hid (gT M col i (m-i)=gT M col top (m-top))/\w=w')/\
  a'= { tmps:=#[slice a m c,int i64 top,int i64 col,undef,undef,undef,int i64 0,int i64 i,u8,u9,u10,u11,u12,u13,u14,u15,u16,u17,u18,u19,u20,u21,u22,u23],defers:=[] }) (fun a' w'=>∃(i:Nat) (u8 u9 u10 u11 u12 u13 u14 u15 u16 u17 u18 u19 u20 u21 u22 u23:Value),(Hid ((i:Int)=gT M col top (m-top))/\w=w')/\
  a'= { tmps:=#[slice a m c,int i64 top,int i64 col,undef,undef,undef,int i64 0,int i64 i,u8,u9,u10,u11,u12,u13,u14,u15,u16,u17,u18,u19,u20,u21,u22,u23],defers:=[] }) (m-top+1) _ rfl rfl ?_ ?_ ?_
 ·go_wp2_with fail
  exact⟨top,_,_,_,_,_,_,_,_,_,_,_,_,_,_,_,_,⟨ht,by omega,ae rfl,by first | rfl | trivial⟩,rfl⟩
 ·rintro x a' w' ⟨i,u8,u9,u10,u11,u12,u13,u14,u15,u16,u17,u18,u19,u20,u21,u22,u23,⟨hi,hx,HR,rfl⟩,rfl⟩
  by_cases hlt:i<m
  ·obtain⟨b,o,a',c',rfl,hb,hcell,hrd,_⟩:=H.out.at hlt
   have hl:=(HW.out.get (i:=i) (by rw[H.out.len];exact hlt)).1;rw[hl] at hcell hrd;obtain⟨bx,ox,rfl,hbx,hcx⟩:=hrd.atB hcol;have cx:=hcx col hcol;have hmi:m-i=(m-(i+1))+1:=(by omega);have hgt:(M.getD i []).getD col 0=gt M i col:=rfl;rw[hgt] at cx;have hlt':(i:Int)<(m:Int):=(by omega);have hlt2:(col:Int)<(n:Int):=(by omega);by_cases h0:gt M i col=0
   ·have HR2:Hid (gT M col (i+1) (m-(i+1))=gT M col top (m-top)):=ae (by rw[<-HR.out,hmi,mR h0])
    rw[h0] at cx;clear hcx hrd hl hmi hgt h0 HR;obtain⟨y,rfl⟩:∃y,x=y+1:=⟨x-1,by omega⟩;go_wp2_with fail;go_step3;exact .inl ⟨rfl,y,by omega,i+1,_,_,_,_,_,_,_,_,_,_,_,_,_,_,_,_,⟨by omega,by omega,HR2,by first | rfl | trivial⟩,by rfl⟩
   ·have HR2:Hid ((i:Int)=gT M col top (m-top)):=ae (by rw[<-HR.out,hmi,pX h0])
    generalize gt M i col=q at*;have hq:((q:Int) != 0)=true:=(by simp;omega);clear hcx hrd hl hmi hgt HR;go_wp2_with fail;go_step3;exact .inr ⟨rfl,i,_,_,_,_,_,_,_,_,_,_,_,_,_,_,_,_,⟨HR2,by first | rfl | trivial⟩,by rfl⟩
  ·obtain rfl:i=m:=by omega
   have HR2:Hid ((-1:Int)=gT M col top (i-top)):=ae (by rw[<-HR.out,Nat.sub_self,mQ]);go_wp2_with fail;simp only[dn];go_ret;exact⟨El HR2.out,rfl⟩
 ·rintro a' w' ⟨i,u8,u9,u10,u11,u12,u13,u14,u15,u16,u17,u18,u19,u20,u21,u22,u23,⟨HR,rfl⟩,rfl⟩
  go_wp2_with fail;simp only[dn];go_ret;exact⟨El HR.out,rfl⟩
theorem MOwn.at2{w:World}{C g n c:Nat}{M:List (List Nat)}(h:MOwn w C (slice (some ⟨g,0,none⟩) n c) M){i:Nat}(hi:i<n){r:Nat}(hr:(M.getD i []).length=r):
 ∃a' c',w.cell? ⟨g,i,none⟩=some (slice a' r c')/\w.frozen? ⟨g,i,none⟩=false/\OwnB w C (slice a' r c') (M.getD i []):=by
 have:=h.at hi;rw[hr] at this;exact this
theorem MOwn.two{w:World}{C g n c:Nat}{M:List (List Nat)}(h:MOwn w C (slice (some ⟨g,0,none⟩) n c) M){i j:Nat}(hi:i<n)(hj:j<n)(hne:i≠j){ui uj:Value}(hci:w.cell? ⟨g,i,none⟩=some ui)(hcj:w.cell? ⟨g,j,none⟩=some uj):
 OwnB w C ui (M.getD i [])/\∀w',w.grownBy w' uj.ownBlock->OwnB w' C ui (M.getD i []):=by
 have hl:=h.len;obtain⟨vs,h⟩:=h;have hd:=h.hd;rw[hl] at hd;have hui:vs[i]? =some ui:=by rw[<-hd.cellAt i (by omega)];exact hci
 have huj:vs[j]? =some uj:=by rw[<-hd.cellAt j (by omega)];exact hcj
 have ho:=(h.of hui).1;exact⟨ho,fun w' hg=>ho.kept hg (h.apart i j ui uj hne hui huj)⟩
theorem Ik{w w':World}{C gf:Nat}{u:Value}{l:List Nat}(hF:Fld w gf)(ho:OwnB w C u l)(hg:w.grownBy w' u.ownBlock):Fld w' gf:=by
 refine Blk.grown hF hg ?_;rcases ho.2 with⟨h1,_⟩ | ⟨g',cap,cur,h1,_,hb,_⟩
 ·rw[h1];simp[Value.ownBlock]
 ·rw[h1]
  have:gf≠g':=Blk.ne (t:=337) (t':=5) hF hb (by decide);simpa[Value.ownBlock] using this
theorem vW{w:World}{C g n c gf:Nat}{M:List (List Nat)}(h:MOwn w C (slice (some ⟨g,0,none⟩) n c) M)(hF:Fld w gf):gf≠g:=by
 obtain⟨vs,h⟩:=h;rcases h.hd.2 with⟨h1,_⟩ | ⟨g',cap,cur,h1,_,hb,_⟩
 ·simp at h1
 ·injection h1 with h1
  injection h1 with h1;injection h1 with h1;subst h1;exact Blk.ne (t:=337) (t':=30) hF hb (by decide)
theorem oI{w w':World}{C:Nat}{u:Value}(h:w.grownBy w' u.ownBlock)(hu:∀g,u.ownBlock=some g->C<=g)(hC:C<=w.heap.size):Below C w w':=(az _ _).grown h hC hu
theorem vX(gf n m cols c C:Nat)(M:List (List Nat))(a:Option Addr)(w:World)(hF:Fld w gf)(h:MOwn w C (slice a m c) M)(hW:Wf n M)(hcol:cols<=n)(hC:C<=w.heap.size)(hm:m<=1000000)(hn:n<=1000000):
 Calls prog 272 #[pointer (some ⟨gf,0,none⟩),slice a m c,int i64 cols] w fun e w'=>e=returned (int i64 ((bV M cols).2:Nat))/\MOwn w' C (slice a m c) (bV M cols).1/\Below C w w':=by
 have HW:=ae hW;have HM:Hid (MOwn w C (slice a m c) (bV M 0).1):=ae h;have HF:=ae hF;have HLM:=ae h.len;clear hW h hF;go_enter func272,ntmps272;go_wp2_with fail;go_loopw [7,8,9,10,12] (fun top _ _ _ i wr=>∃k:Nat,k<=cols/\i=int i64 k/\top=int i64 ((bV M k).2:Nat)/\Hid (MOwn wr C (slice a m c) (bV M k).1)/\Hid (Fld wr gf)/\Hid (Below C w wr)) (fun _ _ _ _ i _=>cols-(intOf i).toNat)
 case atStart=>exact⟨0,by omega,rfl,rfl,HM,HF,ae (az _ _)⟩
 case round=>
  clear HM HF;obtain⟨k,hk,rfl,rfl,HM,HF,HB⟩:=hrel;by_cases hlt:k<cols
  ·obtain⟨ls,hinv⟩:=iK HW.out k
   have hw1:=hinv.wf;have hle:=hinv.le;rw[iL,HLM.out] at hle;have hl1:(bV M k).1.length=m:=(by rw[iL];exact HLM.out);have hst:bV M (k+1)=iV (bV M k).1 (bV M k).2 k:=rfl;have HST:=ae hst;clear hst hinv;generalize (bV M k).1=M1 at*;generalize (bV M k).2=t at*;have HW1:=ae hw1;have HL1:=ae hl1;have CB:=ae (BV n m t k M1 wr.heap.size a c wr HM.out.rdM hw1 (by omega) hle hm hn);clear hw1 hl1;have hlt':(k:Int)<(cols:Int):=(by omega);cases hf:ma M1 k t (m-t) with
   | none=>
     have e1:gT M1 k t (m-t)= -1:=(by unfold gT;rw[hf]);rw[e1] at CB;have e2:bV M (k+1)=(M1,t):=(by rw[HST.out];unfold iV;rw[HL1.out,hf]);have E2:=ae e2;clear e1 e2 hf HST;go_wp2_with fail;refine CB.out.mono ?_;rintro e w2 ⟨rfl,rfl⟩;go_wp2_with fail;go_roundw
     case rel=>exact⟨k+1,by omega,by go_num,by rw[E2.out],by rw[E2.out];exact HM,HF,HB⟩
     case measure=>simp[intOf];omega
   | some p=>
     obtain⟨p1,p2,p3,-⟩:=kY _ _ _ hf;have hpm:p<m:=(by omega);have htm:t<m:=(by omega);have e1:gT M1 k t (m-t)=p:=(by unfold gT;rw[hf]);rw[e1] at CB;have e2:bV M (k+1)=(bU (ja M1 t k p) t k m,t+1):=(by rw[HST.out];unfold iV;rw[HL1.out,hf]);have E2:=ae e2;clear e1 e2 hf HST;obtain⟨g,rfl,hgC,hgs⟩:=HM.out.form (by omega);obtain⟨at_,ct,hct,hft,hot⟩:=HM.out.at2 htm (HW1.out.get (by rw[HL1.out];exact htm)).1;obtain⟨ap,cp,hcp,hfp,hop⟩:=HM.out.at2 hpm (HW1.out.get (by rw[HL1.out];exact hpm)).1;have HS:=ae (HM.out.swap htm hpm hct hcp);have hp0:¬((p:Int)<0):=(by omega);have htI:(t:Int)<(m:Int):=(by omega);have hpI:(p:Int)<(m:Int):=(by omega);go_wp2_with fail;refine CB.out.mono ?_;rintro e w2 ⟨rfl,rfl⟩;obtain⟨N,hN⟩:∃N,N=swp M1 t p:=⟨_,rfl⟩;have e3:ja M1 t k p=N.set t (jS (fi (gt N t k)) (N.getD t [])):=(by rw[hN];rfl);have hNl:N.length=m:=by rw[hN,ij];exact HL1.out
     have hNw:Wf n N:=by
      rw[hN];refine uq fun i hi=> ?_;rw[ij,HL1.out] at hi;rw[lJ (by rw[HL1.out];exact htm) (by rw[HL1.out];exact hpm)];exact HW1.out.get (by rw[HL1.out];exact ut htm hpm hi)
     rw[e3] at E2;rw[<-hN] at HS;have HNL:=ae hNl;have HNW:=ae hNw;clear e3 hN hNl hNw p3;go_wp2_with fail;go_cut [] (fun wx=>Hid (Fld wx gf)/\Hid (Below C w wx)/\g<wx.heap.size/\Hid (MOwn wx C (slice (some ⟨g,0,none⟩) m c) N))
     case first=>
      by_cases htp:t=p
      ·subst htp
       rw[hct] at hcp;obtain⟨rfl,rfl⟩:at_=ap/\ct=cp:=(by simpa using hcp);clear hcp hfp hop hot;go_region;have HF2:Hid (Fld ((wr.setCell ⟨g,t,none⟩ (Value.slice at_ n ct)).setCell ⟨g,t,none⟩ (Value.slice at_ n ct)).drew gf):=ae (Blk.far (w:=wr.setCell ⟨g,t,none⟩ (Value.slice at_ n ct)) (Blk.far (w:=wr) HF.out (vW HM.out HF.out) _) (vW HM.out HF.out) _);have HB2:Hid (Below C w ((wr.setCell ⟨g,t,none⟩ (Value.slice at_ n ct)).setCell ⟨g,t,none⟩ (Value.slice at_ n ct)).drew):=ae (((HB.out.setCell (p:=⟨g,t,none⟩) hgC _).setCell (p:=⟨g,t,none⟩) hgC _).drew);have hgs2:g<((wr.setCell ⟨g,t,none⟩ (Value.slice at_ n ct)).setCell ⟨g,t,none⟩ (Value.slice at_ n ct)).drew.heap.size:=(by simpa[World.setCell] using hgs);have HS3:Hid (MOwn ((wr.setCell ⟨g,t,none⟩ (Value.slice at_ n ct)).setCell ⟨g,t,none⟩ (Value.slice at_ n ct)).drew C (Value.slice (some ⟨g,0,none⟩) m c) N):=ae (HS.out.drewN 1);go_wp2_with fail;go_meet;exact⟨HF2,HB2,hgs2,HS3⟩
      ·have htp':¬((t:Int)=(p:Int)):=by omega
       clear hop hot;go_region;have HF2:Hid (Fld ((wr.setCell ⟨g,t,none⟩ (Value.slice ap n cp)).setCell ⟨g,p,none⟩ (Value.slice at_ n ct)).drew gf):=ae (Blk.far (w:=wr.setCell ⟨g,t,none⟩ (Value.slice ap n cp)) (Blk.far (w:=wr) HF.out (vW HM.out HF.out) _) (vW HM.out HF.out) _);have HB2:Hid (Below C w ((wr.setCell ⟨g,t,none⟩ (Value.slice ap n cp)).setCell ⟨g,p,none⟩ (Value.slice at_ n ct)).drew):=ae (((HB.out.setCell (p:=⟨g,t,none⟩) hgC _).setCell (p:=⟨g,p,none⟩) hgC _).drew);have hgs2:g<((wr.setCell ⟨g,t,none⟩ (Value.slice ap n cp)).setCell ⟨g,p,none⟩ (Value.slice at_ n ct)).drew.heap.size:=(by simpa[World.setCell] using hgs);have HS3:Hid (MOwn ((wr.setCell ⟨g,t,none⟩ (Value.slice ap n cp)).setCell ⟨g,p,none⟩ (Value.slice at_ n ct)).drew C (Value.slice (some ⟨g,0,none⟩) m c) N):=ae (HS.out.drewN 1);go_wp2_with fail;go_meet;exact⟨HF2,HB2,hgs2,HS3⟩
     case rest=>
     obtain⟨HF2,HB2,hgs2,HS3⟩:=hcut;clear CB hle hgs HW1 HL1 HS hct hft hcp hfp hop hot HM HF HB;obtain⟨at2,ct2,hct,hft,hot⟩:=HS3.out.at2 htm (HNW.out.get (by rw[HNL.out];exact htm)).1;have hotb:=(HNW.out.get (i:=t) (by rw[HNL.out];exact htm)).2;have hotl:=(HNW.out.get (i:=t) (by rw[HNL.out];exact htm)).1;have hkn:k<n:=(by omega);obtain⟨at3,ct3,e3,hrt⟩:=hot.rd;injection e3 with e3 e4 e5;subst e3 e5;clear e4;rw[hotl] at hrt;obtain⟨bt,ot,rfl,hbt,hcc⟩:=hrt.atB hkn;have cx:=hcc k hkn;have hgt:(N.getD t []).getD k 0=gt N t k:=rfl;rw[hgt] at cx;have hgb:=HNW.out.lt t k
     have HPW:Hid (Wf n (N.set t (jS (fi (gt N t k)) (N.getD t [])))):=ae (by
      intro r hr;rcases mem_or_eq_of_mem_set hr with h | h
      ·exact HNW.out r h
      ·rw[h];exact⟨by rw[lV];exact hotl,By.sc _ _⟩)
     have CI:=ae (Ox gf (gt N t k) hgb wc.drew (Blk.drew HF2.out));have CS:=ae fun j=>Hd (some ⟨gf,0,none⟩) (fi (gt N t k)) (N.getD t []) (some ⟨bt,ot,none⟩) n ct2 (wc.drewN j) (Fp.of (Blk.drewN HF2.out j)) (vI _) hrt hotb hn;have hk1:(k:Int)<(n:Int):=(by omega);clear hcc hot hrt hotb hotl hgt;generalize hQ:N.set t (jS (fi (gt N t k)) (N.getD t []))=Q at*;have HQ:=ae hQ;clear hQ;generalize gt N t k=q at*;generalize fi q=fq at*;have HRL:Hid (jS fq (N.getD t [])=jS fq (N.getD t [])):=ae rfl;generalize jS fq (N.getD t [])=R at*;go_wp2_with fail;go_cut [] (fun wx=>Hid (Fld wx gf)/\Hid (Below C w wx)/\Hid (MOwn wx C (slice (some ⟨g,0,none⟩) m c) Q))
     case first=>
      go_region_with (first
       | (go_at_call 335;refine CI.out.mono ?_;rintro e w4 ⟨rfl,j,rfl⟩)
       | (go_at_call 334;refine(CS.out _).mono ?_;rintro e w5 ⟨v5,rfl,ho5,hb5⟩;obtain⟨a5,c5,rfl,hr5⟩:=ho5.rd;clear hr5
          have hf5:=(hb5.frozen (p:=⟨g,t,none⟩) hgs2).trans hft;have hc5:=(hb5.cell (p:=⟨g,t,none⟩) hgs2).trans hct))
      all_goals(
       have hM5:=MOwn.put (w0:=wc.drewN (1+j)) (HS3.out.drewN (1+j)) hb5 htm ho5 (by have:=HB2.out.size;show C<=wc.heap.size;omega);rw[HQ.out] at hM5;have HF5:Hid (Fld (w5.setCell ⟨g,t,none⟩ (Value.slice a5 R.length c5)) gf):=ae (Blk.far (w:=w5) (Blk.below (Blk.drewN HF2.out (1+j)) hb5 (Blk.lt HF2.out)) (vW HS3.out HF2.out) _);have HB5:Hid (Below C w (w5.setCell ⟨g,t,none⟩ (Value.slice a5 R.length c5))):=ae (((below_drewN HB2.out (1+j)).trans (hb5.mono (by have:=HB2.out.size;show C<=wc.heap.size;omega))).setCell (p:=⟨g,t,none⟩) hgC _);have HM5:=ae hM5;clear hM5 hb5 ho5;go_wp2_with fail;go_meet;exact⟨HF5,HB5,HM5⟩)
     case rest=>
     obtain⟨HF3,HB3,HM3⟩:=hcut;have HQL:Hid (Q.length=m):=ae (by rw[<-HQ.out,length_set];exact HNL.out);clear CI CS HRL HF2 HB2 hgs2 HS3 hft hct hbt hk1 cx hgb HNL HNW HQ p1 p2 hpm hpI hp0;have HM4:Hid (MOwn wc C (slice (some ⟨g,0,none⟩) m c) (bU Q t k 0)):=ae (by rw[rR];exact HM3.out);clear HM3;go_wp2_with fail;go_loopw [10,55] (fun _ i wq=>∃r:Nat,r<=m/\i=int i64 r/\Hid (MOwn wq C (slice (some ⟨g,0,none⟩) m c) (bU Q t k r))/\Hid (Fld wq gf)/\Hid (Below C w wq)) (fun _ i _=>m-(intOf i).toNat)
     case atStart=>exact⟨0,by omega,rfl,HM4,HF3,HB3⟩
     case round=>
      clear HM4 HF3 HB3;obtain⟨r,hr,rfl,HM4,HF3,HB3⟩:=hrel;by_cases hrm:r<m
      ·have hrmI:(r:Int)<(m:Int):=by omega
       have hrQ:r<Q.length:=(by rw[HQL.out];exact hrm);have htQ:t<Q.length:=(by rw[HQL.out];exact htm);by_cases hrt:r=t
       ·have hrtI:((r:Int) != (t:Int))=false:=by simp[hrt]
        have HM5:Hid (MOwn wr C (slice (some ⟨g,0,none⟩) m c) (bU Q t k (r+1))):=ae (by rw[jp HPW.out hrQ,bf hrt];exact HM4.out);clear hrt HM4;go_wp2_with fail;go_roundw
        case rel=>exact⟨r+1,by omega,by go_num,HM5,HF3,HB3⟩
        case measure=>simp[intOf];omega
       ·have hrtI:((r:Int) != (t:Int))=true:=by simp;omega
        have hwE:=mU HPW.out k r htQ;have hlE:(bU Q t k r).length=m:=(by rw[eQ];exact HQL.out);have hrw1:(bU Q t k r).getD r []=Q.getD r []:=(by rw[fD t k r hrQ,bg (by omega)]);have hrw2:(bU Q t k r).getD t []=Q.getD t []:=(by rw[fD t k r htQ,bg (by omega)]);obtain⟨ar,cr,hcr,-,hor⟩:=HM4.out.at2 hrm (hwE.get (i:=r) (by rw[hlE];exact hrm)).1;obtain⟨at4,ct4,hct4,-,hot4⟩:=HM4.out.at2 htm (hwE.get (i:=t) (by rw[hlE];exact htm)).1;obtain⟨hot5,hkeep⟩:=HM4.out.two htm hrm (fun e=>hrt e.symm) hct4 hcr;rw[hrw1] at hor;rw[hrw2] at hkeep hot4;have hgr:=HPW.out.get hrQ;have hgt2:=HPW.out.get htQ;obtain⟨ar3,cr3,e3,hrr⟩:=hor.rd;injection e3 with e3 e4 e5;subst e3 e5;clear e4;rw[hgr.1] at hrr;obtain⟨br,orr,rfl,hbr,hcc⟩:=hrr.atB hkn;have cx:=hcc k hkn;have hgt3:(Q.getD r []).getD k 0=gt Q r k:=rfl;rw[hgt3] at cx
        have hx:∀w',wr.drew.grownBy w' (Value.slice (some ⟨br,orr,none⟩) n cr).ownBlock->Rd w' w'.heap.size at4 n (bF (Q.getD t [])):=fun w' hg=>by
         obtain⟨a6,c6,e6,h6⟩:=(hkeep w' (grownBy_trans (ji (grownBy_refl wr _) 1) hg)).rd;injection e6 with e7 e8 e9;subst e7;rw[hgt2.1] at h6;exact h6
        have CA:=ae (LQ gf (gt Q r k) (Q.getD t []) (Q.getD r []) at4 n ct4 C (slice (some ⟨br,orr,none⟩) n cr) wr.drew (Blk.drew HF3.out) (HPW.out.lt r k) hx (hor.drewN 1) hgr.1 hgt2.2 hgr.2 hn);have hstep:bU Q t k (r+1)=(bU Q t k r).set r (kS (gt Q r k) (Q.getD t []) (Q.getD r [])):=(by rw[jp HPW.out hrQ,bg hrt]);have HSTEP:=ae hstep;have HOR:=ae hor;have hk1:(k:Int)<(n:Int):=(by omega);have hwrs:C<=wr.heap.size:=(by have:=HB3.out.size;omega);clear hkeep hor hot4 hot5 hrr hcc hx hwE hlE hrw1 hrw2 hgr hgt2 hgt3 hstep;generalize kS (gt Q r k) (Q.getD t []) (Q.getD r [])=X at*;generalize gt Q r k=q at*;go_wp2_with fail
        go_still_tail 16,(by kernel_rfl)
        change wpList _ _ _ _ _ wr.drew;go_wp2_with fail;refine CA.out.mono ?_;rintro e w6 ⟨rfl,ho6,hg6⟩;have hg6':wr.grownBy w6 (Value.slice (some ⟨br,orr,none⟩) n cr).ownBlock:=grownBy_trans (ji (grownBy_refl wr _) 1) hg6;have HM6:Hid (MOwn w6 C (slice (some ⟨g,0,none⟩) m c) (bU Q t k (r+1))):=ae (by rw[HSTEP.out];exact HM4.out.wrote hrm hcr hg6' ho6);have HF6:Hid (Fld w6 gf):=ae (Ik HF3.out HOR.out hg6');have HB6:Hid (Below C w w6):=ae (HB3.out.trans (oI hg6' (fun g hg=>(HOR.out.lt g hg).1) hwrs));clear ho6 hg6 hg6' HM4 HF3 HB3 hcr hct4 cx CA HSTEP HOR;go_wp2_with fail;go_roundw
        case rel=>exact⟨r+1,by omega,by go_num,HM6,HF6,HB6⟩
        case measure=>simp[intOf];omega
      ·obtain rfl:r=m:=by omega
       have HM7:Hid (MOwn wr C (slice (some ⟨g,0,none⟩) r c) (bV M (k+1)).1):=ae (by rw[E2.out];exact HM4.out);have HT7:Hid (t+1=(bV M (k+1)).2):=ae (by rw[E2.out]);have ht1:(t:Int)+1=(((bV M (k+1)).2:Nat):Int):=(by rw[<-HT7.out];omega);have HT8:=ae ht1;clear ht1 HM4 E2;go_wp2_with fail;go_roundw
       case rel=>exact⟨k+1,by omega,by go_num,by rw[<-HT8.out],HM7,HF3,HB3⟩
       case measure=>simp[intOf];omega
  ·obtain rfl:k=cols:=by omega
   go_wp2_with fail;go_ret;exact⟨rfl,HM.out,HB.out⟩
theorem Pk{n:Nat}{M:List (List Nat)}(h:Wf n M):wid M<=n:=by
 by_cases h0:M=[]
 ·subst h0;exact bu _
 ·rw[lK h h0];exact ah _
theorem D6(p:Option Addr)(n m c:Nat)(M:List (List Nat))(a:Option Addr)(w:World)(hF:Fp w p)(h:RdM w w.heap.size a m M)(hW:Wf n M)(hn:n<=64)(hm:m<=1000000):
 Calls prog 318 #[.pointer p,slice a m c] w fun e w'=>∃v,e=returned v/\MOwn w' w.heap.size v (dE M)/\Below w.heap.size w w':=by
 have CM:=ae (yJ n m M _ a c w h hW hn hm);have CO:=ae (EE M _ a m c w h (ah _) (fun l hl=>by have:=(hW l hl).1;omega) hm);have HW:=ae hW;have HF:=ae hF;have HL:=ae h.len;clear h hW hF;go_enter func318,ntmps318;go_wp2_with fail;refine CM.out.mono ?_;rintro e w1 ⟨rfl,rfl⟩;go_wp2_with fail;refine CO.out.mono ?_;rintro e w1 ⟨g,c',rfl,hM,hb⟩;have HM:=ae hM;have HB:=ae hb;have HF1:=ae (HF.out.below hb (ah _));clear hM hb CM CO;go_wp2_with fail;refine(Ap p w1 HF1.out).mono ?_;rintro e w2 ⟨gf,rfl,hfl,hb⟩;have HM2:=ae (HM.out.new hb);have HB2:=ae (HB.out.trans (hb.mono HB.out.size));have HFL:=ae hfl;clear hfl hb HM HB HF1 HF;go_wp2_with fail;refine(xx M _ (some ⟨g,0,none⟩) m c' w2 HM2.out.rdM hm).mono ?_;rintro e w3 ⟨rfl,rfl⟩;obtain⟨ls,hinv⟩:=iK HW.out (wid M);have hle:=hinv.le;rw[iL,HL.out] at hle;have hcap:=HM2.out.caps;have CR:=ae (vX gf n m (wid M) c' w.heap.size M (some ⟨g,0,none⟩) w2 HFL.out HM2.out HW.out (Pk HW.out) HB2.out.size hm (by omega));have hrr:(bV M (wid M)).1.take (bV M (wid M)).2=dE M:=rfl;have HRR:=ae hrr;have hkc:(bV M (wid M)).2<=c':=by omega
 clear hinv hrr hcap;generalize (bV M (wid M)).1=X at*;generalize (bV M (wid M)).2=k at*;go_wp2_with fail;refine CR.out.mono ?_;rintro e w3 ⟨rfl,hM,hb⟩;have HM3:Hid (MOwn w3 w.heap.size (slice (some ⟨g,0,none⟩) k c') (dE M)):=ae (by rw[<-HRR.out];exact hM.take hle);have HB3:=ae (HB2.out.trans hb);clear hM hb HM2 HB2 CR HRR;go_wp2_with fail;go_ret
 trace_state
 exact⟨_,rfl,HM3.out,HB3.out⟩
theorem K6(p:Option Addr)(n m c:Nat)(M:List (List Nat))(a:Option Addr)(w:World)(hF:Fp w p)(h:RdM w w.heap.size a m M)(hW:Wf n M)(hn:n<=64)(hm:m<=1000000):
 Calls prog 290 #[.pointer p,slice a m c] w fun e w'=>e=returned (int i64 ((dE M).length:Nat))/\Below w.heap.size w w':=by
 have CR:=ae (D6 p n m c M a w hF h hW hn hm);clear hF h hW;go_enter func290,ntmps290;go_wp2_with fail;refine CR.out.mono ?_;rintro e w1 ⟨v,rfl,hM,hb⟩;obtain⟨a1,c1,rfl⟩:=hM.val;go_wp2_with fail;go_ret;exact⟨rfl,hb⟩
theorem KR{w:World}{B:Nat}{a:Option Addr}{len cap:Nat}{xs:List Nat}(h:Rd w B a len (bF xs))(hc:len<=cap){lo n:Nat}(hn:lo+n<=len):
 Rd w B (if cap=lo then a else Option.map (fun x=>x.add lo) a) n (bF ((xs.drop lo).take n)):=by
 have hl:=h.len;rw[bI] at hl;refine⟨by rw[bI,aG,length_drop];omega,fun h0=> ?_⟩;obtain⟨b,o,rfl,hb,hcell⟩:=h.atB (k:=lo) (by omega);rw[bg (by omega)];refine⟨b,o+lo,by simp[Addr.add_lit],hb,fun i u hu=> ?_⟩
 have hi:i<n:=by
  have:=(List.getElem?_eq_some_iff.1 hu).1;rw[bI,aG,length_drop] at this;omega
 have:=hcell (lo+i) (by omega);rw[<-Nat.add_assoc] at this;rw[this];rw[dX (by rw[aG,length_drop];omega)] at hu;rw[<-hu];simp only[af,List.getElem?_take,bf hi,List.getElem?_drop]
