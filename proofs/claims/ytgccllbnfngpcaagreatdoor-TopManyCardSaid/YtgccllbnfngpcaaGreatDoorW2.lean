import Derived.Test.YtgccllbnfngpcaaGreatDoorW1
import Derived.StillTailTactics
import Derived.Laws.CopyOwn
set_option linter.unusedVariables false
set_option maxRecDepth 100000
set_option maxHeartbeats 400000000
namespace Go.Proofs.YtgccllbnfngpcaaGreatDoor
open Go.RowKit _root_.Go.Proofs.Tryz List
open Value (int slice pointer bool)
open IntKind (i64)
open Ending (returned)
open Obj (cells)
def kr(c:Nat)(a b:Nat->Nat):Nat->Nat:=fun j=>b j ^^^ fm c (a j)
def vz:Nat->Nat:=fun _=>0
def Vb(v:Nat->Nat):Prop:=∀j,v j<256
theorem Pe:Vb vz:=fun _=>(by decide:(0:Nat)<256)
theorem Oh{c:Nat}{a b:Nat->Nat}(hb:Vb b):Vb (kr c a b):=fun j=>rH (hb j) (gQ _ _)
inductive Spn (M:List (Nat->Nat)):(Nat->Nat)->Prop where
 | zero:Spn M vz
 | add (c:Nat) (r v:Nat->Nat):c<256->r∈M->Spn M v->Spn M (kr c r v)
theorem DJ(a b:Nat):a ^^^ b ^^^ b=a:=by rw[Nat.xor_assoc,Nat.xor_self,Nat.xor_zero]
theorem KJ(a b c:Nat):a ^^^ b ^^^ c=a ^^^ c ^^^ b:=by rw[Nat.xor_assoc,Nat.xor_comm b c,<-Nat.xor_assoc]
theorem jm(a:Nat)(h:a<256):fm 1 a=a:=by rw[iR,ko a h]
theorem KL{c:Nat}{a b:Nat->Nat}:kr c a (kr c a b)=b:=funext fun j=>DJ _ _
theorem Bf{a b:Nat->Nat}:kr 0 a b=b:=funext fun j=>by unfold kr;rw[dh,Nat.xor_zero]
theorem Pf{c d:Nat}{a b v:Nat->Nat}(hc:c<256)(hd:d<256)(ha:Vb a)(hb:Vb b):kr c (kr d a b) v=kr c b (kr (fm c d) a v):=funext fun j=>by
 unfold kr;rw[mI hc (hb j) (gQ _ _),<-jA c d (a j) hc hd (ha j),<-Nat.xor_assoc,KJ]
theorem Spn.vb{M:List (Nat->Nat)}{v:Nat->Nat}(h:Spn M v):Vb v:=by
 induction h with
 | zero=>exact Pe
 | add c r v hc hr _ ih=>exact Oh ih
theorem Spn.ax{M:List (Nat->Nat)}(hM:∀r∈M,Vb r){u v:Nat->Nat}{c:Nat}(hc:c<256)(hu:Spn M u)(hv:Spn M v):Spn M (kr c u v):=by
 induction hu generalizing v with
 | zero=>
   have:kr c vz v=v:=funext fun j=>(by unfold kr vz;rw[bK,Nat.xor_zero]);rw[this];exact hv
 | add d r u hd hr hs ih=>
   rw[Pf hc hd (hM r hr) hs.vb];exact ih (Spn.add _ r v (gQ _ _) hr hv)
theorem Spn.mem{M:List (Nat->Nat)}(hM:∀r∈M,Vb r){r:Nat->Nat}(hr:r∈M):Spn M r:=by
 have:kr 1 r vz=r:=funext fun j=>by unfold kr vz;rw[Nat.zero_xor,jm _ (hM r hr j)]
 rw[<-this];exact Spn.add 1 r vz (by decide) hr .zero
theorem Spn.trans{M N:List (Nat->Nat)}(hN:∀r∈N,Vb r)(h:∀r∈M,Spn N r){v:Nat->Nat}(hv:Spn M v):Spn N v:=by
 induction hv with
 | zero=>exact .zero
 | add c r v hc hr _ ih=>exact Spn.ax hN hc (h r hr) ih
theorem Spn.sub{M N:List (Nat->Nat)}(h:∀r∈M,r∈N){v:Nat->Nat}(hv:Spn M v):Spn N v:=by
 induction hv with
 | zero=>exact .zero
 | add c r v hc hr _ ih=>exact .add c r v hc (h r hr) ih
structure RedV (M:List (Nat->Nat)) (ls:List Nat):Prop where
 len:M.length=ls.length
 up:ls.Pairwise (·< ·)
 one:∀(i:Nat) r l,M[i]? =some r->ls[i]? =some l->r l=1
 zero:∀(i k:Nat) r l,M[k]? =some r->ls[i]? =some l->k≠i->r l=0
 low:∀(i:Nat) r l,M[i]? =some r->ls[i]? =some l->∀j,j<l->r j=0
 byt:∀r∈M,Vb r
def oH:List (Nat->Nat)->List Nat->(Nat->Nat)->Nat->Nat
 | r :: M,l :: ls,w=>kr (w l) r (oH M ls w)
 | _,_,_=>vz
theorem Pg(M:List (Nat->Nat)):∀(ls:List Nat) (c:Nat) (u v:Nat->Nat),c<256->Vb u->Vb v->(∀r∈M,Vb r)->oH M ls (kr c u v)=kr c (oH M ls u) (oH M ls v):=by
 have hz:∀c,kr c vz vz=vz:=fun c=>funext fun j=>by unfold kr vz;rw[bK];rfl
 induction M with
 | nil=>intro ls c u v hc hu hv hM;simp only[oH,hz]
 | cons r M ih=>
   intro ls c u v hc hu hv hM;cases ls with
   | nil=>simp only[oH,hz]
   | cons l ls=>
     simp only[oH];rw[ih ls c u v hc hu hv fun r hr=>hM r (mem_cons_of_mem _ hr)];funext j;have hr:=hM r mem_cons_self j
     have h1:Vb (oH M ls u):=by
      clear ih
      have:∀(M:List (Nat->Nat)) ls,Vb (oH M ls u):=by
       intro M
       induction M with
       | nil=>intro ls;exact Pe
       | cons r M ih=>intro ls;cases ls with
         | nil=>exact Pe
         | cons l ls=>exact Oh (ih ls)
      exact this M ls
     show oH M ls v j ^^^ fm c (oH M ls u j) ^^^ fm (v l ^^^ fm c (u l)) (r j)=(oH M ls v j ^^^ fm (v l) (r j)) ^^^ fm c (oH M ls u j ^^^ fm (u l) (r j));rw[mJ (hv l) (gQ _ _) hr,mI hc (h1 j) (gQ _ _),jA c (u l) (r j) hc (hu l) hr]
     ac_rfl
theorem vM(M:List (Nat->Nat)):∀(ls:List Nat) (w:Nat->Nat),(∀l∈ls,w l=0)->oH M ls w=vz:=by
 induction M with
 | nil=>intro ls w h;rfl
 | cons r M ih=>
   intro ls w h;cases ls with
   | nil=>rfl
   | cons l ls=>
     simp only[oH];rw[ih ls w fun x hx=>h x (mem_cons_of_mem _ hx),h l mem_cons_self,Bf]
theorem Bg(M:List (Nat->Nat)):∀(ls:List Nat) (w:Nat->Nat) (i:Nat) (r:Nat->Nat),(∀r∈M,Vb r)->M.length=ls.length->M[i]? =some r->(∀(k:Nat) l,ls[k]? =some l->w l=if k=i then 1 else 0)->oH M ls w=r:=by
 induction M with
 | nil=>intro ls w i r _ _ h;simp at h
 | cons s M ih=>
   intro ls w i r hM hl h hw;cases ls with
   | nil=>simp at hl
   | cons l ls=>
     simp only[oH];cases i with
     | zero=>
       obtain rfl:s=r:=(by simpa using h);have h0:=hw 0 l rfl;simp at h0
       rw[h0,vM M ls w fun x hx=>by
        obtain⟨k,hk⟩:=List.getElem?_of_mem hx;have:=hw (k+1) x (by simpa using hk);simpa using this]
       funext j;unfold kr vz;rw[Nat.zero_xor,jm _ (hM s mem_cons_self j)]
     | succ i=>
       have h0:=hw 0 l rfl;simp at h0;rw[h0,Bf];refine ih ls w i r (fun r hr=>hM r (mem_cons_of_mem _ hr)) (by simpa using hl) (by simpa using h) fun k x hk=> ?_;have:=hw (k+1) x (by simpa using hk);simpa using this
theorem RedV.unit{M:List (Nat->Nat)}{ls:List Nat}(h:RedV M ls){i:Nat}{r:Nat->Nat}(hr:M[i]? =some r):∀(k:Nat) l,ls[k]? =some l->r l=if k=i then 1 else 0:=by
 intro k l hk;split
 ·rename_i e;subst e;exact h.one k r l hr hk
 ·rename_i e;exact h.zero k i r l hr hk (fun x=>e x.symm)
theorem RedV.eq_lco{M:List (Nat->Nat)}{ls:List Nat}(h:RedV M ls){v:Nat->Nat}(hv:Spn M v):oH M ls v=v:=by
 induction hv with
 | zero=>exact vM M ls vz fun _ _=>rfl
 | add c r v hc hr hs ih=>
   obtain⟨i,hi⟩:=List.getElem?_of_mem hr;rw[Pg M ls c r v hc (h.byt r hr) hs.vb h.byt,ih,Bg M ls r i r h.byt h.len hi (h.unit hi)]
theorem RedV.eq_zero{M:List (Nat->Nat)}{ls:List Nat}(h:RedV M ls){v:Nat->Nat}(hv:Spn M v)(h0:∀l∈ls,v l=0):v=vz:=by
 rw[<-h.eq_lco hv,vM M ls v h0]
theorem KM(M:List (Nat->Nat)):∀(ls:List Nat) (w:Nat->Nat) (j:Nat),(∀(i:Nat) r l,M[i]? =some r->ls[i]? =some l->w l=0\/r j=0)->oH M ls w j=0:=by
 induction M with
 | nil=>intro ls w j _;rfl
 | cons r M ih=>
   intro ls w j h;cases ls with
   | nil=>rfl
   | cons l ls=>
     simp only[oH,kr];rw[ih ls w j fun i s x h1 h2=>h (i+1) s x (by simpa using h1) (by simpa using h2)];have:fm (w l) (r j)=0:=DI.2 (h 0 r l rfl rfl);rw[this];rfl
theorem RedV.row{M:List (Nat->Nat)}{ls:List Nat}(h:RedV M ls){i l:Nat}(hl:ls[i]? =some l):∃r,M[i]? =some r:=by
 have:=(List.getElem?_eq_some_iff.1 hl).1;exact⟨_,ag (by rw[h.len];exact this)⟩
theorem RedV.first{M:List (Nat->Nat)}{ls:List Nat}(h:RedV M ls){v:Nat->Nat}(hv:Spn M v){j:Nat}(hj:v j≠0)(hlow:∀i,i<j->v i=0):j∈ls:=by
 apply Classical.byContradiction;intro hn;apply hj;rw[<-h.eq_lco hv];refine KM M ls v j fun i r l hr hl=> ?_;rcases Nat.lt_trichotomy l j with h1 | h1 | h1
 ·exact .inl (hlow l h1)
 ·exact absurd (by rw[<-h1];exact mem_of_getElem? hl) hn
 ·exact .inr (h.low i r l hr hl j h1)
theorem RedV.leads{M N:List (Nat->Nat)}{ls ms:List Nat}(hM:RedV M ls)(hN:RedV N ms)(h:∀r∈M,Spn N r):∀l∈ls,l∈ms:=by
 intro l hl;obtain⟨i,hi⟩:=List.getElem?_of_mem hl;obtain⟨r,hr⟩:=hM.row hi;refine hN.first (h r (mem_of_getElem? hr)) (j:=l) (by rw[hM.one i r l hr hi];decide) fun j hj=>hM.low i r l hr hi j hj
theorem qK{ls:List Nat}(h:ls.Pairwise (·< ·)):ls.Nodup:=h.imp fun h=>Nat.ne_of_lt h
theorem KN(ls:List Nat):∀ms:List Nat,ls.Pairwise (·< ·)->ms.Pairwise (·< ·)->(∀x,x∈ls↔x∈ms)->ls=ms:=by
 induction ls with
 | nil=>
   intro ms _ _ h;cases ms with
   | nil=>rfl
   | cons m ms=>have:=(h m).2 mem_cons_self;simp at this
 | cons l ls ih=>
   intro ms h1 h2 h;cases ms with
   | nil=>have:=(h l).1 mem_cons_self;simp at this
   | cons m ms=>
     rw[pairwise_cons] at h1 h2
     have e:l=m:=by
      have a:=(h l).1 mem_cons_self;have b:=(h m).2 mem_cons_self;rcases mem_cons.1 a with a | a
      ·exact a
      ·rcases mem_cons.1 b with b | b
       ·exact b.symm
       ·have:=h2.1 l a
        have:=h1.1 m b;omega
     subst e;congr 1;refine ih ms h1.2 h2.2 fun x=> ?_;constructor
     ·intro hx
      rcases mem_cons.1 ((h x).1 (mem_cons_of_mem _ hx)) with e | e
      ·subst e;exact absurd (h1.1 x hx) (Nat.lt_irrefl _)
      ·exact e
     ·intro hx
      rcases mem_cons.1 ((h x).2 (mem_cons_of_mem _ hx)) with e | e
      ·subst e;exact absurd (h2.1 x hx) (Nat.lt_irrefl _)
      ·exact e
theorem RedV.leads_eq{M N:List (Nat->Nat)}{ls ms:List Nat}(hM:RedV M ls)(hN:RedV N ms)(h1:∀r∈M,Spn N r)(h2:∀r∈N,Spn M r):ls=ms:=
 KN ls ms hM.up hN.up fun x=>⟨hM.leads hN h1 x,hN.leads hM h2 x⟩
theorem RedV.unique{M N:List (Nat->Nat)}{ls ms:List Nat}(hM:RedV M ls)(hN:RedV N ms)(h1:∀r∈M,Spn N r)(h2:∀r∈N,Spn M r):M=N:=by
 have e:=hM.leads_eq hN h1 h2;subst e;apply ext_getElem?;intro i;cases hm:M[i]? with
 | none=>
   rw[List.getElem?_eq_none_iff,hM.len,<-hN.len] at hm;rw[List.getElem?_eq_none hm]
 | some r=>
   have hi:=(List.getElem?_eq_some_iff.1 hm).1;rw[ag (by rw[hN.len,<-hM.len];exact hi)];have hn:N[i]? =some (N[i]'(by rw[hN.len,<-hM.len];exact hi)):=ag _;generalize N[i]'(by rw[hN.len,<-hM.len];exact hi)=s at*;congr 1;rw[<-hN.eq_lco (h1 r (mem_of_getElem? hm))];exact Bg N ls r i s hN.byt hN.len hn (hM.unit hm)
theorem RedV.le{M N:List (Nat->Nat)}{ls ms:List Nat}(hM:RedV M ls)(hN:RedV N ms)(h:∀r∈M,Spn N r):M.length<=N.length:=by
 rw[hM.len,hN.len];exact(qK hM.up).length_le_of_subset fun l hl=>hM.leads hN h l hl
theorem RedV.whole{M N:List (Nat->Nat)}{ls ms:List Nat}(hM:RedV M ls)(hN:RedV N ms)(h:∀r∈M,Spn N r)(hc:N.length<=M.length){v:Nat->Nat}(hv:Spn N v):Spn M v:=by
 have hsub:=hM.leads hN h
 have hms:∀l∈ms,l∈ls:=by
  intro l hl;apply Classical.byContradiction;intro hn;have h1:(l :: ls).Nodup:=nodup_cons.2 ⟨hn,qK hM.up⟩
  have h2:=h1.length_le_of_subset (l₂:=ms) fun x hx=>by
   rcases mem_cons.1 hx with e | e
   ·subst e;exact hl
   ·exact hsub x e
  have:=hM.len;have:=hN.len;simp at h2;omega
 have hsp:∀(M:List (Nat->Nat)) ls,(∀r∈M,Vb r)->∀v:Nat->Nat,Vb v->Spn M (oH M ls v):=by
  intro M
  induction M with
  | nil=>intro ls _ v _;exact .zero
  | cons r M ih=>
    intro ls hb v hv;cases ls with
    | nil=>exact .zero
    | cons l ls=>exact .add _ r _ (hv l) mem_cons_self ((ih ls (fun r hr=>hb r (mem_cons_of_mem _ hr)) v hv).sub fun r hr=>mem_cons_of_mem _ hr)
 have h1:=hsp M ls hM.byt v hv.vb;have h2:Spn N (kr 1 (oH M ls v) v):=Spn.ax hN.byt (by decide) (h1.trans hN.byt h) hv
 have h3:kr 1 (oH M ls v) v=vz:=by
  refine hN.eq_zero h2 fun l hl=> ?_;obtain⟨i,hi⟩:=List.getElem?_of_mem (hms l hl)
  have e:oH M ls v l=v l:=by
   obtain⟨r,hr⟩:=hM.row hi;have hu:=hM.unit hr
   have:∀(M:List (Nat->Nat)) (ls':List Nat) (i:Nat),M.length=ls'.length->ls'[i]? =some l->(∀(k:Nat) r,M[k]? =some r->r l=if k=i then 1 else 0)->oH M ls' v l=v l:=by
    intro M
    induction M with
    | nil=>intro ls' i h1 h2 _;cases ls' with
      | nil=>simp at h2
      | cons x y=>simp at h1
    | cons r M ih=>
      intro ls' i h1 h2 h3;cases ls' with
      | nil=>simp at h1
      | cons x ls'=>
        have h0:=h3 0 r rfl;cases i with
        | zero=>
          obtain rfl:x=l:=(by simpa using h2);simp at h0;have:oH M ls' v x=0:=KM M ls' v x fun k s y hs hy=>.inr (by have:=h3 (k+1) s (by simpa using hs);simpa using this);simp only[oH,kr];rw[this,h0,Nat.zero_xor,ko _ (hv.vb x)]
        | succ i=>
          simp at h0;simp only[oH,kr];rw[h0,bK,Nat.xor_zero];exact ih ls' i (by simpa using h1) (by simpa using h2) fun k s hs=>by have:=h3 (k+1) s (by simpa using hs);simpa using this
   refine this M ls i hM.len hi fun k s hs=> ?_;split
   ·rename_i e;subst e;exact hM.one k s l hs hi
   ·rename_i e;exact hM.zero i k s l hs hi e
  unfold kr;rw[e,jm _ (hv.vb l),Nat.xor_self]
 have h4:v=oH M ls v:=by
  funext j;have:=congrFun h3 j;unfold kr vz at this;rw[jm _ (h1.vb j)] at this;exact qJ this
 rw[h4];exact h1
def gt(M:List (List Nat))(i j:Nat):Nat:=(M.getD i []).getD j 0
def kS(c:Nat)(a b:List Nat):List Nat:=zipWith (fun x y=>y ^^^ fm c x) a b
def jS(c:Nat)(a:List Nat):List Nat:=a.map fun x=>fm c x
def vO(r:List Nat):Nat->Nat:=fun j=>r.getD j 0
def swp(M:List (List Nat))(i j:Nat):List (List Nat):=(M.set i (M.getD j [])).set j (M.getD i [])
def bU(M:List (List Nat))(top col k:Nat):List (List Nat):=M.mapIdx fun i r=>if i<k/\i≠top then kS (r.getD col 0) (M.getD top []) r else r
def ma(M:List (List Nat))(col:Nat):Nat->Nat->Option Nat
 | _,0=>none
 | i,n+1=>if gt M i col≠0 then some i else ma M col (i+1) n
def ja(M:List (List Nat))(top col p:Nat):List (List Nat):=(swp M top p).set top (jS (fi (gt (swp M top p) top col)) ((swp M top p).getD top []))
def iV(M:List (List Nat))(top col:Nat):List (List Nat)×Nat:=
 match ma M col top (M.length-top) with
 | none=>(M,top)
 | some p=>(bU (ja M top col p) top col M.length,top+1)
def bV(M:List (List Nat)):Nat->List (List Nat)×Nat
 | 0=>(M,0)
 | col+1=>iV (bV M col).1 (bV M col).2 col
def wid(M:List (List Nat)):Nat:=(M.getD 0 []).length
def dE(M:List (List Nat)):List (List Nat):=(bV M (wid M)).1.take (bV M (wid M)).2
def Wf(n:Nat)(M:List (List Nat)):Prop:=∀r∈M,r.length=n/\∀x∈r,x<256
theorem getD_lt{r:List Nat}(h:∀x∈r,x<256)(j:Nat):r.getD j 0<256:=by
 rcases bq j r.length with hj | hj
 ·rw[af,ag hj];exact h _ (aP hj)
 ·rw[af,List.getElem?_eq_none hj];decide
theorem iq{r:List Nat}(h:∀x∈r,x<256):Vb (vO r):=fun j=>getD_lt h j
theorem Wf.row{n:Nat}{M:List (List Nat)}(h:Wf n M)(i:Nat):(M.getD i []=[]/\M.length<=i)\/((M.getD i []).length=n/\(∀x∈M.getD i [],x<256)/\i<M.length/\M.getD i []∈M):=by
 rcases bq i M.length with hi | hi
 ·rw[af,ag hi]
  have:=h _ (aP hi);exact .inr ⟨this.1,this.2,hi,aP hi⟩
 ·rw[af,List.getElem?_eq_none hi];exact .inl ⟨rfl,hi⟩
theorem Wf.lt{n:Nat}{M:List (List Nat)}(h:Wf n M)(i j:Nat):gt M i j<256:=by
 unfold gt;rcases h.row i with⟨h1,_⟩ | ⟨_,h1,_⟩
 ·rw[h1];simp
 ·exact getD_lt h1 j
theorem um{M:List (List Nat)}{i:Nat}(h:M.length<=i)(j:Nat):gt M i j=0:=by
 unfold gt;rw[af (l:=M),List.getElem?_eq_none h];simp
theorem fP{c:Nat}{a b:List Nat}(h:a.length=b.length):(kS c a b).length=b.length:=by unfold kS;rw[length_zipWith];omega
theorem kE{c:Nat}{a b:List Nat}(h:a.length=b.length)(j:Nat):(kS c a b).getD j 0=b.getD j 0 ^^^ fm c (a.getD j 0):=by
 unfold kS;rcases bq j b.length with hj | hj
 ·simp only[af,List.getElem?_zipWith,ag hj,ag (show j<a.length by omega),Option.getD_some]
 ·simp only[af,List.getElem?_zipWith,List.getElem?_eq_none hj,List.getElem?_eq_none (show a.length<=j by omega),Option.getD_none,bK];rfl
theorem pY{c:Nat}{a b:List Nat}(h:∀x∈b,x<256):∀x∈kS c a b,x<256:=by
 intro x hx;unfold kS at hx;obtain⟨i,hi⟩:=List.getElem?_of_mem hx;rw[List.getElem?_zipWith] at hi;cases ha:a[i]? with
 | none=>simp[ha] at hi
 | some u=>
   cases hb:b[i]? with
   | none=>simp[ha,hb] at hi
   | some v=>
     simp[ha,hb] at hi;rw[<-hi];exact rH (h v (mem_of_getElem? hb)) (gQ _ _)
theorem jk(c:Nat)(a:List Nat)(j:Nat):(jS c a).getD j 0=fm c (a.getD j 0):=by
 unfold jS;simp only[af,List.getElem?_map];cases a[j]? with
 | none=>simp[bK]
 | some x=>simp
theorem zN{a b:List Nat}(h:a.length=b.length):kS 0 a b=b:=by
 refine ext_getElem? fun i=> ?_;unfold kS;rw[List.getElem?_zipWith];rcases bq i b.length with hj | hj
 ·simp only[ag hj,ag (show i<a.length by omega),dh,Nat.xor_zero]
 ·simp only[List.getElem?_eq_none hj,List.getElem?_eq_none (show a.length<=i by omega)]
theorem NU{c:Nat}{a b:List Nat}(h:a.length=b.length):vO (kS c a b)=kr c (vO a) (vO b):=funext fun j=>kE h j
theorem ym{n:Nat}{a b:List Nat}(ha:a.length=n)(hb:b.length=n)(h:vO a=vO b):a=b:=by
 refine ext_getElem (by omega) fun i h1 h2=> ?_;have:=congrFun h i;simpa[vO,h1,h2] using this
theorem Eo{n:Nat}{a:List Nat}(ha:a.length=n)(h:∀j,j<n->a.getD j 0=0):vO a=vz:=funext fun j=>by
 rcases bq j n with hj | hj
 ·exact h j hj
 ·unfold vO vz;rw[af,List.getElem?_eq_none (by omega)];rfl
theorem kY{M:List (List Nat)}{col:Nat}:∀(n i p:Nat),ma M col i n=some p->i<=p/\p<i+n/\gt M p col≠0/\∀k,i<=k->k<p->gt M k col=0:=by
 intro n
 induction n with
 | zero=>intro i p h;simp[ma] at h
 | succ n ih=>
   intro i p h;rw[ma] at h;split at h
   ·rename_i hg
    obtain rfl:i=p:=(by simpa using h);exact⟨ah _,by omega,hg,fun k h1 h2=>by omega⟩
   ·rename_i hg
    obtain⟨h1,h2,h3,h4⟩:=ih (i+1) p h;refine⟨by omega,by omega,h3,fun k hk1 hk2=> ?_⟩;by_cases hk:k=i
    ·subst hk;exact Classical.byContradiction fun h=>hg h
    ·exact h4 k (by omega) hk2
theorem FN{M:List (List Nat)}{col:Nat}:∀(n i:Nat),ma M col i n=none->∀k,i<=k->k<i+n->gt M k col=0:=by
 intro n
 induction n with
 | zero=>intro i h k h1 h2;omega
 | succ n ih=>
   intro i h k h1 h2;rw[ma] at h;split at h
   ·simp at h
   ·rename_i hg
    by_cases hk:k=i
    ·subst hk;exact Classical.byContradiction fun h=>hg h
    ·exact ih (i+1) h k (by omega) (by omega)
def sg(a b k:Nat):Nat:=if k=a then b else if k=b then a else k
theorem ij(M:List (List Nat))(i j:Nat):(swp M i j).length=M.length:=by simp[swp]
theorem lJ{M:List (List Nat)}{i j:Nat}(hi:i<M.length)(hj:j<M.length)(k:Nat):(swp M i j).getD k []=M.getD (sg i j k) []:=by
 unfold swp sg;simp only[af,List.getElem?_set,length_set];by_cases h1:k=i
 ·subst h1
  by_cases h2:j=k
  ·subst h2;simp[hi]
  ·simp[hi,h2]
 ·by_cases h2:k=j
  ·subst h2;simp[hj,h1]
  ·rw[bg (fun e=>h2 e.symm),bg (fun e=>h1 e.symm),bg h1,bg h2]
theorem fV(M:List (List Nat))(top col p:Nat):(ja M top col p).length=M.length:=by simp[ja,ij]
theorem mg{M:List (List Nat)}{top col p:Nat}(ht:top<M.length)(hp:p<M.length)(k:Nat):(ja M top col p).getD k []=if k=top then jS (fi (gt M p col)) (M.getD p []) else M.getD (sg top p k) []:=by
 have e1:=lJ ht hp top;have e2:sg top p top=p:=by unfold sg;simp
 rw[e2] at e1;unfold ja;have e3:gt (swp M top p) top col=gt M p col:=by unfold gt;rw[e1]
 rw[e3,e1];by_cases h:k=top
 ·subst h;simp[ij,ht]
 ·rw[bg h,<-lJ ht hp k]
  simp only[af,List.getElem?_set,bg (fun e:top=k=>h e.symm)]
theorem eQ(M:List (List Nat))(top col k:Nat):(bU M top col k).length=M.length:=by simp[bU]
theorem fD{M:List (List Nat)}(top col k:Nat){i:Nat}(hi:i<M.length):(bU M top col k).getD i []=if i<k/\i≠top then kS (gt M i col) (M.getD top []) (M.getD i []) else M.getD i []:=by
 unfold bU gt;simp only[af,List.getElem?_mapIdx,ag hi,Option.map_some,Option.getD_some]
theorem rR(M:List (List Nat))(top col:Nat):bU M top col 0=M:=by
 refine ext_getElem? fun i=> ?_;unfold bU;rw[List.getElem?_mapIdx];cases M[i]? <;> simp
theorem jp{n:Nat}{M:List (List Nat)}(hM:Wf n M){top col k:Nat}(hk:k<M.length):bU M top col (k+1)=if k=top then bU M top col k else (bU M top col k).set k (kS (gt M k col) (M.getD top []) (M.getD k [])):=by
 split
 ·rename_i e
  subst e;refine ext_getElem? fun i=> ?_;unfold bU;simp only[List.getElem?_mapIdx];cases M[i]? with
  | none=>rfl
  | some r=>
    simp only[Option.map_some];by_cases h:i=k
    ·subst h;simp
    ·by_cases h2:i<k
     ·simp[h2,show i<k+1 by omega]
     ·simp[h2,show ¬i<k+1 by omega]
 ·rename_i e
  refine ext_getElem? fun i=> ?_;rw[List.getElem?_set];by_cases h:k=i
  ·subst h
   rw[bf rfl,bf (by rw[eQ];exact hk)];unfold bU gt;simp only[List.getElem?_mapIdx,af,ag hk,Option.map_some,Option.getD_some];rw[bf ⟨by omega,e⟩]
  ·rw[bg h]
   unfold bU;simp only[List.getElem?_mapIdx];cases M[i]? with
   | none=>rfl
   | some r=>
     simp only[Option.map_some];by_cases h2:i<k
     ·simp[h2,show i<k+1 by omega]
     ·simp[h2,show ¬i<k+1 by omega]
theorem mS{M:List (List Nat)}{i:Nat}(h:i<M.length):M.getD i []∈M:=by
 rw[af,ag h];exact aP h
theorem uq{n:Nat}{M:List (List Nat)}(h:∀i,i<M.length->(M.getD i []).length=n/\∀x∈M.getD i [],x<256):Wf n M:=by
 intro r hr;obtain⟨i,hi,rfl⟩:=bC hr;have:=h i hi;rw[af,ag hi] at this;exact this
theorem Wf.get{n:Nat}{M:List (List Nat)}(h:Wf n M){i:Nat}(hi:i<M.length):(M.getD i []).length=n/\∀x∈M.getD i [],x<256:=h _ (mS hi)
theorem ut{a b k m:Nat}(ha:a<m)(hb:b<m)(hk:k<m):sg a b k<m:=by unfold sg;split;exact hb;split;exact ha;exact hk
theorem I7(a b k:Nat):sg a b (sg a b k)=k:=by
 unfold sg;by_cases h1:k=a
 ·subst h1
  by_cases h2:b=k
  ·simp[h2]
  ·simp[h2]
 ·by_cases h2:k=b
  ·subst h2;simp[h1]
  ·simp[h1,h2]
theorem yp{n:Nat}{M:List (List Nat)}(hM:Wf n M){top col p:Nat}(ht:top<M.length)(hp:p<M.length):Wf n (ja M top col p):=by
 refine uq fun i hi=> ?_;rw[fV] at hi;rw[mg ht hp i];split
 ·have:=hM.get hp
  exact⟨by rw[jS,aC];exact this.1,fun x hx=>by
   simp only[jS,aW] at hx;obtain⟨y,_,rfl⟩:=hx;exact gQ _ _⟩
 ·exact hM.get (ut ht hp hi)
theorem mU{n:Nat}{M:List (List Nat)}(hM:Wf n M){top:Nat}(col k:Nat)(ht:top<M.length):Wf n (bU M top col k):=by
 refine uq fun i hi=> ?_;rw[eQ] at hi;rw[fD top col k hi];have h1:=hM.get hi;have h2:=hM.get ht;split
 ·exact⟨by rw[fP (by omega)];exact h1.1,pY h1.2⟩
 ·exact h1
structure Inv (n:Nat) (M:List (List Nat)) (col top:Nat) (ls:List Nat):Prop where
 wf:Wf n M
 cnt:ls.length=top
 le:top<=M.length
 up:ls.Pairwise (·< ·)
 lt:∀l∈ls,l<col
 piv:∀(i:Nat) l,ls[i]? =some l->∀k,k<M.length->gt M k l=if k=i then 1 else 0
 low:∀(i:Nat) l,ls[i]? =some l->∀j,j<l->gt M i j=0
 rest:∀i,top<=i->∀j,j<col->gt M i j=0
theorem zO{n:Nat}{M:List (List Nat)}(hM:Wf n M){top col p:Nat}(ht:top<M.length)(hp:p<M.length){k:Nat}(hk:k<M.length)(j:Nat):
 gt (bU (ja M top col p) top col M.length) k j=if k=top then fm (fi (gt M p col)) (gt M p j) else gt M (sg top p k) j ^^^ fm (gt M (sg top p k) col) (fm (fi (gt M p col)) (gt M p j)):=by
 have hw:=yp (col:=col) hM ht hp;have hl:k<(ja M top col p).length:=by rw[fV];exact hk
 have e0:(ja M top col p).getD top []=jS (fi (gt M p col)) (M.getD p []):=by rw[mg ht hp top,bf rfl]
 conv=>lhs;unfold gt
 rw[fD top col _ hl];by_cases h:k=top
 ·subst h
  rw[bg (by simp),bf rfl,e0,jk];rfl
 ·have e1:(ja M top col p).getD k []=M.getD (sg top p k) []:=by rw[mg ht hp k,bg h]
  have e2:gt (ja M top col p) k col=gt M (sg top p k) col:=(by unfold gt;rw[e1]);have h1:=hM.get (ut ht hp hk);have h2:=hM.get hp;rw[bf ⟨hk,h⟩,bg h,e2,e1,e0,kE (by simp only[jS,aC];omega),jk];rfl
theorem Inv.step{n:Nat}{M:List (List Nat)}{col top:Nat}{ls:List Nat}(h:Inv n M col top ls):∃ls',Inv n (iV M top col).1 (col+1) (iV M top col).2 ls':=by
 unfold iV;cases hf:ma M col top (M.length-top) with
 | none=>
   refine⟨ls,h.wf,h.cnt,h.le,h.up,fun l hl=>by have:=h.lt l hl;omega,h.piv,h.low,fun i hi j hj=> ?_⟩;by_cases hjc:j=col
   ·subst hjc
    rcases bq i M.length with hl | hl
    ·exact FN _ _ hf i hi (by omega)
    ·exact um hl j
   ·exact h.rest i hi j (by omega)
 | some p=>
   dsimp only
   obtain⟨p1,p2,p3,-⟩:=kY _ _ _ hf;have hp:p<M.length:=(by omega);have ht:top<M.length:=(by omega);have hG:=fun k (hk:k<M.length) j=>zO (col:=col) h.wf ht hp hk j;have hlen:(bU (ja M top col p) top col M.length).length=M.length:=(by rw[eQ,fV]);have hz:∀j,j<col->fm (fi (gt M p col)) (gt M p j)=0:=fun j hj=>(by rw[h.rest p p1 j hj,bK]);have hone:fm (fi (gt M p col)) (gt M p col)=1:=by rw[iR];exact vJ p3 (h.wf.lt p col)
   have hsz:∀k j,top<=k->j<col->gt M (sg top p k) j=0:=fun k j hk hj=>by
    refine h.rest _ ?_ j hj;unfold sg;split
    ·exact p1
    ·split <;> omega
   have hcol:∀k,k<M.length->gt (bU (ja M top col p) top col M.length) k col=if k=top then 1 else 0:=fun k hk=>by
    rw[hG k hk,hone];split
    ·rfl
    ·rw[ko _ (h.wf.lt _ _),Nat.xor_self]
   refine⟨ls++[col],mU (yp h.wf ht hp) _ _ (by rw[fV];exact ht),by simp[h.cnt],by rw[hlen];exact ht,?_,?_,?_,?_,?_⟩
   ·rw[pairwise_append]
    exact⟨h.up,pairwise_singleton _ _,fun a ha b hb=>by
     obtain rfl:b=col:=(by simpa using hb);exact h.lt a ha⟩
   ·intro l hl
    rcases bz.1 hl with hl | hl
    ·have:=h.lt l hl;omega
    ·obtain rfl:l=col:=by simpa using hl
     omega
   ·intro i l hl k hk
    rw[hlen] at hk;rcases bq i ls.length with hi | hi
    ·rw[List.getElem?_append_left hi] at hl
     have hlc:=h.lt l (mem_of_getElem? hl);have hit:i<top:=(by have:=h.cnt;omega);rw[hG k hk,hz l hlc];split
     ·rename_i e;subst e;rw[bg (by omega)]
     ·rename_i e
      rw[bK,Nat.xor_zero];by_cases hkp:k=p
      ·subst hkp
       rw[hsz k l p1 hlc,bg (by omega)]
      ·have:sg top p k=k:=by unfold sg;rw[bg e,bg hkp]
       rw[this];exact h.piv i l hl k hk
    ·rw[List.getElem?_append_right hi] at hl
     have hi0:i-ls.length=0:=by
      have:=(List.getElem?_eq_some_iff.1 hl).1;simp at this;omega
     rw[hi0] at hl;obtain rfl:col=l:=(by simpa using hl);rw[hcol k hk];have:i=top:=(by have:=h.cnt;omega);rw[this]
   ·intro i l hl j hj
    rcases bq i ls.length with hi | hi
    ·rw[List.getElem?_append_left hi] at hl
     have hlc:=h.lt l (mem_of_getElem? hl);have hit:i<top:=(by have:=h.cnt;omega);rw[hG i (by omega),bg (by omega),hz j (by omega),bK,Nat.xor_zero];have:sg top p i=i:=(by unfold sg;rw[bg (by omega),bg (by omega)]);rw[this];exact h.low i l hl j hj
    ·rw[List.getElem?_append_right hi] at hl
     have hi0:i-ls.length=0:=by
      have:=(List.getElem?_eq_some_iff.1 hl).1;simp at this;omega
     rw[hi0] at hl;obtain rfl:col=l:=(by simpa using hl);have:i=top:=(by have:=h.cnt;omega);subst this;rw[hG i ht,bf rfl,hz j hj]
   ·intro i hi j hj
    rcases bq i M.length with hl | hl
    ·by_cases hjc:j=col
     ·subst hjc
      rw[hcol i hl,bg (by omega)]
     ·rw[hG i hl,bg (by omega),hz j (by omega),bK,Nat.xor_zero]
      exact hsz i j (by omega) (by omega)
    ·exact um (by rw[hlen];exact hl) j
theorem FO{n:Nat}{M:List (List Nat)}(h:Wf n M):Inv n M 0 0 []:=
 ⟨h,rfl,bu _,List.Pairwise.nil,by simp,by simp,by simp,fun i _ j hj=>by omega⟩
theorem iK{n:Nat}{M:List (List Nat)}(h:Wf n M)(col:Nat):∃ls,Inv n (bV M col).1 col (bV M col).2 ls:=by
 induction col with
 | zero=>exact⟨[],FO h⟩
 | succ col ih=>
   obtain⟨ls,hi⟩:=ih;exact hi.step
theorem FP(M:List (List Nat))(top col:Nat):(iV M top col).1.length=M.length:=by
 unfold iV;split
 ·rfl
 ·rw[eQ,fV]
theorem iL(M:List (List Nat))(col:Nat):(bV M col).1.length=M.length:=by
 induction col with
 | zero=>rfl
 | succ col ih=>rw[bV,FP,ih]
def SpEq(M N:List (List Nat)):Prop:=∀v,Spn (M.map vO) v↔Spn (N.map vO) v
theorem SpEq.refl(M:List (List Nat)):SpEq M M:=fun _=>Iff.rfl
theorem SpEq.symm{M N:List (List Nat)}(h:SpEq M N):SpEq N M:=fun v=>(h v).symm
theorem SpEq.trans{M N L:List (List Nat)}(h:SpEq M N)(h':SpEq N L):SpEq M L:=fun v=>(h v).trans (h' v)
theorem Wf.vb{n:Nat}{M:List (List Nat)}(h:Wf n M):∀r∈M.map vO,Vb r:=by
 intro r hr;obtain⟨x,hx,rfl⟩:=aW.1 hr;exact iq (h x hx).2
theorem Wf.spn{n:Nat}{M:List (List Nat)}(h:Wf n M){i:Nat}(hi:i<M.length):Spn (M.map vO) (vO (M.getD i [])):=Spn.mem h.vb (mem_map_of_mem (mS hi))
theorem mh{n m:Nat}{M N:List (List Nat)}(hM:Wf n M)(hN:Wf m N)(h:∀i,i<M.length->Spn (N.map vO) (vO (M.getD i []))){v:Nat->Nat}(hv:Spn (M.map vO) v):Spn (N.map vO) v:=by
 refine hv.trans hN.vb fun r hr=> ?_;obtain⟨x,hx,rfl⟩:=aW.1 hr;obtain⟨i,hi,rfl⟩:=bC hx;have:=h i hi;rw[af,ag hi] at this;exact this
theorem FQ{n:Nat}{M:List (List Nat)}(hM:Wf n M)(top col:Nat):SpEq M (iV M top col).1:=by
 unfold iV;cases hf:ma M col top (M.length-top) with
 | none=>exact SpEq.refl M
 | some p=>
   dsimp only
   obtain⟨p1,p2,p3,-⟩:=kY _ _ _ hf;have hp:p<M.length:=(by omega);have ht:top<M.length:=(by omega);have hw:=mU (yp (col:=col) hM ht hp) col M.length (by rw[fV];exact ht);have hlen:(bU (ja M top col p) top col M.length).length=M.length:=(by rw[eQ,fV]);have hG:=fun k (hk:k<M.length) j=>zO (col:=col) hM ht hp hk j;have hpc:=hM.lt p col;have vp:=iq (hM.get hp).2
   have vtop:vO ((bU (ja M top col p) top col M.length).getD top [])=kr (fi (gt M p col)) (vO (M.getD p [])) vz:=funext fun j=>by
    have:=hG top ht j;rw[bf rfl] at this;unfold kr vz;rw[Nat.zero_xor];exact this
   have vk:∀k,k<M.length->k≠top->vO ((bU (ja M top col p) top col M.length).getD k [])=kr (gt M (sg top p k) col) (vO ((bU (ja M top col p) top col M.length).getD top [])) (vO (M.getD (sg top p k) [])):=fun k hk hne=>by
    rw[vtop];funext j;have:=hG k hk j;rw[bg hne] at this;unfold kr vz;rw[Nat.zero_xor];exact this
   generalize bU (ja M top col p) top col M.length=N at*
   have stop:Spn (M.map vO) (vO (N.getD top [])):=by
    rw[vtop];exact Spn.ax hM.vb (vI _) (hM.spn hp) .zero
   intro v;constructor
   ·refine mh hM hw fun k hk=> ?_
    have ht':top<N.length:=(by rw[hlen];exact ht);by_cases hkp:k=p
    ·subst hkp
     have:vO (M.getD k [])=kr (gt M k col) (vO (N.getD top [])) vz:=by
      rw[vtop];funext j;unfold kr vz;rw[Nat.zero_xor,Nat.zero_xor,<-jA _ _ _ hpc (vI _) (vp j),vJ p3 hpc,jm _ (vp j)]
     rw[this];exact Spn.ax hw.vb hpc (hw.spn ht') .zero
    ·have hs:sg top p k<M.length:=ut ht hp hk
     have hst:sg top p k≠top:=(by unfold sg;split;omega;first | assumption | (rw[bg hkp];assumption));have e:=vk _ hs hst;rw[I7] at e;have:vO (M.getD k [])=kr (gt M k col) (vO (N.getD top [])) (vO (N.getD (sg top p k) [])):=(by rw[e,KL]);rw[this];exact Spn.ax hw.vb (hM.lt k col) (hw.spn ht') (hw.spn (by rw[hlen];exact hs))
   ·refine mh hw hM fun k hk=> ?_
    rw[hlen] at hk;by_cases hkt:k=top
    ·subst hkt;exact stop
    ·rw[vk k hk hkt]
     exact Spn.ax hM.vb (hM.lt _ _) stop (hM.spn (ut ht hp hk))
theorem qU{n:Nat}{M:List (List Nat)}(hM:Wf n M)(col:Nat):SpEq M (bV M col).1:=by
 induction col with
 | zero=>exact SpEq.refl M
 | succ col ih=>
   obtain⟨ls,hi⟩:=iK hM col;exact ih.trans (FQ hi.wf _ _)
structure Red (n:Nat) (R:List (List Nat)) (ls:List Nat):Prop where
 wf:Wf n R
 red:RedV (R.map vO) ls
 lt:∀l∈ls,l<n
theorem Inv.red{n:Nat}{M:List (List Nat)}{top:Nat}{ls:List Nat}(h:Inv n M n top ls):Red n (M.take top) ls/\SpEq M (M.take top):=by
 have hle:=h.le;have hT:∀i,i<top->(M.take top).getD i []=M.getD i []:=fun i hi=>by simp[hi]
 have hwf:Wf n (M.take top):=fun r hr=>h.wf r (bD hr);have hlen:(M.take top).length=top:=by rw[aG];omega
 have hrow:∀(i:Nat) r,((M.take top).map vO)[i]? =some r->i<top/\r=vO (M.getD i []):=fun i r hr=>by
  rw[List.getElem?_map] at hr;rcases bq i top with hi | hi
  ·rw[List.getElem?_take,bf hi,ag (by omega)] at hr
   refine⟨hi,?_⟩;rw[af,ag (by omega)];simpa using hr.symm
  ·rw[List.getElem?_eq_none (by omega)] at hr;simp at hr
 refine⟨⟨hwf,⟨by rw[aC,hlen,h.cnt],h.up,?_,?_,?_,hwf.vb⟩,h.lt⟩,fun v=>⟨mh h.wf hwf fun i hi=> ?_,fun hv=>hv.sub fun r hr=> ?_⟩⟩
 ·intro i r l hr hl
  obtain⟨hi,rfl⟩:=hrow i r hr;have:=h.piv i l hl i (by omega);rw[bf rfl] at this;exact this
 ·intro i k r l hr hl hne
  obtain⟨hk,rfl⟩:=hrow k r hr;have:=h.piv i l hl k (by omega);rw[bg hne] at this;exact this
 ·intro i r l hr hl j hj
  obtain⟨hi,rfl⟩:=hrow i r hr;exact h.low i l hl j hj
 ·rcases bq i top with h1 | h1
  ·rw[<-hT i h1];exact hwf.spn (by omega)
  ·rw[Eo (h.wf.get hi).1 (h.rest i h1)];exact .zero
 ·obtain⟨x,hx,rfl⟩:=aW.1 hr
  exact mem_map_of_mem (bD hx)
theorem lK{n:Nat}{M:List (List Nat)}(h:Wf n M)(h0:M≠[]):wid M=n:=by
 unfold wid;exact(h.get (by cases M with | nil=>exact absurd rfl h0 | cons a l=>simp)).1
theorem fJ{n:Nat}{M:List (List Nat)}(h:Wf n M):∃ls,Red n (dE M) ls/\SpEq M (dE M):=by
 by_cases h0:M=[]
 ·subst h0
  exact⟨[],⟨by intro r hr;simp[dE,bV,wid] at hr,⟨rfl,.nil,by simp,by simp,by simp,by simp[dE,bV,wid]⟩,by simp⟩,SpEq.refl _⟩
 ·have hw:=lK h h0
  obtain⟨ls,hi⟩:=iK h n;have:=hi.red;unfold dE;rw[hw];exact⟨ls,this.1,(qU h n).trans this.2⟩
theorem Ca{n:Nat}{A B:List (List Nat)}(hA:Wf n A)(hB:Wf n B)(h:A.map vO=B.map vO):A=B:=by
 have hl:A.length=B.length:=by simpa using congrArg List.length h
 refine ext_getElem hl fun i h1 h2=> ?_;have e:(A.map vO)[i]? =(B.map vO)[i]? :=by rw[h]
 simp only[List.getElem?_map,ag h1,ag h2,Option.map_some,Option.some.injEq] at e;exact ym (hA _ (aP h1)).1 (hB _ (aP h2)).1 e
theorem Red.spn{n:Nat}{R:List (List Nat)}{ls:List Nat}(h:Red n R ls){r:Nat->Nat}(hr:r∈R.map vO):Spn (R.map vO) r:=Spn.mem h.wf.vb hr
theorem Red.unique{n:Nat}{A B:List (List Nat)}{ls ms:List Nat}(hA:Red n A ls)(hB:Red n B ms)(h:SpEq A B):A=B:=
 Ca hA.wf hB.wf (hA.red.unique hB.red (fun r hr=>(h r).1 (hA.spn hr)) (fun r hr=>(h r).2 (hB.spn hr)))
theorem LS{n:Nat}{A B:List (List Nat)}(hA:Wf n A)(hB:Wf n B)(h:SpEq A B):dE A=dE B:=by
 obtain⟨ls,h1,h2⟩:=fJ hA;obtain⟨ms,h3,h4⟩:=fJ hB;exact h1.unique h3 ((h2.symm.trans h).trans h4)
theorem Ep{n:Nat}{A B:List (List Nat)}(hA:Wf n A)(hB:Wf n B)(h:∀v,Spn (A.map vO) v->Spn (B.map vO) v):(dE A).length<=(dE B).length:=by
 obtain⟨ls,h1,h2⟩:=fJ hA;obtain⟨ms,h3,h4⟩:=fJ hB;have:=h1.red.le h3.red fun r hr=>(h4 r).1 (h r ((h2 r).2 (h1.spn hr)));simpa using this
theorem uu{n:Nat}{A B:List (List Nat)}(hA:Wf n A)(hB:Wf n B)(h:∀v,Spn (A.map vO) v->Spn (B.map vO) v)(hc:(dE B).length<=(dE A).length):SpEq A B:=by
 obtain⟨ls,h1,h2⟩:=fJ hA;obtain⟨ms,h3,h4⟩:=fJ hB;refine fun v=>⟨h v,fun hv=>(h2 v).2 (h1.red.whole h3.red (fun r hr=>(h4 r).1 (h r ((h2 r).2 (h1.spn hr)))) (by simpa using hc) ((h4 v).1 hv))⟩
theorem NV{n:Nat}{ls:List Nat}(h:ls.Pairwise (·< ·))(hn:∀l∈ls,l<n):ls.length<=n:=by
 have:=(qK h).length_le_of_subset (l₂:=range n) fun l hl=>bA.2 (hn l hl);simpa using this
theorem mi{n:Nat}{M:List (List Nat)}(h:Wf n M):(dE M).length<=n/\(dE M).length<=M.length:=by
 obtain⟨ls,h1,_⟩:=fJ h;have e:=h1.red.len;rw[aC] at e;refine⟨by rw[e];exact NV h1.red.up h1.lt,?_⟩;unfold dE;rw[aG,iL];omega
theorem C8(x n:Int)(hn:0<n):(if x.tmod n<0 then x.tmod n+n else x.tmod n)=x%n:=by
 rw[Int.tmod_eq_emod];have h1:=Int.emod_nonneg x (Int.ne_of_gt hn);have h2:=Int.emod_lt_of_pos x hn;split <;> split <;> omega
theorem eM(x n:Int)(w:World)(hx: -9223372036854775808<=x/\x<=9223372036854775807)(hn:0<n)(hm:n<=9223372036854775807):
 Calls prog 19 #[int i64 x,int i64 n] w fun e w'=>e=returned (int i64 (x%n))/\w=w':=by
 have hw:=ae (C8 x n hn)
 have h3: -n<x.tmod n/\x.tmod n<n:=by
  rw[Int.tmod_eq_emod];have h1:=Int.emod_nonneg x (Int.ne_of_gt hn);have h2:=Int.emod_lt_of_pos x hn;split <;> omega
 go_enter func19,ntmps19;go_wp2
 all_goals
  go_ret;exact⟨congrArg (fun z=>Ending.returned (int i64 z)) (by have:=hw.out;split at this <;> omega),rfl⟩
theorem same_i64(xs ys:List Int)(a b:Option Addr)(n m c d:Nat)(w:World)(hx:Rd w w.heap.size a n (xs.map (Value.int .i64)))(hy:Rd w w.heap.size b m (ys.map (Value.int .i64)))(hn:n<=maxLen)(hm:m<=maxLen):
 Calls prog 50 #[slice a n c,slice b m d] w fun e w'=>e=returned (bool (decide (xs=ys)))/\∃j,w'=w.drewN j:=by
 unfold maxLen at hn hm;have hlx:xs.length=n:=by simpa using hx.1
 have hly:ys.length=m:=by simpa using hy.1
 by_cases hne:n=m
 ·subst hne
  have HX:=ae hlx;have HY:=ae hly;have RX:=ae hx;have RY:=ae hy;clear hlx hly hx hy;have hnn:((n:Int) != (n:Int))=false:=(by simp);go_enter func50,ntmps50;go_wp2_with fail;go_loopw [5,13] (fun _ i wr=>∃k:Nat,k<=n/\i=int i64 k/\(∀t,t<k->xs[t]? =ys[t]?)/\∃j,wr=w.drewN j) (fun _ i _=>n-(intOf i).toNat)
  case atStart=>exact⟨0,bu _,rfl,fun t ht=>absurd ht (Nat.not_lt_zero _),0,rfl⟩
  case round=>
   obtain⟨k,hk,rfl,halike,j,rfl⟩:=hrel;have HA:=ae halike;clear halike;by_cases hlt:k<n
   ·obtain⟨bx,ox,rfl,_,hcx⟩:=RX.out.2 (by omega)
    obtain⟨by',oy,rfl,_,hcy⟩:=RY.out.2 (by omega);have hkx:k<xs.length:=(by rw[HX.out];exact hlt);have hky:k<ys.length:=(by rw[HY.out];exact hlt);have cx:=hcx k (int i64 xs[k]) (by simp[hkx]);have cy:=hcy k (int i64 ys[k]) (by simp[hky]);have gx:xs[k]? =some xs[k]:=ag hkx;have gy:ys[k]? =some ys[k]:=ag hky;generalize xs[k]=x at*;generalize ys[k]=y at*;have GX:=ae gx;have GY:=ae gy;clear hkx hky hcx hcy gx gy;go_wp2_with fail
    go_quiet (fail)
    by_cases hxy:x=y
    ·subst hxy
     go_wp2_with fail;go_roundw
     case rel=>exact⟨k+1,by omega,by go_num,fun t ht=>by rcases bq t k with h | h;exact HA.out t h;rw[show t=k by omega,GX.out,GY.out],by first | exact⟨_,rfl⟩ | exact⟨_,World.drewN_drewN _ _ _⟩⟩
     case measure=>simp[intOf];omega
    ·have hxy':(x != y)=true:=by simpa using hxy
     have hd:decide (xs=ys)=false:=decide_eq_false (fun e=>hxy (by have h1:=GX.out;rw[e,GY.out] at h1;exact(Option.some.inj h1).symm));have HD:=ae hd;clear hd;go_wp2_with fail;go_ret;exact⟨by rw[HD.out];rfl,by first | exact⟨_,rfl⟩ | exact⟨_,World.drewN_drewN _ _ _⟩⟩
   ·have hd:decide (xs=ys)=true:=ba (ext_getElem? fun t=>by
     rcases bq t k with h | h
     ·exact HA.out t h
     ·rw[List.getElem?_eq_none (by rw[HX.out];omega),List.getElem?_eq_none (by rw[HY.out];omega)])
    have HD:=ae hd;clear hd;go_wp2_with fail;go_ret;exact⟨by rw[HD.out];rfl,by first | exact⟨_,rfl⟩ | exact⟨_,World.drewN_drewN _ _ _⟩⟩
 ·have hd:decide (xs=ys)=false:=decide_eq_false (fun e=>hne (by rw[<-hlx,<-hly,e]))
  have HD:=ae hd;have hnn:((n:Int) != (m:Int))=true:=(by simpa using fun e=>hne (by omega));clear hd hlx hly hx hy;go_enter func50,ntmps50;go_wp2_with fail;go_ret;exact⟨by rw[HD.out];rfl,0,rfl⟩
theorem Ms(xs ys:List Int)(a b:Option Addr)(n m c d:Nat)(w:World)(hx:Rd w w.heap.size a n (xs.map (Value.int .u8)))(hy:Rd w w.heap.size b m (ys.map (Value.int .u8)))(hn:n<=maxLen)(hm:m<=maxLen):
 Calls prog 20 #[slice a n c,slice b m d] w fun e w'=>e=returned (bool (decide (xs=ys)))/\∃j,w'=w.drewN j:=by
 unfold maxLen at hn hm;have hlx:xs.length=n:=by simpa using hx.1
 have hly:ys.length=m:=by simpa using hy.1
 by_cases hne:n=m
 ·subst hne
  have HX:=ae hlx;have HY:=ae hly;have RX:=ae hx;have RY:=ae hy;clear hlx hly hx hy;have hnn:((n:Int) != (n:Int))=false:=(by simp);go_enter func20,ntmps20;go_wp2_with fail;go_loopw [5,13] (fun _ i wr=>∃k:Nat,k<=n/\i=int i64 k/\(∀t,t<k->xs[t]? =ys[t]?)/\∃j,wr=w.drewN j) (fun _ i _=>n-(intOf i).toNat)
  case atStart=>exact⟨0,bu _,rfl,fun t ht=>absurd ht (Nat.not_lt_zero _),0,rfl⟩
  case round=>
   obtain⟨k,hk,rfl,halike,j,rfl⟩:=hrel;have HA:=ae halike;clear halike;by_cases hlt:k<n
   ·obtain⟨bx,ox,rfl,_,hcx⟩:=RX.out.2 (by omega)
    obtain⟨by',oy,rfl,_,hcy⟩:=RY.out.2 (by omega);have hkx:k<xs.length:=(by rw[HX.out];exact hlt);have hky:k<ys.length:=(by rw[HY.out];exact hlt);have cx:=hcx k (.int .u8 xs[k]) (by simp[hkx]);have cy:=hcy k (.int .u8 ys[k]) (by simp[hky]);have gx:xs[k]? =some xs[k]:=ag hkx;have gy:ys[k]? =some ys[k]:=ag hky;generalize xs[k]=x at*;generalize ys[k]=y at*;have GX:=ae gx;have GY:=ae gy;clear hkx hky hcx hcy gx gy;go_wp2_with fail
    go_quiet (fail)
    by_cases hxy:x=y
    ·subst hxy
     go_wp2_with fail;go_roundw
     case rel=>exact⟨k+1,by omega,by go_num,fun t ht=>by rcases bq t k with h | h;exact HA.out t h;rw[show t=k by omega,GX.out,GY.out],by first | exact⟨_,rfl⟩ | exact⟨_,World.drewN_drewN _ _ _⟩⟩
     case measure=>simp[intOf];omega
    ·have hxy':(x != y)=true:=by simpa using hxy
     have hd:decide (xs=ys)=false:=decide_eq_false (fun e=>hxy (by have h1:=GX.out;rw[e,GY.out] at h1;exact(Option.some.inj h1).symm));have HD:=ae hd;clear hd;go_wp2_with fail;go_ret;exact⟨by rw[HD.out];rfl,by first | exact⟨_,rfl⟩ | exact⟨_,World.drewN_drewN _ _ _⟩⟩
   ·have hd:decide (xs=ys)=true:=ba (ext_getElem? fun t=>by
     rcases bq t k with h | h
     ·exact HA.out t h
     ·rw[List.getElem?_eq_none (by rw[HX.out];omega),List.getElem?_eq_none (by rw[HY.out];omega)])
    have HD:=ae hd;clear hd;go_wp2_with fail;go_ret;exact⟨by rw[HD.out];rfl,by first | exact⟨_,rfl⟩ | exact⟨_,World.drewN_drewN _ _ _⟩⟩
 ·have hd:decide (xs=ys)=false:=decide_eq_false (fun e=>hne (by rw[<-hlx,<-hly,e]))
  have HD:=ae hd;have hnn:((n:Int) != (m:Int))=true:=(by simpa using fun e=>hne (by omega));clear hd hlx hly hx hy;go_enter func20,ntmps20;go_wp2_with fail;go_ret;exact⟨by rw[HD.out];rfl,0,rfl⟩
def bF(l:List Nat):List Value:=l.map fun x:Nat=>Value.int .u8 x
def bJ(l:List Nat):Array Value:=(bF l).toArray
theorem bI(l:List Nat):(bF l).length=l.length:=aC _
theorem iy(l:List Nat):∀u∈bF l,u.oneCell'=true:=by
 intro u hu;obtain⟨x,_,rfl⟩:=aW.1 hu;rfl
theorem dX{l:List Nat}{i:Nat}(h:i<l.length):(bF l)[i]? =some (.int .u8 (l.getD i 0:Nat)):=by
 simp[bF,List.getElem?_map,ag h]
theorem jO(l:List Nat):(bJ l).size=l.length:=by simp[bJ,bF]
theorem vC{l:List Nat}{i:Nat}(h:i<l.length):(bJ l)[i]? =some (.int .u8 (l.getD i 0:Nat)):=by
 simp only[bJ,List.getElem?_toArray];exact dX h
theorem j6(l:List Nat)(i x:Nat):(bJ l).setIfInBounds i (.int .u8 (x:Nat))=bJ (l.set i x):=by
 apply Array.ext';rw[Array.toList_setIfInBounds];simp[bJ,bF]
def By(l:List Nat):Prop:=∀x∈l,x<256
theorem Bc(l:List Nat):bF l=(l.map fun x:Nat=>(x:Int)).map (Value.int .u8):=by simp[bF]
def iP(R:List Nat)(k:Nat):List Nat:=R.take k++replicate (R.length-k) 0
theorem xM{R:List Nat}{k:Nat}(h:k<=R.length):(iP R k).length=R.length:=by simp[iP];omega
theorem vE(R:List Nat):iP R 0=replicate R.length 0:=by simp[iP]
theorem vF(R:List Nat):iP R R.length=R:=by simp[iP]
theorem xN{R:List Nat}{k:Nat}(h:k<R.length):(iP R k).set k (R.getD k 0)=iP R (k+1):=by
 unfold iP;rw[aN h,show R.length-k=(R.length-(k+1))+1 by omega,replicate_succ,set_append_right _ _ (by rw[aG];omega)];rw[aG,Nat.min_eq_left (by omega),Nat.sub_self,set_cons_zero,append_assoc,singleton_append,af,ag h];rfl
theorem xO{R:List Nat}{k:Nat}(h:k<R.length):(iP R k).getD k 0=0:=by
 unfold iP;rw[af,List.getElem?_append_right (by rw[aG];omega),aG,Nat.min_eq_left (by omega),Nat.sub_self,List.getElem?_replicate,bf (by omega)];rfl
theorem Hb(n:Nat):madeCells #[Value.int .u8 0] n=bJ (replicate n 0):=by
 apply Array.ext (by rw[size_madeCells,jO,aI]);intro i h1 h2;simp[madeCells,bJ,bF,Nat.mod_one]
def OwnB(w:World)(C:Nat)(v:Value)(l:List Nat):Prop:=w.ownsRow C 5 1 v l.length (bF l)
theorem OwnB.nil(w:World)(C:Nat):OwnB w C (slice none 0 0) []:=World.ownsRow_nil _ _ _ _
theorem OwnB.base{w:World}{C C':Nat}{v:Value}{l:List Nat}(h:OwnB w C v l)(hC:C'<=C):OwnB w C' v l:=li h hC
theorem OwnB.below{w w':World}{C:Nat}{v:Value}{l:List Nat}(h:OwnB w C v l)(hb:Below w.heap.size w w'):OwnB w' C v l:=fQ h hb
theorem OwnB.drewN{w:World}{C:Nat}{v:Value}{l:List Nat}(h:OwnB w C v l)(j:Nat):OwnB (w.drewN j) C v l:=h
theorem OwnB.rd{w:World}{C:Nat}{v:Value}{l:List Nat}(h:OwnB w C v l):∃a c,v=slice a l.length c/\Rd w w.heap.size a l.length (bF l):=mY h
theorem lU{w:World}{g C:Nat}{l:List Nat}(h:Blk w g 5 (bJ l))(hC:C<=g)(hl:l.length<=1000000):OwnB w C (slice (some ⟨g,0,none⟩) l.length l.length) l:=
 ⟨by rw[bI];omega,.inr ⟨g,l.length,bJ l,rfl,hC,h,ah _,by unfold maxLen;omega,by rw[jO];omega,by rw[Nat.mul_one];exact aJ (by rw[Array.length_toList,jO];exact ah _)⟩⟩
theorem Rd.atB{w:World}{B:Nat}{a:Option Addr}{n:Nat}{l:List Nat}(h:Rd w B a n (bF l)){k:Nat}(hk:k<n):∃b o,a=some ⟨b,o,none⟩/\b<B/\∀j,j<n->w.cell? ⟨b,o+j,none⟩=some (.int .u8 (l.getD j 0:Nat)):=by
 obtain⟨b,o,rfl,hb,hc⟩:=h.2 (by omega);have hl:=h.len;rw[bI] at hl;exact⟨b,o,rfl,hb,fun j hj=>hc j _ (dX (by omega))⟩
theorem iQ:(prog.info? 5).map (fun i=>(i.zero,i.size,i.bytes))=some (some (.int .u8 0),1,1):=by kernel_rfl
theorem dD{n:Nat}(hn:n<=1000000)(w:World):(Instr.makeSlice 30 (int i64 (n:Int)) (int i64 (n:Int))).run prog w=.ok (slice (some ⟨w.heap.size,0,none⟩) n n) (w.alloc (cells (bJ (replicate n 0)) 5)):=by
 obtain⟨i0,hi,hz0,hz1,hz2⟩:=info_parts iQ;have h:=run_make (P:=prog) w 30 5 i0 (.int .u8 0) underlying30 hi hz0 .i64 .i64 (n:Int) (n:Int) (by omega) (by omega) (by rw[hz2];omega) (by omega);rw[hz1,Nat.mul_one,Int.toNat_natCast] at h;rw[<-Hb];exact h
theorem Kr(p:Option Addr)(w:World)(hF:Fp w p):
 Calls prog 376 #[.pointer p] w fun e w'=>∃g,e=returned (pointer (some ⟨g,0,none⟩))/\Fld w' g/\Below w.heap.size w w':=by
 rcases hF with rfl | ⟨g,rfl,hF⟩
 ·go_enter func376,ntmps376
  go_wp2_with fail;refine(oZ _).mono ?_;rintro e w1 ⟨g,rfl,hg,hF,hb⟩;go_wp2_with fail;go_ret;exact⟨g,rfl,hF,hb⟩
 ·go_enter func376,ntmps376
  go_wp2_with fail;go_ret;exact⟨g,rfl,hF,az _ _⟩
theorem Hd(p:Option Addr)(c:Nat)(xs:List Nat)(a:Option Addr)(n d:Nat)(w:World)(hF:Fp w p)(hc:c<256)(hx:Rd w w.heap.size a n (bF xs))(hbx:By xs)(hn:n<=1000000):
 Calls prog 334 #[.pointer p,.int .u8 c,slice a n d] w fun e w'=>∃v,e=returned v/\OwnB w' w.heap.size v (jS c xs)/\Below w.heap.size w w':=by
 have lx:=hx.len;rw[bI] at lx;have hRl:(jS c xs).length=n:=by rw[jS,aC];exact lx
 have HRG:Hid (∀k,(jS c xs).getD k 0=fm c (xs.getD k 0)):=ae fun k=>jk c xs k;have hmk:=dD hn;have HX:=ae hx;have HBX:=ae hbx;have HRL:=ae hRl;clear hx hbx lx hRl;generalize jS c xs=R at*;go_enter func334,ntmps334;go_wp2_with fail;refine(Kr p _ hF).mono ?_;rintro e w1 ⟨gf,rfl,hfl,hb0⟩;have HFL:=ae hfl;have hfz:=Blk.lt hfl
 go_wp2_with (simp only[])
 have hG1:w.heap.size<=w1.heap.size:=hb0.size;have hB1:=Blk.new w1 5 (bJ (replicate n 0));have HB:Hid (Blk (w1.alloc (cells (bJ (replicate n 0)) 5)) w1.heap.size 5 (bJ (iP R 0))):=ae (by rw[vE,HRL.out];exact hB1);have HBL:=ae (hb0.alloc hG1 (cells (bJ (replicate n 0)) 5));have HF2:=ae (HFL.out.below ((az w1.heap.size w1).alloc (ah _) (cells (bJ (replicate n 0)) 5)) hfz);clear hB1 hmk hfl HFL hb0;generalize w1.alloc (cells (bJ (replicate n 0)) 5)=w2 at*;generalize hG:w.heap.size=G at*;have HG:=ae hG;clear hG;generalize w1.heap.size=g at*;go_loopw [8,9,17] (fun _ _ i wr=>∃k:Nat,k<=n/\i=int i64 k/\Hid (Blk wr g 5 (bJ (iP R k)))/\Hid (Fld wr gf)/\Hid (Below G w wr)) (fun _ _ i _=>n-(intOf i).toNat)
 case atStart=>exact⟨0,by omega,rfl,HB,HF2,HBL⟩
 case round=>
  clear HB HBL HF2;obtain⟨k,hk,rfl,HB,HF2,HBL⟩:=hrel;by_cases hlt:k<n
  ·obtain⟨bx,ox,rfl,hbx,hcx⟩:=HX.out.atB hlt
   have cx:=(HBL.out.cell (p:=⟨bx,ox+k,none⟩) (by have:=HG.out;omega)).trans (hcx k hlt);have hx1:=getD_lt HBX.out k;have hrg:=HRG.out k;have hkR:k<R.length:=(by rw[HRL.out];exact hlt);have hset:=HB.out.set k (.int .u8 (R.getD k 0:Nat));rw[j6,xN hkR] at hset;have co:=(HB.out.cell k).trans (vC (by rw[xM (by omega)];exact hkR));rw[xO hkR] at co;have fo:=HB.out.frozen k;rw[hrg] at hset;generalize xs.getD k 0=x at*;have CM:=ae (uz gf c x hc hx1 wr HF2.out);have HS:=ae hset;clear hset hrg hcx;generalize fm c x=z at*;have hlt':(k:Int)<(n:Int):=(by omega);go_wp2_with fail;refine CM.out.mono ?_;rintro e w3 ⟨rfl,j,rfl⟩;have co2:(wr.drewN j).cell? ⟨g,k,none⟩=some (.int .u8 0):=co;have fo2:(wr.drewN j).frozen? ⟨g,k,none⟩=false:=fo;have HS2:Hid (Blk ((wr.drewN j).setCell ⟨g,k,none⟩ (.int .u8 (z:Nat))) g 5 (bJ (iP R (k+1)))):=ae HS.out;have HB2:Hid (Below G w ((wr.drewN j).setCell ⟨g,k,none⟩ (.int .u8 (z:Nat)))):=ae ((below_drewN HBL.out j).setCell hG1 _);have HF3:Hid (Fld ((wr.drewN j).setCell ⟨g,k,none⟩ (.int .u8 (z:Nat))) gf):=ae (Blk.far (w:=wr.drewN j) HF2.out (by simp;omega) _);clear HS HBL HB cx co fo CM HF2;generalize wr.drewN j=w4 at*;go_wp2_with fail;go_roundw
   case rel=>exact⟨k+1,by omega,by go_num,HS2,HF3,HB2⟩
   case measure=>simp[intOf];omega
  ·obtain rfl:k=n:=by omega
   have hf:iP R k=R:=(by rw[<-HRL.out];exact vF R);rw[hf] at HB;have ho:=lU HB.out (C:=G) hG1 (by rw[HRL.out];exact hn);rw[HRL.out] at ho;have HO:=ae ho;clear ho hf HB;go_wp2_with fail;go_ret;exact⟨_,rfl,by rw[HG.out];exact HO.out,by rw[HG.out];exact HBL.out⟩
theorem By.sc(c:Nat)(xs:List Nat):By (jS c xs):=by
 intro x hx;obtain⟨y,_,rfl⟩:=aW.1 hx;exact gQ _ _
theorem lV(c:Nat)(xs:List Nat):(jS c xs).length=xs.length:=aC _
def jZ(r:List Nat):Nat:=r.findIdx (·!= 0)
def iW(r:List Nat):Int:=if jZ r<r.length then (jZ r:Int) else-1
theorem vv{r:List Nat}{j:Nat}(h1:r.getD j 0≠0)(h2:∀i,i<j->r.getD i 0=0):jZ r=j/\j<r.length:=by
 have hj:j<r.length:=by
  rcases bq j r.length with h | h
  ·exact h
  ·exact absurd (by rw[af,List.getElem?_eq_none h];rfl) h1
 refine⟨?_,hj⟩;unfold jZ;rw[findIdx_eq hj];refine⟨?_,fun i hi=> ?_⟩
 ·rw[af,ag hj] at h1
  simpa using h1
 ·have:=h2 i hi
  rw[af,ag (by omega)] at this;simpa using this
theorem A8{r:List Nat}(h:jZ r<r.length):r.getD (jZ r) 0≠0/\∀i,i<jZ r->r.getD i 0=0:=by
 constructor
 ·rw[af,ag h]
  have:=findIdx_getElem (p:=fun x:Nat=>x != 0) (xs:=r) (w:=h);exact bne_iff_ne.1 this
 ·intro i hi
  have hi2:i<r.length:=(by omega);have:=not_of_lt_findIdx (p:=fun x:Nat=>x != 0) (xs:=r) hi;rw[af,ag hi2];simpa using this
theorem Dt{r:List Nat}(h:¬jZ r<r.length)(i:Nat):r.getD i 0=0:=by
 rcases bq i r.length with hi | hi
 ·have:=not_of_lt_findIdx (p:=fun x:Nat=>x != 0) (xs:=r) (i:=i) (by unfold jZ at h;omega)
  rw[af,ag hi];simpa using this
 ·rw[af,List.getElem?_eq_none hi];rfl
theorem xG{r:List Nat}:iW r<0↔vO r=vz:=by
 unfold iW;constructor
 ·intro h
  split at h
  ·omega
  ·rename_i hn;exact funext fun j=>Dt hn j
 ·intro h
  split
  ·rename_i hl;exact absurd (congrFun h _) (A8 hl).1
  ·omega
def lw:List (List Nat)->List Nat->List Nat
 | [],v=>v
 | x :: R,v=>lw R (kS (v.getD (jZ x) 0) x v)
theorem restR_wf{n:Nat}:∀ {R:List (List Nat)} {v:List Nat},Wf n R->v.length=n->(∀x∈v,x<256)->(lw R v).length=n/\∀x∈lw R v,x<256:=by
 intro R
 induction R with
 | nil=>intro v _ h1 h2;exact⟨h1,h2⟩
 | cons x R ih=>
   intro v hR h1 h2;have hx:=hR x mem_cons_self;exact ih (fun r hr=>hR r (mem_cons_of_mem _ hr)) (by rw[fP (by omega)];exact h1) (pY h2)
theorem G3{n:Nat}:∀ {R:List (List Nat)} {v:List Nat},Wf n R->v.length=n->(∀x∈v,x<256)->∃u,Spn (R.map vO) u/\vO (lw R v)=kr 1 u (vO v):=by
 intro R
 induction R with
 | nil=>
   intro v _ h1 h2;exact⟨vz,.zero,funext fun j=>by unfold kr vz;rw[bK,Nat.xor_zero];rfl⟩
 | cons x R ih=>
   intro v hR h1 h2;have hx:=hR x mem_cons_self;obtain⟨u,hu,e⟩:=ih (v:=kS (v.getD (jZ x) 0) x v) (fun r hr=>hR r (mem_cons_of_mem _ hr)) (by rw[fP (by omega)];exact h1) (pY h2);refine⟨kr (v.getD (jZ x) 0) (vO x) u,?_,?_⟩
   ·exact .add _ _ _ (getD_lt h2 _) mem_cons_self (hu.sub fun r hr=>mem_cons_of_mem _ hr)
   ·simp only[lw]
    rw[e,NU (by omega)];funext j;unfold kr;rw[jm _ (hu.vb j),jm _ (rH (hu.vb j) (gQ _ _)),Nat.xor_assoc,Nat.xor_comm (fm _ _)]
theorem Du{n:Nat}{z:Nat}:∀ {R:List (List Nat)} {v:List Nat},Wf n R->v.length=n->(∀r∈R,r.getD z 0=0)->(lw R v).getD z 0=v.getD z 0:=by
 intro R
 induction R with
 | nil=>intro v _ _ _;rfl
 | cons x R ih=>
   intro v hR h1 h2;have hx:=hR x mem_cons_self;simp only[lw];rw[ih (fun r hr=>hR r (mem_cons_of_mem _ hr)) (by rw[fP (by omega)];exact h1) fun r hr=>h2 r (mem_cons_of_mem _ hr),kE (by omega),h2 x mem_cons_self,bK,Nat.xor_zero]
theorem Dv{n:Nat}:∀ {R:List (List Nat)} {ls:List Nat} {v:List Nat},Wf n R->v.length=n->(∀x∈v,x<256)->R.length=ls.length->(∀(i k:Nat) r l,R[k]? =some r->ls[i]? =some l->r.getD l 0=if k=i then 1 else 0)->
 (∀(i:Nat) r l,R[i]? =some r->ls[i]? =some l->jZ r=l)->∀l∈ls,(lw R v).getD l 0=0:=by
 intro R
 induction R with
 | nil=>intro ls v _ _ _ hl _ _ l hm;cases ls with
   | nil=>simp at hm
   | cons a b=>simp at hl
 | cons x R ih=>
   intro ls v hR h1 h2 hl h3 h4 l hm;have hx:=hR x mem_cons_self;cases ls with
   | nil=>simp at hl
   | cons m ls=>
     have hR':Wf n R:=fun r hr=>hR r (mem_cons_of_mem _ hr);have hlen:(kS (v.getD (jZ x) 0) x v).length=n:=(by rw[fP (by omega)];exact h1);simp only[lw];rcases mem_cons.1 hm with e | e
     ·subst e
      rw[Du hR' hlen fun r hr=>by
       obtain⟨k,hk⟩:=List.getElem?_of_mem hr;have:=h3 0 (k+1) r l (by simpa using hk) rfl;simpa using this]
      have hlead:=h4 0 x l rfl rfl;have hone:=h3 0 0 x l rfl rfl;rw[kE (by omega),hlead,hone,bf rfl,ko _ (getD_lt h2 _),Nat.xor_self]
     ·refine ih hR' hlen (pY h2) (by simpa using hl) (fun i k r l' hr hl'=> ?_) (fun i r l' hr hl'=>h4 (i+1) r l' (by simpa using hr) (by simpa using hl')) l e
      have:=h3 (i+1) (k+1) r l' (by simpa using hr) (by simpa using hl');simpa using this
theorem Red.lead{n:Nat}{R:List (List Nat)}{ls:List Nat}(h:Red n R ls){i l:Nat}{r:List Nat}(hr:R[i]? =some r)(hl:ls[i]? =some l):jZ r=l/\l<r.length/\r.getD l 0=1:=by
 have e:(R.map vO)[i]? =some (vO r):=by rw[List.getElem?_map,hr];rfl
 have h1:r.getD l 0=1:=h.red.one i (vO r) l e hl;have h2:=vv (r:=r) (j:=l) (by rw[h1];decide) fun j hj=>h.red.low i (vO r) l e hl j hj;exact⟨h2.1,h2.2,h1⟩
theorem Red.rest_zero{n:Nat}{R:List (List Nat)}{ls:List Nat}(h:Red n R ls){v:List Nat}(hv:v.length=n)(hb:∀x∈v,x<256):∀l∈ls,(lw R v).getD l 0=0:=by
 refine Dv h.wf hv hb (by have:=h.red.len;rwa [aC] at this) (fun i k r l hr hl=> ?_) fun i r l hr hl=>(h.lead hr hl).1;have e:(R.map vO)[k]? =some (vO r):=by rw[List.getElem?_map,hr];rfl
 split
 ·rename_i hk;subst hk;exact h.red.one k (vO r) l e hl
 ·rename_i hk;exact h.red.zero i k (vO r) l e hl hk
theorem Red.rest_spn{n:Nat}{R:List (List Nat)}{ls:List Nat}(h:Red n R ls){v:List Nat}(hv:v.length=n)(hb:∀x∈v,x<256):vO (lw R v)=vz↔Spn (R.map vO) (vO v):=by
 obtain⟨u,hu,e⟩:=G3 h.wf hv hb;constructor
 ·intro h0
  have:vO v=u:=by
   rw[e] at h0;funext j;have:=congrFun h0 j;unfold kr vz at this;rw[jm _ (hu.vb j)] at this;exact qJ this
  rw[this];exact hu
 ·intro hs
  have h2:Spn (R.map vO) (vO (lw R v)):=(by rw[e];exact Spn.ax h.wf.vb (by decide) hu hs);exact h.red.eq_zero h2 (h.rest_zero hv hb)
theorem za{n:Nat}{A:List (List Nat)}{v:List Nat}(hA:Wf n A)(hv:v.length=n)(hb:∀x∈v,x<256):Wf n (A++[v]):=by
 intro r hr;rcases bz.1 hr with hr | hr
 ·exact hA r hr
 ·obtain rfl:r=v:=by simpa using hr
  exact⟨hv,hb⟩
theorem MU{n:Nat}{A:List (List Nat)}{v:List Nat}(hA:Wf n A)(hv:v.length=n)(hb:∀x∈v,x<256)(h:Spn (A.map vO) (vO v)):SpEq (A++[v]) A:=by
 intro w;constructor
 ·intro hw
  refine hw.trans hA.vb fun r hr=> ?_;rw[aQ] at hr;rcases bz.1 hr with hr | hr
  ·exact Spn.mem hA.vb hr
  ·obtain rfl:r=vO v:=by simpa using hr
   exact h
 ·exact fun hw=>hw.sub fun r hr=>by rw[aQ];exact mem_append_left _ hr
theorem Kk{n:Nat}{A:List (List Nat)}{v:List Nat}(hA:Wf n A)(hv:v.length=n)(hb:∀x∈v,x<256):
 (dE A).length<=(dE (A++[v])).length/\((dE (A++[v])).length=(dE A).length↔vO (lw (dE A) v)=vz):=by
 have hAv:=za hA hv hb;have up:∀w,Spn (A.map vO) w->Spn ((A++[v]).map vO) w:=fun w hw=>hw.sub fun r hr=>by rw[aQ];exact mem_append_left _ hr
 obtain⟨ls,hR,hS⟩:=fJ hA;refine⟨Ep hA hAv up,?_,?_⟩
 ·intro h
  have:=uu hA hAv up (by omega);rw[hR.rest_spn hv hb];exact(hS _).1 ((this _).2 (Spn.mem hAv.vb (by rw[aQ];exact mem_append_right _ (by simp))))
 ·intro h
  rw[hR.rest_spn hv hb] at h;rw[LS hAv hA (MU hA hv hb ((hS _).2 h))]
