import Derived.Test.YtofgapdnadbgkaaGreatDoorW17
set_option linter.unusedVariables false
set_option maxRecDepth 100000
set_option maxHeartbeats 400000000
namespace Go.Proofs.YtofgapdnadbgkaaGreatDoor
open Go.RowKit _root_.Go.Proofs.Tryz
def lenV:Value→Nat | .slice _ n _=>n | _=>0
theorem FP{n i:Nat}(h:i<n):(ba (List.replicate n 0))[i]? =some (.int .u8 0):=by
 unfold ba;rw[List.getElem?_map,List.getElem?_replicate,if_pos h];rfl
theorem BO(n c B:Nat)(a:Option Addr)(w:World)(hx:Rd w B a n (ba (List.replicate n 0)))(hc:n≤c)(hm:c≤maxLen):
 Calls prog 146 #[.slice a n c,.int .u8 0] w fun e w'=>e=.returned (.slice a 0 c)∧w=w':=by
 have HX:=ae hx;clear hx;unfold maxLen at hm;go_enter func146,ntmps146;go_wp2_with fail;go_loopw [0] (fun v wr=>∃k:Nat,k≤n∧v=.slice a k c∧wr=w) (fun v _=>lenV v)
 case atStart=>exact⟨n,ah _,rfl,rfl⟩
 case round=>
  obtain⟨k,hk,rfl,rfl⟩:=hrel;cases k with
  | zero=>
    go_wp2_with fail;go_ret;exact⟨rfl,rfl⟩
  | succ q=>
    obtain⟨b,o,rfl,hb,hcc⟩:=HX.out.2 (by omega);have cq:=hcc q _ (FP (by omega));have hqI:(0:Int)<(q:Int)+1:=(by omega);have hs:IntKind.i64.wrap ((q:Int)+1-1)=(q:Int):=(by rw[IntKind.wrap_i64];omega);clear hcc;go_wp2_with fail;go_roundw
    case rel=>exact⟨q,by omega,rfl,by first | trivial | rfl⟩
    case measure=>show q<q+1;omega
theorem FQ(c:Nat)(a:Option Addr)(w:World):
 Calls prog 145 #[.slice a 0 c,.int .u8 0] w fun e w'=>e=.returned (.slice none 0 0)∧w=w':=by
 go_enter func145,ntmps145;go_wp2_with fail;go_loopw [0] (fun v wr=>v=.slice a 0 c∧wr=w) (fun v _=>lenV v)
 case atStart=>exact⟨rfl,rfl⟩
 case round=>
  obtain⟨rfl,rfl⟩:=hrel;go_wp2_with fail;go_ret;exact⟨rfl,rfl⟩
theorem ut(n c B:Nat)(a:Option Addr)(w:World)(hx:Rd w B a n (ba (List.replicate n 0)))(hc:n≤c)(hm:c≤maxLen):
 Calls prog 77 #[.slice a n c,.string ⟨#[0]⟩] w fun e w'=>e=.returned (.slice none 0 0)∧∃j,w'=w.drewN j:=by
 have CR:=ae fun w (hx:Rd w B a n (ba (List.replicate n 0)))=>BO n c B a w hx hc hm;have CL:=ae fun w=>FQ c a w;have HX:=ae hx;clear hx hc hm;go_enter func77,ntmps77;by_cases hn:n=0
 ·subst hn
  go_wp2_with fail;go_ret;exact⟨rfl,0,rfl⟩
 ·have hnI:((n:Int) == 0)=false:=by simp;omega
  go_wp2_with fail
  go_region_with (first
   | (go_at_call 146
      refine(CR.out w.drew HX.out).mono ?_;rintro e w1 ⟨rfl,rfl⟩)
   | (go_at_call 145
      refine(CL.out _).mono ?_;rintro e w1 ⟨rfl,rfl⟩))
  all_goals(go_wp2_with fail;go_ret;exact⟨rfl,1,rfl⟩)
theorem zQ(n c B:Nat)(a:Option Addr)(w:World)(hx:Rd w B a n (ba (List.replicate n 0)))(hc:n≤c)(hm:c≤maxLen):
 Calls prog 139 #[.slice a n c] w fun e w'=>e=.returned (.bool true)∧∃j,w'=w.drewN j:=by
 have CT:=ae (ut n c B a w hx hc hm);clear hx hc hm;go_enter func139,ntmps139;go_wp2_with fail;refine CT.out.mono ?_;rintro e w1 ⟨rfl,j,rfl⟩;go_wp2_with fail;go_ret;exact⟨rfl,j,rfl⟩
theorem G6{α:Type}(p:α→Bool):∀(l:List α) (k:Nat) (s:α),(l.filter p)[k]? =some s→∃k0,l[k0]? =some s∧(l.filter p).take k=(l.take k0).filter p:=by
 intro l
 induction l with
 | nil=>intro k s h;simp at h
 | cons x l ih=>
   intro k s h;rw[List.filter_cons] at h ⊢;cases hp:p x with
   | true=>
     rw[hp] at h;rw[if_pos rfl] at h ⊢;cases k with
     | zero=>exact⟨0,by simpa using h,by simp⟩
     | succ k=>
       obtain⟨k0,h1,h2⟩:=ih k s (by simpa using h);exact⟨k0+1,by simpa using h1,by rw[List.take_succ_cons,List.take_succ_cons,List.filter_cons,if_pos hp,h2]⟩
   | false=>
     rw[hp] at h;rw[if_neg (by simp)] at h ⊢;obtain⟨k0,h1,h2⟩:=ih k s h;exact⟨k0+1,by simpa using h1,by rw[List.take_succ_cons,List.filter_cons,if_neg (by simp[hp]),h2]⟩
def bT(n:Nat)(known:Nat→Bool):List (List Nat):=((List.range n).filter known).map fun c=>[c]
theorem Dm{n:Nat}{known:Nat→Bool}{r:Nat}(h:r<(bT n known).length):∃c,c<n∧known c=true∧(bT n known).getD r []=[c]:=by
 have hm:(bT n known).getD r []∈bT n known:=by rw[af,ag h];exact aU h
 obtain⟨c,h1,h2⟩:=List.mem_map.1 hm;obtain⟨h3,h4⟩:=List.mem_filter.1 h1;exact⟨c,List.mem_range.1 h3,h4,h2.symm⟩
theorem Ha{n:Nat}{known:Nat→Bool}{rest:List (List Nat)}{St:List (Nat×Nat)}{De Le:List Nat}(P:oK n (rest++bT n known) St De Le)(hrest:∀r,∀c∈rest.getD r [],c<n∧known c=false):
 yP n known rest (St.filter fun s=>decide (s.1<rest.length)) De (Le.filter fun i=>decide (i<rest.length)):=by
 have hrow:∀r,r<rest.length→(rest++bT n known).getD r []=rest.getD r []:=fun r h=>by
  rw[af,af,List.getElem?_append_left h]
 have hsing:∀r,¬r<rest.length→r<(rest++bT n known).length→∃c,c<n∧known c=true∧(rest++bT n known).getD r []=[c]:=fun r h h2=>by
  rw[aJ] at h2;obtain⟨c,h3,h4,h5⟩:=Dm (n:=n) (known:=known) (r:=r-rest.length) (by omega);refine⟨c,h3,h4,?_⟩;rw[←h5,af,af,List.getElem?_append_right (by omega)]
 have hmem:∀(r c:Nat),(r,c)∈St→r<(rest++bT n known).length∧c∈(rest++bT n known).getD r []:=fun r c h=>by
  obtain⟨k,hk⟩:=List.getElem?_of_mem h;obtain⟨h1,h2,_⟩:=P.step k r c hk;exact⟨h1,h2⟩
 have hkn:∀(r c:Nat),(r,c)∈St→(r<rest.length↔known c=false):=fun r c h=>by
  obtain⟨h1,h2⟩:=hmem r c h;by_cases hr:r<rest.length
  ·rw[hrow r hr] at h2
   exact⟨fun _=>(hrest r c h2).2,fun _=>hr⟩
  ·obtain⟨d,h3,h4,h5⟩:=hsing r hr h1
   rw[h5] at h2;obtain rfl:c=d:=(by simpa using h2);exact⟨fun h=>absurd h hr,fun h=>by rw[h4] at h;cases h⟩
 have hdead:∀c∈De,known c=false:=fun c hc=>by
  cases hk:known c with
  | false=>rfl
  | true=>
    exfalso;have hcn:c<n:=(P.all c).2 (.inr hc);have hm:[c]∈rest++bT n known:=List.mem_append_right _ (List.mem_map.2 ⟨c,List.mem_filter.2 ⟨List.mem_range.2 hcn,hk⟩,rfl⟩);obtain⟨r,hr,e⟩:=List.getElem_of_mem hm;refine P.nodead c hc r hr ?_;rw[af,ag hr,e];rfl
 have hsub:(St.filter fun s=>decide (s.1<rest.length)).map Prod.snd=(St.map Prod.snd).filter fun c=> !known c:=by
  rw[List.filter_map];congr 1;refine List.filter_congr fun s hs=> ?_;obtain⟨r,c⟩:=s;have:=hkn r c hs;show decide (r<rest.length)= !known c;cases hk:known c with
  | false=>exact decide_eq_true (this.2 hk)
  | true=>exact decide_eq_false fun h=>by rw[this.1 h] at hk;cases hk
 refine⟨fun k r c hk=> ?_,?_,fun c hc=> ?_,fun c hc=> ?_,fun i=> ?_⟩
 ·obtain⟨k0,h1,h2⟩:=G6 _ St k (r,c) hk
  have hp:r<rest.length:=of_decide_eq_true (List.mem_filter.1 (List.mem_of_getElem? hk)).2;obtain⟨p1,p2,p3⟩:=P.step k0 r c h1;rw[hrow r hp] at p2 p3;refine⟨hp,p2,fun d hd hne=> ?_⟩;rcases p3 d hd hne with h | ⟨k',r',h3,h4⟩
  ·exact .inl h
  ·right
   have hm:(r',d)∈(St.take k0).filter fun s=>decide (s.1<rest.length):=by
    refine List.mem_filter.2 ⟨List.mem_of_getElem? (i:=k') (by rw[List.getElem?_take,if_pos h3];exact h4),?_⟩;exact decide_eq_true ((hkn r' d (List.mem_of_getElem? h4)).2 (hrest r d hd).2)
   rw[←h2] at hm;obtain⟨j,hj⟩:=List.getElem?_of_mem hm;rw[List.getElem?_take] at hj;split at hj
   ·rename_i hjk
    exact⟨j,r',hjk,hj⟩
   ·cases hj
 ·rw[hsub]
  obtain⟨n1,n2,n3⟩:=List.nodup_append.1 P.cols;exact List.nodup_append.2 ⟨n1.filter _,n2,fun a ha b hb=>n3 a (List.mem_filter.1 ha).1 b hb⟩
 ·rw[hsub,List.mem_filter]
  constructor
  ·intro h
   rcases(P.all c).1 hc with h1 | h1
   ·exact .inl ⟨h1,by rw[h];rfl⟩
   ·exact .inr h1
  ·rintro(⟨_,h⟩ | h)
   ·simpa using h
   ·exact hdead c h
 ·rw[hsub,List.mem_filter] at hc
  exact(P.all c).2 (hc.elim (fun h=>.inl h.1) .inr)
 ·rw[List.mem_filter,P.left,List.mem_filter,List.mem_range]
  have hfst:i<rest.length→(i∈(St.filter fun s=>decide (s.1<rest.length)).map Prod.fst↔i∈St.map Prod.fst):=fun hi=>by
   constructor
   ·intro h
    obtain⟨s,h1,h2⟩:=List.mem_map.1 h;exact List.mem_map.2 ⟨s,(List.mem_filter.1 h1).1,h2⟩
   ·intro h
    obtain⟨s,h1,h2⟩:=List.mem_map.1 h;exact List.mem_map.2 ⟨s,List.mem_filter.2 ⟨h1,decide_eq_true (by rw[h2];exact hi)⟩,h2⟩
  constructor
  ·rintro⟨⟨h1,h2⟩,h3⟩
   have hi:=of_decide_eq_true h3;refine⟨hi,fun h=> ?_⟩;have:=(hfst hi).1 h;rw[List.contains_iff_mem.2 this] at h2;cases h2
  ·rintro⟨h1,h2⟩
   refine⟨⟨by rw[aJ];omega,?_⟩,decide_eq_true h1⟩
   have:(St.map Prod.fst).contains i=false:=by
    cases hk:(St.map Prod.fst).contains i with
    | false=>rfl
    | true=>exact absurd ((hfst h1).2 (List.contains_iff_mem.1 hk)) h2
   rw[this];rfl
def xY(kn:Nat→Bool)(W K:Nat→List Nat):Nat→List Nat:=fun c=>if kn c then K c else W c
theorem BJ{D i:Nat}(hi:i<D){v:Nat→Nat→Nat}(hv:∀i j,v i j<256)(j:Nat):comes D v (dI D i) j=v i j:=by
 unfold comes
 have e:vO (dI D i)=fun k=>if k=i then 1 else 0:=funext fun k=>by
  show(dI D i).getD k 0=_;rw[lW];by_cases h:k=i
  ·rw[if_pos ⟨h,hi⟩,if_pos h]
  ·rw[if_neg (fun h2=>h h2.1),if_neg h]
 rw[e,jM _ (fun k=>hv k j),if_pos hi]
theorem pF(Z j:Nat):(List.replicate Z 0).getD j 0=0:=by rw[af,List.getElem?_replicate];split <;> rfl
theorem FH{n D Z:Nat}{kn:Nat→Bool}{l:List (List Nat)}{St:List (Nat×Nat)}{De Le:List Nat}(P:yP n kn l St De Le)(hD:De.length=D)(hl:∀r,(l.getD r []).Nodup){m:Nat→List Nat}(hm:∀c,c<n→Byt Z (m c))
 {z vl W0 M0:Nat→List Nat}(hz:∀r,r<l.length→Byt Z (z r)∧∀j,sX (fun c j=>(m c).getD j 0) j (l.getD r [])=(z r).getD j 0)(hvl:∀c,c<n→kn c=true→vl c=m c)
 (h0:∀i,i<D→W0 (De.getD i 0)=dI D i∧M0 (De.getD i 0)=List.replicate Z 0){X:List (List Nat)}(hX:X=De.map m):
 ∀c,c<n→Byt D (xY kn (bX l (fun _=>List.replicate D 0) W0 St) (fun _=>List.replicate D 0) c)∧Byt Z (xY kn (bX l z M0 St) vl c)∧
  ∀j,(m c).getD j 0=comes D (fun i j=>(X.getD i []).getD j 0) (xY kn (bX l (fun _=>List.replicate D 0) W0 St) (fun _=>List.replicate D 0) c) j ^^^ (xY kn (bX l z M0 St) vl c).getD j 0:=by
 intro c hc
 have hv:∀i j:Nat,(X.getD i []).getD j 0<256:=fun i j=>by
  rcases Nat.lt_or_ge i X.length with h | h
  ·refine getD_lt ?_ j
   have hi:i<De.length:=(by rw[hX,aG] at h;exact h);have e:X.getD i []=m De[i]:=(by rw[hX,af,List.getElem?_map,ag hi];rfl);rw[e];exact(hm _ (P.bd _ (.inr (aU hi)))).2
  ·have e:X.getD i []=[]:=by rw[af,List.getElem?_eq_none h];rfl
   rw[e];show(0:Nat)<256;decide
 unfold xY;cases hk:kn c with
 | true=>
   rw[if_pos rfl,if_pos rfl];refine⟨Byt.zero D,by rw[hvl c hc hk];exact hm c hc,fun j=> ?_⟩;rw[jO,Nat.zero_xor,hvl c hc hk]
 | false=>
   rw[if_neg (by decide),if_neg (by decide)];have hw:=L9 (D:=D) (Z:=Z) (W0:=W0) (M0:=M0) (z:=z) P.step hl (fun c j=>(m c).getD j 0) (fun i j=>(X.getD i []).getD j 0) hv (fun r hr=>(hz r hr).1) (fun r j hr=>(hz r hr).2 j) (fun d hd=> ?_) St.length (ah _) c ?_
   ·rw[List.take_length] at hw
    exact hw
   ·obtain⟨i,hi,rfl⟩:=List.getElem_of_mem hd
    have ei:De.getD i 0=De[i]:=(by rw[af,ag hi];rfl);obtain⟨h1,h2⟩:=h0 i (by omega);rw[ei] at h1 h2;rw[h1,h2];refine⟨⟨gD _ _,mV _ _⟩,Byt.zero Z,fun j=> ?_⟩;rw[BJ (by omega) hv,pF,Nat.xor_zero];have e:X.getD i []=m De[i]:=(by rw[hX,af,List.getElem?_map,ag hi];rfl);rw[e]
   ·rw[List.take_length]
    exact((P.all c hc).1 hk).symm
theorem BK{n Z:Nat}{l:List (List Nat)}{Le:List Nat}{M z:Nat→List Nat}{PR:List (List Nat)}{m:Nat→Nat→Nat}(hMb:∀c,c<n→Byt Z (M c))(hm:∀c,c<n→∀j,m c j=(M c).getD j 0)
 (hlk:∀r∈Le,∀c∈l.getD r [],c<n)(hz:∀r∈Le,Byt Z (z r))(hrow:∀r∈Le,∀j,sX m j (l.getD r [])=(z r).getD j 0)
 (hPR:Wf n PR)(hpre:∀row∈PR,∀j,dG (vO row) (fun c=>m c j) n=0):
 ∀b∈Le.map (fun r=>bz M (l.getD r []) (z r))++PR.map fun row=>cZ M row (List.replicate Z 0) n,b=List.replicate Z 0:=by
 intro b hb;rcases List.mem_append.1 hb with hb | hb
 ·obtain⟨r,hr,rfl⟩:=List.mem_map.1 hb
  have h1:∀c∈l.getD r [],(M c).length=Z:=fun c hc=>(hMb c (hlk r hr c hc)).1;refine iN (by rw[eB (hz r hr).1 h1,aN]) fun j=> ?_;rw[iX j (hz r hr).1 h1,←hrow r hr j,pF];have e:sX m j (l.getD r [])=sX (fun c j=>(M c).getD j 0) j (l.getD r []):=lJ fun c hc=>hm c (hlk r hr c hc) j;rw[e,Nat.xor_self]
 ·obtain⟨row,hr,rfl⟩:=List.mem_map.1 hb
  have h1:∀c,c<n→(M c).length=Z:=fun c hc=>(hMb c hc).1;refine iN (by rw[(eQ (Byt.zero Z) n h1).1,aN]) fun j=> ?_;rw[zA (hPR row hr).2 j n h1,pF];refine Eq.trans ?_ (hpre row hr j)
  have:∀k,k≤n→dG (vO row) (fun c=>(M c).getD j 0) k=dG (vO row) (fun c=>m c j) k:=by
   intro k
   induction k with
   | zero=>intro _;rfl
   | succ k ih=>intro hk;show dG _ _ k ^^^ fm (vO row k) ((M k).getD j 0)=dG _ _ k ^^^ fm (vO row k) (m k j);rw[ih (by omega),hm k (by omega) j]
  exact this n (ah _)
theorem FI{Z:Nat}{M:Nat→List Nat}{row z:List Nat}(hz:z.length=Z)(j:Nat):∀k,(∀c,c<k→(M c).length=Z)→(cZ M row z k).length=Z∧(cZ M row z k).getD j 0=z.getD j 0 ^^^ dG (vO row) (fun c=>(M c).getD j 0) k:=by
 intro k
 induction k with
 | zero=>intro _;exact⟨hz,(Nat.xor_zero _).symm⟩
 | succ k ih=>
   intro h;obtain⟨h1,h2⟩:=ih fun c hc=>h c (by omega);have h3:(jH (row.getD k 0) (M k)).length=Z:=(by rw[lh];exact h k (by omega));refine⟨?_,?_⟩
   ·show(xr (cZ M row z k) (jH (row.getD k 0) (M k))).length=Z
    rw[jE (by rw[h1,h3])];exact h1
   ·show(xr (cZ M row z k) (jH (row.getD k 0) (M k))).getD j 0=_
    rw[lI (by rw[h1,h3]),h2,iO,Nat.xor_assoc];rfl
theorem IZ{D Z:Nat}{X:List (List Nat)}{w z mc:List Nat}(hX:Wf Z X)(hl:X.length=D)(hz:z.length=Z)(hmc:mc.length=Z)(h:∀j,mc.getD j 0=comes D (fun i j=>(X.getD i []).getD j 0) w j ^^^ z.getD j 0):cZ (fun i=>X.getD i []) w z D=mc:=by
 have hb:∀c,c<D→(X.getD c []).length=Z:=fun c hc=>(hX.get (by omega)).1;have hall:=fun j=>FI (M:=fun i=>X.getD i []) (row:=w) hz j D hb;refine iN (by rw[(hall 0).1,hmc]) fun j=> ?_;rw[(hall j).2,h j,Nat.xor_comm];rfl
def bJ(l:List Bool):List Value:=l.map Value.bool
theorem kV(l:List Bool):(bJ l).length=l.length:=aG _
theorem sj{w:World}{B:Nat}{a:Option Addr}{n:Nat}{l:List Bool}(h:Rd w B a n (bJ l)){i:Nat}(hi:i<n):∃b o,a=some ⟨b,o,none⟩∧b<B∧w.cell? ⟨b,o+i,none⟩=some (.bool (l.getD i false)):=by
 have hl:l.length=n:=by have:=h.len;rwa [kV] at this
 obtain⟨b,o,e,hb,hc⟩:=h.2 (by omega);exact⟨b,o,e,hb,hc i _ (by unfold bJ;rw[List.getElem?_map,af,ag (by omega)];rfl)⟩
def dA(kn:List Bool)(cols:List Nat):List Nat:=cols.filter fun c=> !kn.getD c false
def kW(kn:List Bool)(cols:List Nat):List Nat:=cols.filter fun c=>kn.getD c false
theorem Av{kn:List Bool}{cols:List Nat}{k:Nat}(h:k<cols.length):dA kn (cols.take (k+1))=if kn.getD (cols.getD k 0) false then dA kn (cols.take k) else dA kn (cols.take k)++[cols.getD k 0]:=by
 unfold dA;rw[aP h,List.filter_append,af (l:=cols),ag h];show _++List.filter _ [cols[k]]=if kn.getD cols[k] false then _ else _++[cols[k]];cases hk:kn.getD cols[k] false with
 | true=>rw[List.filter_cons,hk];simp
 | false=>rw[List.filter_cons,hk];simp
theorem JE{kn:List Bool}{cols:List Nat}{k:Nat}(h:k<cols.length):kW kn (cols.take (k+1))=if kn.getD (cols.getD k 0) false then kW kn (cols.take k)++[cols.getD k 0] else kW kn (cols.take k):=by
 unfold kW;rw[aP h,List.filter_append,af (l:=cols),ag h];show _++List.filter _ [cols[k]]=if kn.getD cols[k] false then _++[cols[k]] else _;cases hk:kn.getD cols[k] false with
 | true=>rw[List.filter_cons,hk];simp
 | false=>rw[List.filter_cons,hk];simp
theorem OwnB.atA{w:World}{C n c i:Nat}{a:Option Addr}{l:List Nat}(h:OwnB w C (.slice a n c) l)(hl:l.length=n)(hi:i<n):
 ∃g,a=some ⟨g,0,none⟩∧C≤g∧g<w.heap.size∧w.cell? ⟨g,i,none⟩=some (.int .u8 (l.getD i 0:Nat))∧w.frozen? ⟨g,i,none⟩=false∧∀x:Nat,OwnB (w.setCell ⟨g,i,none⟩ (.int .u8 (x:Int))) C (.slice a n c) (l.set i x):=by
 unfold OwnB at h ⊢;rw[hl] at h;obtain⟨g,cap,e,h1,h2⟩:=World.ownsRow.form h (by omega);injection e with e e2 e3;subst e e3;refine⟨g,rfl,h1,h2,(h.cellAt i (by omega)).trans (dz (by omega)),h.frozenAt i,fun x=> ?_⟩;rw[List.length_set,hl,←uS];exact(h.stored i _).1
theorem mU{w:World}{ops:Array Oper}{rest:List Oper}{o:Oper}{a:Act}{Q:Exit→Act→World→Prop}(hgd:o.guard=none)(s x:Operand){C y:Nat}{i:Int}{v:Value}{xs:List Nat}(hi:i=(y:Int))
 (ho:o.op=.call { callee:=.builtin .append,args:=#[s,x],argTypes:=#[24,24] })
 (h:OwnI w C v xs)(hC:C≤w.heap.size)(hl:xs.length≤1000000)(hs:a.eval s=v)(hx:a.eval x=.slice (some ⟨w.heap.size,0,none⟩) 1 1)
 (K:∀v' w2,OwnI w2 C v' (xs++[y])→Below C w w2→w.heap.size≤w2.heap.size→(∀b,b<w.heap.size→some b≠v.ownBlock→w2.heap[b]? =w.heap[b]?)→(v'.ownBlock=v.ownBlock∨∃b,v'.ownBlock=some b∧w.heap.size≤b)→wpList prog ops Q rest (a.put o.dst v') w2):
 wpList prog ops Q (o :: rest) a (w.alloc (.cells #[.int .i64 i] 3)):=by
 subst hi;have hba:=(az w.heap.size w).alloc (ah _) (.cells #[.int .i64 (y:Int)] 3);have h1:OwnI (w.alloc (.cells #[.int .i64 (y:Int)] 3)) C v xs:=eZ h hba;have hC1:=aQ hC hba.size;have hcell:=dO w #[.int .i64 (y:Int)] 3 0;have hbC:=hba.mono hC;generalize w.alloc (.cells #[.int .i64 (y:Int)] 3)=w1 at*;refine jo (P:=prog) w1 hgd s x 24 ho C 3 (.int .i64 0) 8 underlying24 dK rfl v xs.length (bf xs) hs h1 w.heap.size (.int .i64 (y:Int)) hx hcell rfl (by omega) (by unfold maxLen;omega) hC1 fun v' w2 hown hg hat=> ?_;refine K v' w2 ?_ (hbC.trans ((az _ _).grown hg hC1 fun g hg=>(World.ownsRow.lt h1 g hg).1)) (aQ hba.size hg.size) (fun b hb hne=>(hg.block b (aY hb hba.size) hne).trans (hba.block b hb)) (hat.elim .inl fun e=>.inr ⟨_,e,hba.size⟩);unfold OwnI;rw[aJ];have e:bf (xs++[y])=bf xs++[.int .i64 (y:Int)]:=by unfold bf;rw[aW];rfl
 rw[e];exact hown
theorem su{w:World}{C e n g:Nat}{v:Value}{xs:List Value}(h:w.ownsRow C e 1 v n xs){t:TypeId}{cs:Array Value}(hb:Blk w g t cs)(hne:t≠e):some g≠v.ownBlock:=by
 intro e1;rcases h.2 with⟨rfl,_⟩ | ⟨g',cap,cur,rfl,_,hg,_⟩
 ·simp[Value.ownBlock] at e1
 ·simp[Value.ownBlock] at e1
  subst e1;have h2:w.heap[g]? =some (.cells cs t (0,0)):=hb;rw[hg] at h2;injection h2 with h2;injection h2 with _ h3;exact hne h3.symm
theorem bK{w w':World}{C e n:Nat}{v:Value}{xs:List Value}(h:w.ownsRow C e 1 v n xs)(hk:∀b,v.ownBlock=some b→w'.heap[b]? =w.heap[b]?):w'.ownsRow C e 1 v n xs:=by
 refine⟨h.1,?_⟩;rcases h.2 with h2 | ⟨g,cap,cur,rfl,hg,hh,r⟩
 ·exact .inl h2
 ·exact .inr ⟨g,cap,cur,rfl,hg,(hk g rfl).trans hh,r⟩
theorem xj(g n q Z:Nat)(sl:Value)(ak av ac ad:Option Addr)(ck cv cc cd:Nat)(kn:List Bool)(vl:List (List Nat))(cols d:List Nat)(w:World)
 (hg:Blk w g 208 #[sl,.slice ak n ck,.slice av n cv])(hk:Rd w w.heap.size ak n (bJ kn))(hv:RdM w w.heap.size av n vl)
 (hc:Rd w w.heap.size ac q (bf cols))(hd:Rd w w.heap.size ad Z (ba d))(hnil:ad=none→cd=0)(hZ:Z≤1000)(hq:q≤1000)(hn:n≤1000)
 (hcn:∀c∈cols,c<n)(hvl:∀c∈cols,kn.getD c false=true→(vl.getD c []).length=Z∧By (vl.getD c []))(hby:By d):
 Calls prog 138 #[.pointer (some ⟨g,0,none⟩),.agg #[.slice ac q cc,.slice ad Z cd]] w fun e w'=>
  ∃v1 v2,e=.returned (.agg #[v1,v2])∧OwnI w' w.heap.size v1 (dA kn cols)∧OwnB w' w.heap.size v2 (bz (fun c=>vl.getD c []) (kW kn cols) d)∧Below w.heap.size w w':=by
 have hdl:d.length=Z:=by have:=hd.len;rwa [bg] at this
 have hcl:cols.length=q:=by have:=hc.len;simpa[bf] using this
 have hglt:=hg.lt;obtain⟨w0,hw0⟩:∃w0,w0=(w.alloc (.cells #[.slice ac q cc,.slice ad Z cd] 126)).alloc (.cells #[.slice none 0 0,.slice none 0 0] 126):=⟨_,rfl⟩
 have S0:Hid (Sx w w0 [bu (w.heap.size+1) 126 #[.slice none 0 0,.slice none 0 0],bu w.heap.size 126 #[.slice ac q cc,.slice ad Z cd],bu g 208 #[sl,.slice ak n ck,.slice av n cv],jp ak n (bJ kn),qp av n vl,jp ac q (bf cols),jp ad Z (ba d)]):=by
  rw[hw0];have h1:=((((((Sx.nil w).add (jp ad Z (ba d)) hd).add (jp ac q (bf cols)) hc).add (qp av n vl) hv).add (jp ak n (bJ kn)) hk).add (bu g _ _) hg);have h2:=(h1.alloc (.cells #[.slice ac q cc,.slice ad Z cd] 126)).add (bu w.heap.size _ _) (Blk.new w _ _);have h3:=(h2.alloc (.cells #[.slice none 0 0,.slice none 0 0] 126)).add (bu _ _ _) (Blk.new _ _ _);have e:(w.alloc (.cells #[.slice ac q cc,.slice ad Z cd] 126)).heap.size=w.heap.size+1:=(by simp);rw[e] at h3;exact ae h3
 have hsz0:w0.heap.size=w.heap.size+2:=by rw[hw0];simp
 have HCN:=ae hcn;have HVL:=ae hvl;have HBY:=ae hby;have HDL:=ae hdl;have HCL:=ae hcl;clear hg hk hv hc hd hcn hvl hby hdl hcl;go_enter func138,ntmps138;go_wp2_with fail;rw[←hw0];clear hw0;refine(dF d _ ad Z cd w0 (S0.out.rd 6 rfl) (ah _) hnil (by omega)).mono ?_;rintro e w1 ⟨v,rfl,hO,hb⟩;obtain⟨a2,c2,rfl,-⟩:=hO.rd2 HDL.out;have HO:=ae hO;have HB:=ae hb;clear hO hb;have S1:=ae (S0.out.step HB.out);have hs01:=HB.out.size;have e0:w1.cell? ⟨w.heap.size,0,none⟩=some (.slice ac q cc):=(S1.out.blk 1 rfl).cell 0;have hlt1:w.heap.size<w1.heap.size:=by omega
 have HSZ:=ae hsz0;clear hsz0;have HK0:=ae (Blk.new w1 126 #[.slice none 0 0,.slice a2 Z c2]);have hba:=(az w1.heap.size w1).alloc (ah _) (.cells #[.slice none 0 0,.slice a2 Z c2] 126);have HB2:=ae (HB.out.trans (hba.mono hs01));have HO2:=ae (HO.out.below hba);have hsz2:(w1.alloc (.cells #[.slice none 0 0,.slice a2 Z c2] 126)).heap.size=w1.heap.size+1:=by simp
 clear hba HO HB;go_upto_region 3 with fail;clear e0 S1;generalize w1.alloc (.cells #[.slice none 0 0,.slice a2 Z c2] 126)=w2 at*;generalize hGe:w1.heap.size=G at*;clear hGe hsz2;have HQ0:Hid (∃v1:Value,Blk w2 G 126 #[v1,.slice a2 Z c2]∧OwnI w2 w0.heap.size v1 (dA kn (cols.take 0))∧OwnB w2 w0.heap.size (.slice a2 Z c2) (bz (fun c=>vl.getD c []) (kW kn (cols.take 0)) d)):=ae ⟨_,HK0.out,OwnI.nil _ _,HO2.out⟩;clear HK0 HO2;go_wp2_with fail;go_loopw [17] (fun i wr=>∃k:Nat,k≤q∧i=.int .i64 k∧Hid (∃v1:Value,Blk wr G 126 #[v1,.slice a2 Z c2]∧OwnI wr w0.heap.size v1 (dA kn (cols.take k))∧OwnB wr w0.heap.size (.slice a2 Z c2) (bz (fun c=>vl.getD c []) (kW kn (cols.take k)) d))∧Hid (Below w0.heap.size w0 wr)) (fun i _=>q-(intOf i).toNat)
 case atStart=>exact⟨0,by omega,rfl,HQ0,HB2⟩
 case round=>
  clear HQ0 HB2;obtain⟨k,hkq,rfl,HQ,HB⟩:=hrel;have S1:=ae (S0.out.step HB.out);obtain⟨v1,hK,hO1,hO2⟩:=HQ.out;obtain⟨a1,n1,c1,rfl⟩:=hO1.sl;have HK:=ae hK;have HO1:=ae hO1;have HO2:=ae hO2;clear hK hO1 hO2 HQ;have p1:=(S1.out.blk 2 rfl).cell 1;have p2:=(S1.out.blk 2 rfl).cell 2;by_cases hlt:k<q
  ·have hltI:(k:Int)<(q:Int):=by omega
   have hkl:k<cols.length:=(by rw[HCL.out];exact hlt);obtain⟨bc,oc,rfl,hbc,hcc⟩:=gJ (S1.out.rd 5 rfl) hlt;have hcm:cols.getD k 0∈cols:=(by rw[getD_at hkl];exact aU hkl);have hcx:cols.getD k 0<n:=HCN.out _ hcm;have hvx:=HVL.out _ hcm;obtain⟨bk,ok,rfl,hbk,hkc⟩:=sj (S1.out.rd 3 rfl) hcx;have HU:=ae (Av (kn:=kn) hkl);have HN:=ae (JE (kn:=kn) hkl);have hcxI:((cols.getD k 0:Nat):Int)<(n:Int):=(by omega);have hul:(dA kn (cols.take k)).length≤1000000:=aQ (List.length_filter_le _ _) (by rw[aI];omega);have hwr:=HB.out.size;clear hkl hcm;generalize cols.getD k 0=x at*;cases hkx:kn.getD x false with
   | false=>
     rw[hkx] at hkc HU HN;rw[if_neg (by decide)] at HU HN;have hG0:=HK.out.cell 0;have hG1:=HK.out.frozen 0;have hGl:=HK.out.lt;clear hvx hkx
     go_wp2_with (at_builtin;refine mU (w:=wr) (y:=x) rfl _ _ ?hi rfl HO1.out hwr hul rfl rfl ?_)
     case hi=>first | rfl | trivial
     intro v3 w3 hO3 hb3 hs3 hk3 hat3;have hne:some G≠(Value.slice a1 n1 c1).ownBlock:=su HO1.out HK.out (by decide);have HK3:Hid (Blk w3 G 126 #[.slice a1 n1 c1,.slice a2 Z c2]):=ae ((hk3 G hGl hne).trans HK.out)
     have h23:OwnB w3 w0.heap.size (.slice a2 Z c2) (bz (fun c=>vl.getD c []) (kW kn (cols.take k)) d):=bK HO2.out fun b hb=>hk3 b (World.ownsRow.lt HO2.out b hb).2 (fun e=>by
      rcases own_ne HO2.out HO1.out (by decide) with h | h
      ·rw[hb] at h;cases h
      ·exact h (hb.trans e))
     have HO23:=ae h23;rw[←HU.out] at hO3;have HO3:=ae hO3;have HB3:=ae (HB.out.trans hb3);obtain⟨a3,n3,c3,rfl⟩:=HO3.out.sl;have hne3:(Value.slice a3 n3 c3).ownBlock≠some G:=(su HO3.out HK3.out (by decide)).symm;clear hk3 hb3 hat3 h23 hO3 HO1 HO2 HK HB hG0 hG1 hne S1 p1 p2 hkc hcc;have hG0:=HK3.out.cell 0;have hG1:=HK3.out.frozen 0;have hset:=HK3.out.set 0 (.slice a3 n3 c3);have HKn:Hid (Blk (w3.setCell ⟨G,0,none⟩ (.slice a3 n3 c3)) G 126 #[.slice a3 n3 c3,.slice a2 Z c2]):=ae (by simpa using hset);have hfar:∀b,b≠G→(w3.setCell ⟨G,0,none⟩ (.slice a3 n3 c3)).heap[b]? =w3.heap[b]? :=fun b hb=>aZ _ _ _ _ hb;have hO3n:OwnI (w3.setCell ⟨G,0,none⟩ (.slice a3 n3 c3)) w0.heap.size (.slice a3 n3 c3) (dA kn (cols.take (k+1))):=bK HO3.out fun b hb=>hfar b (fun e=>hne3 (by rw[hb,e]))
     have hO2n:OwnB (w3.setCell ⟨G,0,none⟩ (.slice a3 n3 c3)) w0.heap.size (.slice a2 Z c2) (bz (fun c=>vl.getD c []) (kW kn (cols.take (k+1))) d):=by
      rw[HN.out];exact bK HO23.out fun b hb=>hfar b (fun e=>su HO23.out HK3.out (by decide) (by rw[hb,e]))
     have hGC:w0.heap.size≤G:=(by omega);have HQn:=ae (⟨_,HKn.out,hO3n,hO2n⟩:∃v1:Value,Blk (w3.setCell ⟨G,0,none⟩ (.slice a3 n3 c3)) G 126 #[v1,.slice a2 Z c2]∧OwnI (w3.setCell ⟨G,0,none⟩ (.slice a3 n3 c3)) w0.heap.size v1 (dA kn (cols.take (k+1)))∧OwnB (w3.setCell ⟨G,0,none⟩ (.slice a3 n3 c3)) w0.heap.size (.slice a2 Z c2) (bz (fun c=>vl.getD c []) (kW kn (cols.take (k+1))) d));have HBn:=ae (HB3.out.setCell (p:=⟨G,0,none⟩) hGC (.slice a3 n3 c3));clear hset hfar hO3n hO2n HKn HO3 HO23 HB3 HK3 hne3;go_wp2_with fail;go_roundw
     case rel=>(try((repeat apply Exists.intro);refine⟨?_,rfl⟩));exact⟨k+1,by omega,by go_num,HQn,HBn⟩
     case measure=>simp[intOf];omega
   | true=>
     rw[hkx] at hkc HU HN;rw[if_pos rfl] at HU HN;obtain⟨hvl1,hvl2⟩:=hvx hkx;have hML:RdM wr w0.heap.size av n vl:=(show RdM w0 w0.heap.size av n vl from S0.out.get 4 rfl).below HB.out (ah _);obtain⟨bv,ov,a',c',rfl,hbv,hvc,hvr,-⟩:=hML.at hcx;rw[hvl1] at hvc hvr;have HVR:=ae hvr;have hG1c:=HK.out.cell 1
     have hsl:(bz (fun c=>vl.getD c []) (kW kn (cols.take k)) d).length=Z:=by
      refine eB HDL.out fun c hc=> ?_;obtain⟨h1,h2⟩:=List.mem_filter.1 hc;exact(HVL.out c (List.mem_of_mem_take h1) h2).1
     have hsb:By (bz (fun c=>vl.getD c []) (kW kn (cols.take k)) d):=by
      refine(df (D:=Z) ⟨HDL.out,HBY.out⟩ fun c hc=> ?_).2;obtain⟨h1,h2⟩:=List.mem_filter.1 hc;exact HVL.out c (List.mem_of_mem_take h1) h2
     have HE:Hid (bz (fun c=>vl.getD c []) (kW kn (cols.take (k+1))) d=xr (bz (fun c=>vl.getD c []) (kW kn (cols.take k)) d) (vl.getD x [])):=ae (by rw[HN.out];unfold bz;rw[List.foldl_append];rfl);clear hML hkx hvx;generalize hX:vl.getD x []=X at*;clear hX;generalize bz (fun c=>vl.getD c []) (kW kn (cols.take k)) d=D at*;have HO20:Hid (OwnB wr w0.heap.size (.slice a2 Z c2) (xD D X 0)):=ae (by rw[tK];exact HO2.out);rename World=>wo;have HBo:=HB;have hlto:=HK.out.lt;go_wp2_with fail;clear hkc hcc p1 p2 hvc hG1c;go_loopw [43] (fun i wr=>∃t:Nat,t≤Z∧i=.int .i64 t∧Hid (OwnB wr w0.heap.size (.slice a2 Z c2) (xD D X t))∧Hid (wo.grownBy wr (Value.slice a2 Z c2).ownBlock)) (fun i _=>Z-(intOf i).toNat)
     case atStart=>exact⟨0,by omega,rfl,HO20,ae (grownBy_refl _ _)⟩
     case round=>
      clear HO20;obtain⟨t,htZ,rfl,HOt,HGt⟩:=hrel;have hKt:Blk wr G 126 #[.slice a1 n1 c1,.slice a2 Z c2]:=(HGt.out.block G hlto (su HO2.out HK.out (by decide))).trans HK.out;have HKt:=ae hKt;clear hKt;by_cases htz:t<Z
      ·have htI:(t:Int)<(Z:Int):=by omega
       obtain⟨br,orr,rfl,hbr,hcr⟩:=HVR.out.2 (by omega);have hc0:=hcr t (.int .u8 (X.getD t 0:Nat)) (dz (by omega));obtain⟨g2,rfl,hg21,hg22,hd,hfr,hst⟩:=HOt.out.atA (xG hsl hvl1 htZ) htz;rw[xH hsl hvl1 htz] at hd
       have hcc:wr.cell? ⟨br,orr+t,none⟩=some (.int .u8 (X.getD t 0:Nat)):=(World.cell?_of_block (w:=wo) (a:=⟨br,orr+t,none⟩) (HGt.out.block br (by omega) (fun e=>by
        simp only[Value.ownBlock] at e;injection e with e;have e:br=g2:=e;omega))).trans hc0
       have hG1:=HKt.out.cell 1;have hx1:=getD_lt hvl2 t;have hx2:=getD_lt hsb t;have hxr:=u8_xor_nat (D.getD t 0) (X.getD t 0) hx2 hx1;have hst2:=hst (D.getD t 0 ^^^ X.getD t 0);rw[xI hsl hvl1 htz] at hst2;have HOn:=ae hst2;have HGn:Hid (wo.grownBy (wr.setCell ⟨g2,t,none⟩ (.int .u8 ((D.getD t 0 ^^^ X.getD t 0:Nat):Int))) (some g2)):=ae (og HGt.out t _);clear hst hst2 hc0 hcr HOt HGt HKt;generalize D.getD t 0 ^^^ X.getD t 0=y at*;generalize D.getD t 0=y1 at*;generalize X.getD t 0=y2 at*;go_wp2_with fail;go_roundw
       case rel=>(try((repeat apply Exists.intro);refine⟨?_,rfl⟩));exact⟨t+1,by omega,by go_num,HOn,HGn⟩
       case measure=>simp[intOf];omega
      ·obtain rfl:t=Z:=by omega
       have hO1n:OwnI wr w0.heap.size (.slice a1 n1 c1) (dA kn (cols.take (k+1))):=by
        rw[HU.out]
        exact bK HO1.out fun b hb=>HGt.out.block b (World.ownsRow.lt HO1.out b hb).2 (fun e=>by
         rcases own_ne HO1.out HO2.out (by decide) with h | h
         ·rw[hb] at h;cases h
         ·exact h (hb.trans e))
       have hO2n:OwnB wr w0.heap.size (.slice a2 t c2) (bz (fun c=>vl.getD c []) (kW kn (cols.take (k+1))) d):=by
        rw[HE.out,←xE hsl hvl1];exact HOt.out
       have HQn:=ae (⟨_,HKt.out,hO1n,hO2n⟩:∃v1:Value,Blk wr G 126 #[v1,.slice a2 t c2]∧OwnI wr w0.heap.size v1 (dA kn (cols.take (k+1)))∧OwnB wr w0.heap.size (.slice a2 t c2) (bz (fun c=>vl.getD c []) (kW kn (cols.take (k+1))) d));have HBn:=ae (HBo.out.grown HGt.out hwr fun b hb=>(World.ownsRow.lt HO2.out b hb).1);clear hO1n hO2n;go_wp2_with fail;go_roundw
       case rel=>(try((repeat apply Exists.intro);refine⟨?_,rfl⟩));exact⟨k+1,by omega,by go_num,HQn,HBn⟩
       case measure=>simp[intOf];omega
  ·obtain rfl:k=q:=by omega
   rw[aO (by rw[HCL.out];exact ah _)] at HO1 HO2;have r0:=HK.out.cell 0;have r1:=HK.out.cell 1;have HSB:=ae (S1.out.blk 0 rfl);have HBF:=ae S1.out.1;have f0:=HSB.out.frozen 0;have f1:=HSB.out.frozen 1;have z0:=HSB.out.cell 0;have z1:=HSB.out.cell 1;have hs2:=HSZ.out;have hfar:∀b,b≠w.heap.size+1→((wr.setCell ⟨w.heap.size+1,0,none⟩ (.slice a1 n1 c1)).setCell ⟨w.heap.size+1,1,none⟩ (.slice a2 Z c2)).heap[b]? =wr.heap[b]? :=fun b hb=>(aZ _ _ _ _ hb).trans (aZ _ _ _ _ hb);have HO1n:Hid (OwnI ((wr.setCell ⟨w.heap.size+1,0,none⟩ (.slice a1 n1 c1)).setCell ⟨w.heap.size+1,1,none⟩ (.slice a2 Z c2)) w0.heap.size (.slice a1 n1 c1) (dA kn cols)):=ae (bK HO1.out fun b hb=>hfar b (by have:=(World.ownsRow.lt HO1.out b hb).1;omega));have HO2n:Hid (OwnB ((wr.setCell ⟨w.heap.size+1,0,none⟩ (.slice a1 n1 c1)).setCell ⟨w.heap.size+1,1,none⟩ (.slice a2 Z c2)) w0.heap.size (.slice a2 Z c2) (bz (fun c=>vl.getD c []) (kW kn cols) d)):=ae (bK HO2.out fun b hb=>hfar b (by have:=(World.ownsRow.lt HO2.out b hb).1;omega));have HBn:=ae ((HBF.out.setCell (p:=⟨w.heap.size+1,0,none⟩) (by show w.heap.size≤w.heap.size+1;omega) (.slice a1 n1 c1)).setCell (p:=⟨w.heap.size+1,1,none⟩) (by show w.heap.size≤w.heap.size+1;omega) (.slice a2 Z c2));have hset:=(HSB.out.set 0 (.slice a1 n1 c1)).set 1 (.slice a2 Z c2);have HSR:Hid (Blk ((wr.setCell ⟨w.heap.size+1,0,none⟩ (.slice a1 n1 c1)).setCell ⟨w.heap.size+1,1,none⟩ (.slice a2 Z c2)) (w.heap.size+1) 126 #[.slice a1 n1 c1,.slice a2 Z c2]):=ae (by simpa using hset);have hw02:w.heap.size≤w0.heap.size:=(by omega);clear hfar hset HSB HBF S1 HK HO1 HO2 HB hs2;go_wp2_with fail
   (try simp only[Exit.inBlock,Exit.then])
   refine bodyPost_ret (results_cell_row rfl _ _ (w.heap.size+1) 126 #[.slice a1 n1 c1,.slice a2 Z c2] (0,0) _ rfl HSR.out underlying126 rfl (by kernel_rfl)) rfl ?_;exact⟨_,_,rfl,kI HO1n.out hw02,kI HO2n.out hw02,HBn.out⟩
def rU(x:List Nat×List Nat):Rp:=rP (rI x.1) (rB x.2)
def eM(L:List (List Nat×List Nat)):Rp:=rS 2 (L.map rU)
theorem K9{x:List Nat×List Nat}{w:World}{F:Nat→Prop}{ds:List Value}(h:(rU x).ok w F ds):∃u1 u2,ds=[u1,u2]∧(rI x.1).ok w F [u1]∧(rB x.2).ok w F [u2]:=by
 obtain⟨a,b,rfl,h1,h2⟩:=h;have l1:=(rI x.1).len h1;have l2:=(rB x.2).len h2;obtain⟨u1,rfl⟩:=List.length_eq_one_iff.1 l1;obtain⟨u2,rfl⟩:=List.length_eq_one_iff.1 l2;exact⟨u1,u2,rfl,h1,h2⟩
theorem lM{L:List (List Nat×List Nat)}{w:World}{F:Nat→Prop}{a:Option Addr}{n c i:Nat}(h:(eM L).ok w F [.slice a n c])(hl:L.length=n)(hi:i<n):
 ∃b o a1 q1 c1 a2 q2 c2,a=some ⟨b,o,none⟩∧F b∧b<w.heap.size∧w.cell? ⟨b,o+i*2,none⟩=some (.slice a1 q1 c1)∧w.cell? ⟨b,o+i*2+1,none⟩=some (.slice a2 q2 c2)∧(rI (L.getD i ([],[])).1).ok w F [.slice a1 q1 c1]∧(rB (L.getD i ([],[])).2).ok w F [.slice a2 q2 c2]∧q1=(L.getD i ([],[])).1.length∧q2=(L.getD i ([],[])).2.length:=by
 have hiL:i<L.length:=by omega
 have hR:(L.map rU)[i]? =some (rU (L.getD i ([],[]))):=by rw[List.getElem?_map,af,ag hiL];rfl
 obtain⟨b,o,ds,rfl,hF,hb,hok,hlen,hc⟩:=uN h (by decide) hi hR;obtain⟨u1,u2,rfl,h1,h2⟩:=K9 hok;obtain⟨a1,c1,rfl,-⟩:=dB h1 rfl;obtain⟨a2,c2,rfl,-⟩:=gB h2 rfl;exact⟨b,o,a1,_,c1,a2,_,c2,rfl,hF,hb,hc 0 _ rfl,hc 1 _ rfl,h1,h2,rfl,rfl⟩
theorem FO(g n N:Nat)(al ak:Option Addr)(cl ck:Nat)(sv:Value)(F:Nat→Prop)(kn:List Bool)(L:List (List Nat×List Nat))(w:World)
 (hg:Blk w g 208 #[.slice al N cl,.slice ak n ck,sv])(hL:(eM L).ok w F [.slice al N cl])(hk:Rd w w.heap.size ak n (bJ kn))(hN:L.length=N)(hNb:N≤1000)
 (hcn:∀x∈L,x.1.length≤1000∧∀c∈x.1,c<n)(hn:n≤1000):
 Calls prog 211 #[.pointer (some ⟨g,0,none⟩)] w fun e w'=>∃r:Int,e=.returned (.int .i64 r)∧(r<0∨∃i:Nat,r=(i:Int)∧i<N∧(dA kn (L.getD i ([],[])).1).length=1)∧Below w.heap.size w w':=by
 have S0:=ae ((((Sx.nil w).add (jp ak n (bJ kn)) hk).add (eR F (.slice al N cl) (eM L)) hL).add (bu g _ _) hg);have HB0:=ae (az w.heap.size w);have HN:=ae hN;have HCN:=ae hcn;have g0:=hg.cell 0;clear hg hL hk hN hcn;go_enter func211,ntmps211;go_wp2_with fail;clear g0;go_loopw [13] (fun i wr=>∃k:Nat,k≤N∧i=.int .i64 k∧Hid (Below w.heap.size w wr)) (fun i _=>N-(intOf i).toNat)
 case atStart=>exact⟨0,by omega,rfl,HB0⟩
 case round=>
  clear HB0;obtain⟨k,hkN,rfl,HB⟩:=hrel;have S1:=ae (S0.out.step HB.out);by_cases hlt:k<N
  ·have hltI:(k:Int)<(N:Int):=by omega
   have hLk:L.getD k ([],[])∈L:=(by rw[af,ag (by rw[HN.out];exact hlt)];exact aU _);obtain⟨hq,hcx⟩:=HCN.out _ hLk;obtain⟨b,o,a1,q1,c1,a2,q2,c2,rfl,_,hb,he0,he1,hR1,hR2,hq1,hq2⟩:=lM (S1.out.rep 1 rfl) HN.out hlt;obtain⟨a1',c1',e1,hRd,-⟩:=dB hR1 hq1.symm;injection e1 with e1 _ e3;subst e1 e3;have HRD:=ae hRd;have HKN:=ae (S1.out.rd 2 rfl);have HCX:=ae hcx;have HQ1:=ae hq1;have hwr:=HB.out.size;have HEX:Hid (L.getD k ([],[])=L.getD k ([],[])):=ae rfl;have p1:=(S1.out.blk 0 rfl).cell 1;have hgl:=(S1.out.blk 0 rfl).lt;have hlq:q1≤1000:=(by omega);clear hLk hR1 hR2 hRd hq2 hcx hq;generalize hx:L.getD k ([],[])=x at*;have HX:=ae hx;clear hx hq1;have hba:=(az wr.heap.size wr).alloc (ah _) (.cells #[.slice a1 q1 c1,.slice a2 q2 c2] 126);have HBA:=ae hba;have HB2:=ae (HB.out.trans (hba.mono hwr));have p1':=(hba.cell (p:=⟨g,1,none⟩) hgl).trans p1;have HKN2:=ae (HKN.out.below hba (ah _));have HRD2:=ae (HRD.out.below hba (ah _));clear hba S1 HB HKN HRD;go_wp2_with fail;clear p1 he0 he1;generalize wr.alloc (.cells #[.slice a1 q1 c1,.slice a2 q2 c2] 126)=w1 at*;go_loopw [5,21] (fun u i wq=>∃j:Nat,j≤q1∧i=.int .i64 j∧u=.int .i64 ((dA kn (x.1.take j)).length:Nat)∧wq=w1) (fun _ i _=>q1-(intOf i).toNat)
   case atStart=>exact⟨0,by omega,rfl,rfl,rfl⟩
   case round=>
    obtain⟨j,hjq,rfl,rfl,hw⟩:=hrel;have HW:=ae hw;clear hw;by_cases hlj:j<q1
    ·have hljI:(j:Int)<(q1:Int):=by omega
     have hjl:j<x.1.length:=(by rw[←HQ1.out];exact hlj);obtain⟨bc,oc,rfl,hbc,hcc⟩:=gJ HRD2.out hlj;have hcx:x.1.getD j 0<n:=HCX.out _ (by rw[getD_at hjl];exact aU hjl);obtain⟨bk,ok,rfl,hbk,hkc⟩:=sj HKN2.out hcx;have HU:=ae (Av (kn:=kn) hjl);have hcxI:((x.1.getD j 0:Nat):Int)<(n:Int):=(by omega);have hul:(dA kn (x.1.take j)).length≤1000:=aQ (List.length_filter_le _ _) (by rw[aI];omega);clear hjl;generalize x.1.getD j 0=y at*;cases hky:kn.getD y false with
     | false=>
       rw[hky] at hkc HU;rw[if_neg (by decide)] at HU;have HL2:Hid ((dA kn (x.1.take (j+1))).length=(dA kn (x.1.take j)).length+1):=ae (by rw[HU.out,aJ];rfl);clear HU;generalize (dA kn (x.1.take j)).length=z at*;rw[←HW.out] at hcc hkc p1';go_wp2_with fail;go_roundw
       case rel=>(try((repeat apply Exists.intro);refine⟨?_,rfl⟩));exact⟨j+1,by omega,by go_num,by rw[HL2.out];go_num,HW.out⟩
       case measure=>simp[intOf];omega
     | true=>
       rw[hky] at hkc HU;rw[if_pos rfl] at HU;generalize hz:dA kn (x.1.take j)=z at*;have HZ:=ae hz;clear hz;rw[←HW.out] at hcc hkc p1';go_wp2_with fail;go_roundw
       case rel=>(try((repeat apply Exists.intro);refine⟨?_,rfl⟩));exact⟨j+1,by omega,by go_num,by rw[HU.out],HW.out⟩
       case measure=>simp[intOf];omega
    ·obtain rfl:j=q1:=by omega
     rw[aO (by rw[←HQ1.out];exact ah _)];have HB3:Hid (Below w.heap.size w wr):=ae (by rw[HW.out];exact HB2.out);have hul:(dA kn x.1).length≤1000:=aQ (List.length_filter_le _ _) (by rw[←HQ1.out];omega);by_cases h1:(dA kn x.1).length=1
     ·rw[h1]
      have H1:=ae h1;clear h1 hul;go_wp2_with fail;go_ret;exact⟨_,rfl,.inr ⟨k,rfl,hlt,by rw[HX.out];exact H1.out⟩,HB3.out⟩
     ·have h1I:¬(((dA kn x.1).length:Nat):Int)=1:=by omega
      clear h1;generalize (dA kn x.1).length=z at*;go_wp2_with fail;go_roundw
      case rel=>(try((repeat apply Exists.intro);refine⟨?_,rfl⟩));exact⟨k+1,by omega,by go_num,HB3⟩
      case measure=>simp[intOf];omega
  ·obtain rfl:k=N:=by omega
   go_wp2_with fail;go_ret;exact⟨-1,rfl,.inl (by omega),HB.out⟩
end Go.Proofs.YtofgapdnadbgkaaGreatDoor
