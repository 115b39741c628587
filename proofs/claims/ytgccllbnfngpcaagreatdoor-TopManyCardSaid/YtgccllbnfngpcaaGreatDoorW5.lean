import Derived.Test.YtgccllbnfngpcaaGreatDoorW4
import Derived.Deep.RegionLaw
set_option linter.unusedVariables false
set_option maxRecDepth 100000
set_option maxHeartbeats 400000000
namespace Go.Proofs.YtgccllbnfngpcaaGreatDoor
open Go.RowKit _root_.Go.Proofs.Tryz List
open Value (int slice pointer bool)
open IntKind (i64)
open Ending (returned)
open Obj (cells)
theorem vU{P:Program}{w:World}{ops:Array Oper}{o:Oper}{a:Act}{K:Act->World->Prop}{Q:Exit->Act->World->Prop}{E:Prop}(hgd:o.guard=none)(s x:Operand)(t:TypeId)
 (ho:o.op=.call { callee:=.builtin .append,args:=#[s,x],argTypes:=#[t,t] })
 (base:Nat)(e:TypeId)(z:Value)(bytes:Nat)(ht:P.underlying t=some (.slice e))(hi:(P.info? e).map (fun i=>(i.zero,i.size,i.bytes))=some (some z,1,bytes))(hzs:z.cells.size=1)
 (v:Value)(n:Nat)(xs:List Value)(hs:a.eval s=v)(hown:w.ownsRow base e 1 v n xs)
 (B:Nat)(ad:Option Addr)(m c:Nat)(news:List Value)(hx:a.eval x=slice ad m c)(hnil:ad=none->c=0)(hr:Rd w B ad m news)(h1:∀u∈news,u.oneCell'=true)
 (hbytes:(n+m)*bytes<=140737488355328)(h63:n+m<=maxLen)(hbase:base<=w.heap.size)
 (h:∀v' w',w'.ownsRow base e 1 v' (n+m) (xs++news)->w.grownBy w' v.ownBlock->(v'.ownBlock=v.ownBlock\/v'.ownBlock=some w.heap.size)->K (a.put o.dst v') w'):
 if Region.wanted o (yielded ops a.tmps)=true then Oper.wp P o a w K Q else E:=by
 obtain⟨i,hi1,hi2,hi3,hi4⟩:=info_parts hi;have hw:Region.wanted o (yielded ops a.tmps)=true:=by simp[Region.wanted,hgd]
 rw[bf hw];cases ad with
 | none=>
   obtain rfl:=hnil rfl
   have hm:m=0:=by
    rcases Nat.eq_zero_or_pos m with h | h
    ·exact h
    ·obtain⟨_,_,e,_⟩:=hr.2 h;simp at e
   subst hm;have hn:news=[]:=eq_nil_of_length_eq_zero hr.1;subst hn;have hrun:=run_append_owned_none (P:=P) (w:=w) base t o.type e i 1 ht hi1 v n xs hown;unfold Oper.wp;simp[execOp,ho,resolve,invoke,builtin,hs,hx,hrun,Result.andThen];exact h v w (by simpa using hown) ⟨rfl,rfl,rfl,ah _,fun _ _ _=>rfl⟩ (.inl rfl)
 | some ad=>
   have hnews:∀j u,news[j]? =some u->w.cell? (ad.add j)=some u:=by
    intro j u hj
    have hjm:j<m:=by
     have:=(List.getElem?_eq_some_iff.1 hj).1;rw[hr.1] at this;exact this
    obtain⟨b,off,e,_,hc⟩:=hr.2 (by omega);obtain rfl:=Option.some.inj e;rw[Addr.add_lit];exact hc j u hj
   obtain⟨v',w',hrun,h2,h3,_,h5⟩:=run_append_own_at (P:=P) w base t o.type e i z 1 bytes ht hi1 hi2 hi3 hi4 hzs (by decide) v n xs hown ad m c news (by rw[hr.1];omega) hnews h1 h63 hbytes hbase;unfold Oper.wp execOp;simp only[ho,resolve,invoke,builtin,Sem.run_bind,Sem.run_pure,Result.andThen_ok,map_toArray,map_cons,map_nil,hs,hx,hrun];exact h v' w' h2 h3 h5
theorem RdM.drop{w:World}{B:Nat}{a:Option Addr}{n c:Nat}{M:List (List Nat)}(h:RdM w B a n M)(hc:n<=c){k:Nat}(hk:k<=n):RdM w B (if c=k then a else Option.map (fun x=>x.add k) a) (n-k) (M.drop k):=by
 obtain⟨h1,vs,h2,h3⟩:=h;refine⟨by rw[length_drop];omega,vs.drop k,⟨by rw[length_drop,h2.1],fun h0=> ?_⟩,fun i l hl=> ?_⟩
 ·obtain⟨b,o,rfl,hb,hcell⟩:=h2.2 (by omega)
  rw[bg (by omega)];refine⟨b,o+k,by simp[Addr.add_lit],hb,fun i u hu=> ?_⟩;rw[List.getElem?_drop] at hu;have:=hcell (k+i) u hu;rw[<-Nat.add_assoc] at this;exact this
 ·rw[List.getElem?_drop] at hl
  obtain⟨a',c',h5,h6⟩:=h3 _ l hl;exact⟨a',c',by rw[List.getElem?_drop];exact h5,h6⟩
theorem nil_drop{a:Option Addr}{c k:Nat}(h:a=none->c=0):(if c=k then a else Option.map (fun x=>x.add k) a)=none->c-k=0:=by
 intro e;split at e
 ·omega
 ·cases a with
  | none=>have:=h rfl;omega
  | some a=>simp at e
theorem NC{w:World}{B:Nat}{a:Option Addr}{len cap:Nat}{xs:List Nat}(h:Rd w B a len (bF xs))(hc:len<=cap){n:Nat}(hn:n<=len):
 Rd w B (if cap=n then a else Option.map (fun x=>x.add n) a) (len-n) (bF (xs.drop n)):=by
 have hl:=h.len;rw[bI] at hl;have:=KR h hc (lo:=n) (n:=len-n) (by omega)
 rwa [aJ (by rw[length_drop];omega)] at this
theorem KZ{a:Option Addr}{cap n:Nat}(h:a=none->cap=0)(hn:1<=n)(hc:n<=cap):(if cap=n then a else Option.map (fun x=>x.add n) a)=none->cap-n=0:=by
 intro e;split at e
 ·omega
 ·cases a with
  | none=>have:=h rfl;omega
  | some a=>simp at e
theorem DK{n:Nat}{A B:List (List Nat)}(hA:Wf n A)(hB:Wf n B):Wf n (A++B):=fun r hr=>by
 rcases bz.1 hr with hr | hr
 ·exact hA r hr
 ·exact hB r hr
def dO(p v:Nat->Nat):Nat->Nat
 | 0=>0
 | n+1=>dO p v n ^^^ fm (p n) (v n)
theorem yB(p v:Nat->Nat)(n:Nat):dO p v n<256:=by
 induction n with
 | zero=>exact(by decide:(0:Nat)<256)
 | succ n ih=>exact rH ih (gQ _ _)
theorem Ew(a b c d:Nat):(a ^^^ b) ^^^ (c ^^^ d)=(a ^^^ c) ^^^ (b ^^^ d):=by
 rw[Nat.xor_assoc,Nat.xor_assoc,<-Nat.xor_assoc b c,Nat.xor_comm b c,Nat.xor_assoc c]
theorem OJ{p a b:Nat->Nat}{c:Nat}(hp:Vb p)(ha:Vb a)(hb:Vb b)(hc:c<256)(n:Nat):dO p (kr c a b) n=dO p b n ^^^ fm c (dO p a n):=by
 induction n with
 | zero=>show 0=0 ^^^ fm c 0;rw[bK];rfl
 | succ n ih=>
   show dO p (kr c a b) n ^^^ fm (p n) (b n ^^^ fm c (a n))=(dO p b n ^^^ fm (p n) (b n)) ^^^ fm c (dO p a n ^^^ fm (p n) (a n))
   have e:fm (p n) (fm c (a n))=fm c (fm (p n) (a n)):=by
    rw[<-jA _ _ _ (hp n) hc (ha n),iR (p n) c,jA _ _ _ hc (hp n) (ha n)]
   rw[ih,mI (hp n) (hb n) (gQ _ _),mI hc (yB _ _ _) (gQ _ _),e];exact Ew _ _ _ _
theorem Ai(p:Nat->Nat)(n:Nat):dO p vz n=0:=by
 induction n with
 | zero=>rfl
 | succ n ih=>show dO p vz n ^^^ fm (p n) 0=0;rw[ih,bK];rfl
theorem yC{M:List (Nat->Nat)}(hM:∀r∈M,Vb r){p:Nat->Nat}(hp:Vb p){n:Nat}(h:∀r∈M,dO p r n=0){v:Nat->Nat}(hv:Spn M v):dO p v n=0:=by
 induction hv with
 | zero=>exact Ai p n
 | add c r v hc hr hs ih=>rw[OJ hp (hM r hr) hs.vb hc,ih,h r hr,bK];rfl
theorem Cu{n:Nat}{T:List (List Nat)}(hT:Wf n T)(h:∀j,j<T.length->∃p,Vb p/\(∀i,i<j->dO p (vO (T.getD i [])) n=0)/\dO p (vO (T.getD j [])) n≠0):(dE T).length=T.length:=by
 have key:∀j,j<=T.length->(dE (T.take j)).length=j:=by
  intro j
  induction j with
  | zero=>intro _;have:=(mi (show Wf n (T.take 0) from fun r hr=>by simp at hr)).2;simpa using this
  | succ j ih=>
    intro hj;have hw:Wf n (T.take j):=fun r hr=>hT r (bD hr);have hg:=hT.get (i:=j) (by omega)
    have hs:T.take (j+1)=T.take j++[T.getD j []]:=by
     rw[aN (by omega),af,ag (by omega)];rfl
    obtain⟨h1,h2⟩:=Kk hw hg.1 hg.2;have h3:=(mi (za hw hg.1 hg.2)).2;rw[aH,aG,length_singleton] at h3;rw[hs]
    have hne:¬(dE (T.take j++[T.getD j []])).length=(dE (T.take j)).length:=by
     intro he;rw[h2] at he;obtain⟨ls,hR,hS⟩:=fJ hw;rw[hR.rest_spn hg.1 hg.2] at he;obtain⟨p,hp,hz,hn⟩:=h j (by omega);refine hn (yC hw.vb hp (fun r hr=> ?_) ((hS _).2 he));obtain⟨x,hx,rfl⟩:=aW.1 hr;obtain⟨i,hi,rfl⟩:=bC hx;rw[aG] at hi;have:=hz i (by omega);rw[af,ag (by omega)] at this;rw[getElem_take];exact this
    have:=ih (by omega);omega
 have:=key T.length (ah _)
 rwa [take_length] at this
theorem sU{p q v:Nat->Nat}(hp:Vb p)(hq:Vb q)(hv:Vb v)(n:Nat):dO (fun h=>p h ^^^ q h) v n=dO p v n ^^^ dO q v n:=by
 induction n with
 | zero=>show(0:Nat)=0 ^^^ 0;decide
 | succ n ih=>
   show dO (fun h=>p h ^^^ q h) v n ^^^ fm (p n ^^^ q n) (v n)=_;rw[ih,mJ (hp n) (hq n) (hv n)];exact Ew _ _ _ _
theorem yD{p v:Nat->Nat}{c:Nat}(hc:c<256)(hp:Vb p)(hv:Vb v)(n:Nat):dO (fun h=>fm c (p h)) v n=fm c (dO p v n):=by
 induction n with
 | zero=>show 0=fm c 0;rw[bK]
 | succ n ih=>
   show dO (fun h=>fm c (p h)) v n ^^^ fm (fm c (p n)) (v n)=fm c (dO p v n ^^^ fm (p n) (v n));rw[ih,mI hc (yB _ _ _) (gQ _ _),jA _ _ _ hc (hp n) (hv n)]
def ku(n:Nat):Nat->List (List Nat)
 | 0=>[]
 | k+1=>ku n k++[dS n k]
theorem lW(n k:Nat):(ku n k).length=k:=by
 induction k with
 | zero=>rfl
 | succ k ih=>rw[ku,aH,ih];rfl
theorem nK(n k:Nat):Wf n (ku n k):=by
 induction k with
 | zero=>intro r hr;simp[ku] at hr
 | succ k ih=>exact za ih (gZ _ _) (nu _ _)
theorem pu(n k:Nat){i:Nat}(hi:i<k):(ku n k).getD i []=dS n i:=by
 induction k with
 | zero=>omega
 | succ k ih=>
   rw[ku,af,List.getElem?_append,lW];by_cases h:i<k
   ·rw[bf h,<-af];exact ih h
   ·obtain rfl:i=k:=by omega
    simp
theorem kw(v:Nat->Nat)(hv:Vb v)(k:Nat):∀n,dO (fun j=>if j=k then 1 else 0) v n=if k<n then v k else 0:=by
 intro n
 induction n with
 | zero=>rfl
 | succ n ih=>
   show dO _ v n ^^^ fm (if n=k then 1 else 0) (v n)=_;rw[ih];by_cases h:n=k
   ·subst h
    rw[bf rfl,bg (by omega),bf (by omega),jm _ (hv n),Nat.zero_xor]
   ·rw[bg h,dh,Nat.xor_zero]
    by_cases h2:k<n
    ·rw[bf h2,bf (by omega)]
    ·rw[bg h2,bg (by omega)]
theorem tC(k:Nat):Vb fun j=>if j=k then 1 else 0:=fun j=>by show(if j=k then 1 else 0)<256;split <;> decide
theorem Bj(n:Nat):(dE (ku n n)).length=n:=by
 have h:=Cu (nK n n) fun j hj=>by
  rw[lW] at hj;refine⟨_,tC j,fun i hi=> ?_,?_⟩
  ·rw[pu n n (by omega),kw _ (iq (nu n i)),bf hj]
   show(dS n i).getD j 0=0;rw[mF,bg (by omega)]
  ·rw[pu n n hj,kw _ (iq (nu n j)),bf hj]
   show(dS n j).getD j 0≠0;rw[mF,bf ⟨rfl,hj⟩];decide
 rw[h,lW]
theorem DR{n:Nat}{A:List (List Nat)}(hA:Wf n A):(dE (A++ku n n)).length=n:=by
 have hw:=DK hA (nK n n);have h1:=(mi hw).1;have h2:=Ep (nK n n) hw fun v hv=>hv.sub fun r hr=>by rw[aQ];exact mem_append_right _ hr
 rw[Bj] at h2;omega
structure oM (n:Nat) (l:List (List Nat)) (St:List (Nat×Nat)) (De Le:List Nat):Prop where
 step:∀(k r c:Nat),St[k]? =some (r,c)->r<l.length/\c∈l.getD r []/\∀d∈l.getD r [],d≠c->d∈De\/∃k' r',k'<k/\St[k']? =some (r',d)
 rows:(St.map Prod.fst).Nodup
 cols:(St.map Prod.snd++De).Nodup
 all:∀c,c<n↔c∈St.map Prod.snd\/c∈De
 left:Le=(range l.length).filter fun i=> !(St.map Prod.fst).contains i
 nodead:∀c∈De,∀r,r<l.length->l.getD r []≠[c]
def jC(W:Nat->List Nat)(c:Nat)(x:List Nat):Nat->List Nat:=fun d=>if d=c then x else W d
theorem lL(W:Nat->List Nat)(c:Nat)(x:List Nat):jC W c x c=x:=bf rfl
theorem kF(W:Nat->List Nat){c d:Nat}(x:List Nat)(h:d≠c):jC W c x d=W d:=bg h
def others(l:List (List Nat))(r c:Nat):List Nat:=(l.getD r []).filter fun d=> !(d == c)
def df(l:List (List Nat))(z:Nat->List Nat)(W:Nat->List Nat):List (Nat×Nat)->Nat->List Nat
 | []=>W
 | (r,c) :: St=>df l z (jC W c (bP W (others l r c) (z r))) St
theorem zS(l:List (List Nat))(z:Nat->List Nat):∀(A B:List (Nat×Nat)) (W:Nat->List Nat),df l z W (A++B)=df l z (df l z W A) B:=by
 intro A
 induction A with
 | nil=>intro B W;rfl
 | cons s A ih=>intro B W;obtain⟨r,c⟩:=s;exact ih B _
theorem kZ(l:List (List Nat))(z:Nat->List Nat)(A:List (Nat×Nat))(r c:Nat)(W:Nat->List Nat):df l z W (A++[(r,c)])=jC (df l z W A) c (bP (df l z W A) (others l r c) (z r)):=by rw[zS];rfl
def comes(D:Nat)(v:Nat->Nat->Nat)(w:List Nat)(j:Nat):Nat:=dO (vO w) (fun i=>v i j) D
theorem zT{D:Nat}{v:Nat->Nat->Nat}{a b:List Nat}(hv:∀i j,v i j<256)(h:a.length=b.length)(ha:∀x∈a,x<256)(hb:∀x∈b,x<256)(j:Nat):comes D v (xr a b) j=comes D v a j ^^^ comes D v b j:=by
 unfold comes;rw[<-sU (iq ha) (iq hb) fun i=>hv i j];congr 1;funext i;exact mb h i
theorem jT(D:Nat)(v:Nat->Nat->Nat)(k j:Nat):comes D v (replicate k 0) j=0:=by
 unfold comes
 have e:vO (replicate k 0)=fun _=>0:=by
  funext i;show(replicate k 0).getD i 0=0;rw[af,List.getElem?_replicate];split <;> rfl
 rw[e];generalize (fun i=>v i j)=u
 induction D with
 | zero=>rfl
 | succ n ih=>show dO _ u n ^^^ fm 0 (u n)=0;rw[ih,dh];rfl
def Byt(D:Nat)(w:List Nat):Prop:=w.length=D/\∀x∈w,x<256
theorem Byt.xr{D:Nat}{a b:List Nat}(ha:Byt D a)(hb:Byt D b):Byt D (Go.Proofs.YtgccllbnfngpcaaGreatDoor.xr a b):=⟨by rw[jQ (by rw[ha.1,hb.1])];exact ha.1,xr_lt ha.2 hb.2⟩
theorem Byt.zero(D:Nat):Byt D (replicate D 0):=⟨aI,fun x hx=>by rw[eq_of_mem_replicate hx];decide⟩
theorem dF{D:Nat}{W:Nat->List Nat}:∀ {cols:List Nat} {z:List Nat},Byt D z->(∀c∈cols,Byt D (W c))->Byt D (bP W cols z):=by
 intro cols
 induction cols with
 | nil=>intro z h _;exact h
 | cons c cols ih=>intro z h hw;exact ih (h.xr (hw c (by simp))) fun d hd=>hw d (by simp[hd])
theorem oN{D:Nat}{v:Nat->Nat->Nat}(hv:∀i j,v i j<256)(j:Nat){W:Nat->List Nat}:∀ {cols:List Nat} {z:List Nat},Byt D z->(∀c∈cols,Byt D (W c))->
 comes D v (bP W cols z) j=comes D v z j ^^^ sX (fun c j=>comes D v (W c) j) j cols:=by
 intro cols
 induction cols with
 | nil=>intro z _ _;exact(Nat.xor_zero _).symm
 | cons c cols ih=>
   intro z h hw;have hc:=hw c (by simp);show comes D v (bP W cols (Go.Proofs.YtgccllbnfngpcaaGreatDoor.xr z (W c))) j=_;rw[ih (h.xr hc) fun d hd=>hw d (by simp[hd]),zT hv (by rw[h.1,hc.1]) h.2 hc.2,Nat.xor_assoc];rfl
theorem LV{D Z:Nat}{l:List (List Nat)}{St:List (Nat×Nat)}{De:List Nat}
 (P:∀(k r c:Nat),St[k]? =some (r,c)->r<l.length/\c∈l.getD r []/\∀d∈l.getD r [],d≠c->d∈De\/∃k' r',k'<k/\St[k']? =some (r',d))(hl:∀r,(l.getD r []).Nodup){W0 M0:Nat->List Nat}{z:Nat->List Nat}
 (m v:Nat->Nat->Nat)(hv:∀i j,v i j<256)(hz:∀r,r<l.length->Byt Z (z r))(hrow:∀r j,r<l.length->sX m j (l.getD r [])=(z r).getD j 0)
 (h0:∀c∈De,Byt D (W0 c)/\Byt Z (M0 c)/\∀j,m c j=comes D v (W0 c) j ^^^ (M0 c).getD j 0):
 ∀k,k<=St.length->∀c,c∈De\/c∈(St.take k).map Prod.snd->
  Byt D (df l (fun _=>replicate D 0) W0 (St.take k) c)/\Byt Z (df l z M0 (St.take k) c)/\∀j,m c j=comes D v (df l (fun _=>replicate D 0) W0 (St.take k) c) j ^^^ (df l z M0 (St.take k) c).getD j 0:=by
 intro k
 induction k with
 | zero=>
   intro _ c hc;rcases hc with hc | hc
   ·exact h0 c hc
   ·simp at hc
 | succ k ih=>
   intro hk c hc;have hkl:k<St.length:=(by omega);obtain⟨r,d,hrd⟩:∃r d,St[k]=(r,d):=⟨_,_,rfl⟩;have hs:St[k]? =some (r,d):=(by rw[ag hkl,hrd]);have htk:St.take (k+1)=St.take k++[(r,d)]:=(by rw[aN hkl,hrd]);obtain⟨p1,p2,p3⟩:=P k r d hs;have ih:=ih (by omega)
   have hot:∀e∈others l r d,e∈De\/e∈(St.take k).map Prod.snd:=fun e he=>by
    obtain⟨h1,h2⟩:=mem_filter.1 he;have hne:e≠d:=(by simpa using h2);rcases p3 e h1 hne with h | ⟨k',r',h3,h4⟩
    ·exact .inl h
    ·right
     refine aW.2 ⟨(r',e),?_,rfl⟩;refine mem_of_getElem? (i:=k') ?_;rw[List.getElem?_take,bf h3];exact h4
   rw[htk,kZ,kZ];by_cases hcd:c=d
   ·subst hcd
    rw[lL,lL];have b1:∀e∈others l r c,Byt D (df l (fun _=>replicate D 0) W0 (St.take k) e):=fun e he=>(ih e (hot e he)).1;have b2:∀e∈others l r c,Byt Z (df l z M0 (St.take k) e):=fun e he=>(ih e (hot e he)).2.1;refine⟨dF (Byt.zero D) b1,dF (hz r p1) b2,fun j=> ?_⟩;rw[oN hv j (Byt.zero D) b1,jT,Nat.zero_xor,jo j (hz r p1).1 fun e he=>(b2 e he).1];have e1:=hrow r j p1;rw[IV p2 (hl r)] at e1
    have e2:sX m j (others l r c)=sX (fun c j=>comes D v (df l (fun _=>replicate D 0) W0 (St.take k) c) j) j (others l r c) ^^^ sX (fun c j=>(df l z M0 (St.take k) c).getD j 0) j (others l r c):=by
     have:∀(L:List Nat),(∀e∈L,m e j=comes D v (df l (fun _=>replicate D 0) W0 (St.take k) e) j ^^^ (df l z M0 (St.take k) e).getD j 0)->
      sX m j L=sX (fun c j=>comes D v (df l (fun _=>replicate D 0) W0 (St.take k) c) j) j L ^^^ sX (fun c j=>(df l z M0 (St.take k) c).getD j 0) j L:=by
      intro L
      induction L with
      | nil=>intro _;simp[sX]
      | cons e L ihL=>
        intro he;show m e j ^^^ sX m j L=(_ ^^^ _) ^^^ (_ ^^^ _);rw[he e (by simp),ihL fun f hf=>he f (by simp[hf])]
        dsimp only
        generalize comes D v (df l (fun _=>replicate D 0) W0 (St.take k) e) j=A;generalize (df l z M0 (St.take k) e).getD j 0=B;generalize sX (fun c j=>comes D v (df l (fun _=>replicate D 0) W0 (St.take k) c) j) j L=A';generalize sX (fun c j=>(df l z M0 (St.take k) c).getD j 0) j L=B'
        ac_rfl
     exact this _ fun e he=>(ih e (hot e he)).2.2 j
    have e3:m c j=(z r).getD j 0 ^^^ sX m j (others l r c):=by
     rw[<-e1];show m c j=(m c j ^^^ sX m j (others l r c)) ^^^ sX m j (others l r c);rw[Nat.xor_assoc,Nat.xor_self,Nat.xor_zero]
    rw[e3,e2];generalize sX (fun c j=>comes D v (df l (fun _=>replicate D 0) W0 (St.take k) c) j) j (others l r c)=A;generalize sX (fun c j=>(df l z M0 (St.take k) c).getD j 0) j (others l r c)=B
    ac_rfl
   ·rw[kF _ _ hcd,kF _ _ hcd]
    refine ih c ?_;rcases hc with hc | hc
    ·exact .inl hc
    ·right
     rw[htk,aQ] at hc;rcases bz.1 hc with hc | hc
     ·exact hc
     ·exact absurd (by simpa using hc) hcd
theorem Ek{p q v:Nat->Nat}:∀ {n:Nat},(∀c,c<n->fm (p c) (v c)=fm (q c) (v c))->dO p v n=dO q v n:=by
 intro n
 induction n with
 | zero=>intro _;rfl
 | succ n ih=>intro h;show dO p v n ^^^ fm (p n) (v n)=dO q v n ^^^ fm (q n) (v n);rw[ih fun c hc=>h c (by omega),h n (by omega)]
theorem I2{ls:List Nat}{n:Nat}(hl:ls.length<n):∃f,f<n/\f∉ls:=by
 apply Classical.byContradiction;intro h;have hs:∀f,f∈range n->f∈ls:=fun f hf=>Classical.byContradiction fun hn=>h ⟨f,bA.1 hf,hn⟩;have:=(nodup_range (n:=n)).length_le_of_subset hs;rw[aY] at this;omega
theorem kernel{n:Nat}{A:List (List Nat)}(hA:Wf n A)(hr:(dE A).length<n):∃p:Nat->Nat,Vb p/\(∃f,f<n/\p f=1)/\∀r∈A,dO p (vO r) n=0:=by
 obtain⟨ls,hR,hS⟩:=fJ hA;have hlen:(dE A).length=ls.length:=by have:=hR.red.len;rwa [aC] at this
 obtain⟨f,hf,hfl⟩:=I2 (ls:=ls) (n:=n) (by omega);generalize dE A=R at*;have hnd:ls.Nodup:=hR.red.up.imp fun h=>Nat.ne_of_lt h
 have hb:∀i,(R.getD i []).getD f 0<256:=fun i=>by
  rcases bq i R.length with h | h
  ·exact getD_lt (hR.wf.get h).2 f
  ·have e:R.getD i []=[]:=by rw[af,List.getElem?_eq_none h];rfl
   rw[e];show(0:Nat)<256;decide
 obtain⟨q,hq⟩:∃q:Nat->Nat,q=fun c=>if c∈ls then (R.getD (ls.idxOf c) []).getD f 0 else 0:=⟨_,rfl⟩;have hqb:Vb q:=fun c=>by rw[hq];show(if c∈ls then _ else 0)<256;split;exact hb _;decide
 have hqf:q f=0:=by rw[hq];exact bg hfl
 refine⟨fun c=>(if c=f then 1 else 0) ^^^ q c,fun c=> ?_,⟨f,hf,?_⟩,fun r hrA=> ?_⟩
 ·exact Nat.xor_lt_two_pow (n:=8) (by split <;> decide) (hqb c)
 ·show(if f=f then 1 else 0) ^^^ q f=1
  rw[bf rfl,hqf];rfl
 ·have hrow:∀v∈R.map vO,dO (fun c=>(if c=f then 1 else 0) ^^^ q c) v n=0:=by
   intro v hv;obtain⟨i,hi,rfl⟩:=bC hv;rw[aC] at hi;have hil:i<ls.length:=(by omega);have hvb:Vb (R.map vO)[i]:=hR.red.byt _ (aP _);rw[sU (tC f) hqb hvb,kw _ hvb,bf hf];have hvi:(R.map vO)[i]=vO (R.getD i []):=(by rw[getElem_map,af,ag hi];rfl);have hsome:(R.map vO)[i]? =some (R.map vO)[i]:=ag _;have hls:ls[i]? =some ls[i]:=ag hil;have hx:=hb i
   have e:dO q (R.map vO)[i] n=dO (fun c=>fm ((R.getD i []).getD f 0) (if c=ls[i] then 1 else 0)) (R.map vO)[i] n:=by
    refine Ek fun c hc=> ?_;by_cases hcl:c=ls[i]
    ·subst hcl
     rw[bf rfl,ko _ hx];congr 1;rw[hq];show(if ls[i]∈ls then _ else 0)=_;rw[bf (aP _),hnd.idxOf_getElem]
    ·rw[bg hcl,bK,dh]
     by_cases hcm:c∈ls
     ·obtain⟨k,hk,rfl⟩:=bC hcm
      have hki:i≠k:=fun e=>hcl (by subst e;rfl);have:=hR.red.zero k i (R.map vO)[i] ls[k] hsome (ag hk) hki;rw[this,bK]
     ·have:q c=0:=by rw[hq];exact bg hcm
      rw[this,dh]
   rw[e,yD hx (tC _) hvb,kw _ hvb,bf (hR.lt _ (aP _)),hR.red.one i _ _ hsome hls,ko _ hx,hvi];exact Nat.xor_self _
  have hvb2:∀v∈R.map vO,Vb v:=hR.red.byt;exact yC hvb2 (fun c=>Nat.xor_lt_two_pow (n:=8) (by split <;> decide) (hqb c)) hrow ((hS _).1 (Spn.mem hA.vb (mem_map_of_mem hrA)))
theorem zK{n:Nat}{A:List (List Nat)}(hA:Wf n A)(hr:(dE A).length=n){p:Nat->Nat}(hp:Vb p)(h:∀r∈A,dO p (vO r) n=0):∀k,k<n->p k=0:=by
 intro k hk;have hU:=nK n n;have hwhole:=uu hA (DK hA hU) (fun v hv=>hv.sub fun r hr=>by rw[aQ];exact mem_append_left _ hr) (by rw[DR hA,hr];exact ah _)
 have hmem:dS n k∈A++ku n n:=by
  refine mem_append_right _ ?_;have:=pu n n hk;rw[<-this];have hl:k<(ku n n).length:=(by rw[lW];exact hk);rw[af,ag hl];exact aP hl
 have hs:=(hwhole (vO (dS n k))).2 (Spn.mem (DK hA hU).vb (mem_map_of_mem hmem))
 have h0:=yC hA.vb hp (fun v hv=>by
  obtain⟨r,hr,rfl⟩:=aW.1 hv;exact h r hr) hs
 have hcm:dO p (vO (dS n k)) n=dO (fun c=>if c=k then 1 else 0) p n:=by
  have:∀m,m<=n->dO p (vO (dS n k)) m=dO (fun c=>if c=k then 1 else 0) p m:=by
   intro m
   induction m with
   | zero=>intro _;rfl
   | succ m ih=>
     intro hm;show dO p _ m ^^^ fm (p m) ((dS n k).getD m 0)=dO _ p m ^^^ fm (if m=k then 1 else 0) (p m);rw[ih (by omega),mF,iR];congr 2;by_cases hmk:m=k
     ·rw[bf hmk,bf ⟨hmk,hk⟩]
     ·rw[bg hmk,bg fun h=>hmk h.1]
  exact this n (ah _)
 rw[hcm,kw _ hp,bf hk] at h0;exact h0
structure zF (n:Nat) (known:Nat->Bool) (l:List (List Nat)) (St:List (Nat×Nat)) (De Le:List Nat):Prop where
 step:∀(k r c:Nat),St[k]? =some (r,c)->r<l.length/\c∈l.getD r []/\∀d∈l.getD r [],d≠c->d∈De\/∃k' r',k'<k/\St[k']? =some (r',d)
 cols:(St.map Prod.snd++De).Nodup
 all:∀c,c<n->(known c=false↔c∈St.map Prod.snd\/c∈De)
 bd:∀c,c∈St.map Prod.snd\/c∈De->c<n
 left:∀i,i∈Le↔i<l.length/\i∉St.map Prod.fst
theorem qP(l:List (List Nat))(z:Nat->List Nat):∀(St:List (Nat×Nat)) (W:Nat->List Nat) (c:Nat),c∉St.map Prod.snd->df l z W St c=W c:=by
 intro St
 induction St with
 | nil=>intro W c _;rfl
 | cons s St ih=>
   intro W c hc;obtain⟨r,d⟩:=s;have h1:c≠d:=fun e=>hc (by simp[e]);have h2:c∉St.map Prod.snd:=fun h=>hc (by simp[aW] at h ⊢;exact .inr h);show df l z (jC W d _) St c=W c;rw[ih _ c h2,kF _ _ h1]
theorem tK{m m':Nat->List Nat}:∀ {cols:List Nat} {z:List Nat},(∀c∈cols,m c=m' c)->bP m cols z=bP m' cols z:=by
 intro cols
 induction cols with
 | nil=>intro z _;rfl
 | cons c cols ih=>intro z h;show bP m cols (xr z (m c))=bP m' cols (xr z (m' c));rw[h c (by simp)];exact ih fun d hd=>h d (by simp[hd])
theorem LK{n:Nat}{known:Nat->Bool}{l:List (List Nat)}{St:List (Nat×Nat)}{De Le:List Nat}(P:zF n known l St De Le)(z:Nat->List Nat)(W0:Nat->List Nat){k r c:Nat}(hs:St[k]? =some (r,c)):
 df l z W0 St c=bP (df l z W0 St) (others l r c) (z r):=by
 obtain⟨hk,e⟩:=List.getElem?_eq_some_iff.1 hs;have hsp:St=St.take k++(r,c) :: St.drop (k+1):=by rw[<-e,getElem_cons_drop,take_append_drop]
 have hnd:(St.map Prod.snd).Nodup:=(nodup_append.1 P.cols).1;have hnd2:=hnd;rw[hsp,aQ,map_cons] at hnd2;obtain⟨n1,n2,n3⟩:=nodup_append.1 hnd2;obtain⟨n4,n5⟩:=nodup_cons.1 n2
 have hW:∀d,df l z W0 St d=df l z (jC (df l z W0 (St.take k)) c (bP (df l z W0 (St.take k)) (others l r c) (z r))) (St.drop (k+1)) d:=fun d=>by
  conv=>lhs;rw[hsp]
  rw[zS];rfl
 rw[hW c,qP _ _ _ _ _ n4,lL];refine tK fun d hd=> ?_;obtain⟨h1,h2⟩:=mem_filter.1 hd;have hne:d≠c:=by simpa using h2
 rw[hW d];have hkeep:d∉(St.drop (k+1)).map Prod.snd:= ?_
 ·rw[qP _ _ (St.drop (k+1)) _ d hkeep,kF _ _ hne]
 intro hdm;rcases(P.step k r c hs).2.2 d h1 hne with h | ⟨k',r',h3,h4⟩
 ·have hdS:d∈St.map Prod.snd:=by rw[hsp,aQ,map_cons];exact mem_append_right _ (mem_cons_of_mem _ hdm)
  exact(nodup_append.1 P.cols).2.2 d hdS d h rfl
 ·have:d∈(St.take k).map Prod.snd:=aW.2 ⟨(r',d),mem_of_getElem? (i:=k') (by rw[List.getElem?_take,bf h3];exact h4),rfl⟩
  exact n3 d this d (mem_cons_of_mem _ hdm) rfl
theorem Fw{n D:Nat}{known:Nat->Bool}{l:List (List Nat)}{St:List (Nat×Nat)}{De Le:List Nat}(P:zF n known l St De Le)(hl:∀r,(l.getD r []).Nodup)(hlk:∀r,∀c∈l.getD r [],c<n/\known c=false)
 {W0:Nat->List Nat}(hW:∀c,c<n->known c=false->Byt D (df l (fun _=>replicate D 0) W0 St c)){p:Nat->Nat}(hp:Vb p)
 (hleft:∀r∈Le,dO p (vO (bP (df l (fun _=>replicate D 0) W0 St) (l.getD r []) (replicate D 0))) D=0):
 ∀r,r<l.length->sX (fun c _=>dO p (vO (df l (fun _=>replicate D 0) W0 St c)) D) 0 (l.getD r [])=0:=by
 have flip:∀(w:List Nat),Byt D w->dO p (vO w) D=comes D (fun i _=>p i) w 0:=fun w hw=>by
  unfold comes
  have:∀m,dO p (vO w) m=dO (vO w) (fun i=>p i) m:=by
   intro m
   induction m with
   | zero=>rfl
   | succ m ih=>show dO p (vO w) m ^^^ fm (p m) (vO w m)=dO (vO w) _ m ^^^ fm (vO w m) (p m);rw[ih,iR]
  exact this D
 have hv:∀i j:Nat,(fun i (_:Nat)=>p i) i j<256:=fun i j=>hp i
 have hs:∀cols:List Nat,(∀c∈cols,c<n/\known c=false)->dO p (vO (bP (df l (fun _=>replicate D 0) W0 St) cols (replicate D 0))) D=sX (fun c _=>dO p (vO (df l (fun _=>replicate D 0) W0 St c)) D) 0 cols:=fun cols hc=>by
  have hb:∀c∈cols,Byt D (df l (fun _=>replicate D 0) W0 St c):=fun c h=>hW c (hc c h).1 (hc c h).2;rw[flip _ (dF (Byt.zero D) hb),oN hv 0 (Byt.zero D) hb,jT,Nat.zero_xor];exact mf fun c h=>(flip _ (hb c h)).symm
 intro r hr;by_cases hm:r∈St.map Prod.fst
 ·obtain⟨⟨r',c⟩,hm2,rfl⟩:=aW.1 hm
  obtain⟨k,hk⟩:=List.getElem?_of_mem hm2;have e:=LK P (fun _=>replicate D 0) W0 hk;obtain⟨_,p2,_⟩:=P.step k r' c hk;show sX _ 0 (l.getD r' [])=0;rw[IV p2 (hl r')];have ho:∀d∈others l r' c,d<n/\known d=false:=fun d hd=>hlk r' d (mem_filter.1 hd).1;have h1:=hs (others l r' c) ho;rw[<-e] at h1;show dO p (vO (df l (fun _=>replicate D 0) W0 St c)) D ^^^ sX _ 0 (others l r' c)=0;rw[h1,Nat.xor_self]
 ·have hL:r∈Le:=(P.left r).2 ⟨hr,hm⟩
  rw[<-hs _ (hlk r)];exact hleft r hL
theorem fZ(p q:Nat->Nat)(n:Nat):dO p q n=dO q p n:=by
 induction n with
 | zero=>rfl
 | succ n ih=>show dO p q n ^^^ fm (p n) (q n)=dO q p n ^^^ fm (q n) (p n);rw[ih,iR]
def dH(W:Nat->List Nat)(row z:List Nat):Nat->List Nat | 0=>z | k+1=>xr (dH W row z k) (jS (row.getD k 0) (W k))
theorem sV{D:Nat}{w:List Nat}(c:Nat)(h:w.length=D):Byt D (jS c w):=by
 refine⟨by rw[lV];exact h,fun x hx=> ?_⟩;unfold jS at hx;obtain⟨y,_,rfl⟩:=aW.1 hx;exact gQ _ _
theorem fH{D:Nat}{W:Nat->List Nat}{row z:List Nat}(hz:Byt D z):∀k,(∀c,c<k->(W c).length=D)->Byt D (dH W row z k):=by
 intro k
 induction k with
 | zero=>intro _;exact hz
 | succ k ih=>intro h;exact(ih fun c hc=>h c (by omega)).xr (sV _ (h k (by omega)))
theorem OL{D:Nat}{p:Nat->Nat}(hp:Vb p){a b:List Nat}(ha:Byt D a)(hb:Byt D b):dO p (vO (xr a b)) D=dO p (vO a) D ^^^ dO p (vO b) D:=by
 rw[fZ,fZ p (vO a),fZ p (vO b),<-sU (iq ha.2) (iq hb.2) hp];congr 1;funext i;exact mb (by rw[ha.1,hb.1]) i
theorem Mi{D:Nat}{p:Nat->Nat}(hp:Vb p){c:Nat}(hc:c<256){w:List Nat}(hw:Byt D w):dO p (vO (jS c w)) D=fm c (dO p (vO w) D):=by
 rw[fZ,fZ p (vO w),<-yD hc (iq hw.2) hp];congr 1;funext i;exact jk c w i
theorem xp(p:Nat->Nat)(D k:Nat):dO p (vO (replicate k 0)) D=0:=by
 have e:vO (replicate k 0)=vz:=by
  funext i;show(replicate k 0).getD i 0=0;rw[af,List.getElem?_replicate];split <;> rfl
 rw[e,Ai]
theorem JQ{D:Nat}{W:Nat->List Nat}{p:Nat->Nat}(hp:Vb p){row:List Nat}(hr:∀x∈row,x<256):∀k,(∀c,c<k->Byt D (W c))->dO p (vO (dH W row (replicate D 0) k)) D=dO (vO row) (fun c=>dO p (vO (W c)) D) k:=by
 intro k
 induction k with
 | zero=>intro _;exact xp p D D
 | succ k ih=>
   intro h;have h1:Byt D (dH W row (replicate D 0) k):=fH (Byt.zero D) k fun c hc=>(h c (by omega)).1;show dO p (vO (xr (dH W row (replicate D 0) k) (jS (row.getD k 0) (W k)))) D=dO (vO row) _ k ^^^ fm (vO row k) (dO p (vO (W k)) D);rw[OL hp h1 (sV _ (h k (by omega)).1),ih fun c hc=>h c (by omega),Mi hp (c:=row.getD k 0) (iq hr k) (h k (by omega))];rfl
theorem uQ{n:Nat}{q:Nat->Nat}(hq:Vb q){row:List Nat}:∀ {cols:List Nat},cols.Nodup->(∀c∈cols,c<n)->(∀i,i<n->row.getD i 0=if i∈cols then 1 else 0)->dO q (vO row) n=sX (fun c _=>q c) 0 cols:=by
 intro cols hn hc hrow
 have e:dO q (vO row) n=dO (fun i=>if i∈cols then 1 else 0) q n:=by
  rw[fZ];refine Ek fun i hi=> ?_;show fm (row.getD i 0) (q i)=_;rw[hrow i hi]
 rw[e];clear e hrow
 induction cols with
 | nil=>
   have:∀m,dO (fun i=>if i∈([]:List Nat) then 1 else 0) q m=0:=fun m=>by
    induction m with
    | zero=>rfl
    | succ m ih=>show dO _ q m ^^^ fm (if m∈([]:List Nat) then 1 else 0) (q m)=0;rw[ih,bg (by simp),dh];rfl
   exact this n
 | cons c cols ih=>
   obtain⟨h1,h2⟩:=nodup_cons.1 hn
   have e2:(fun i=>if i∈c :: cols then 1 else 0)=fun i=>(if i=c then 1 else 0) ^^^ (if i∈cols then 1 else 0):=by
    funext i;by_cases hi:i=c
    ·subst hi;rw[bf mem_cons_self,bf rfl,bg h1];rfl
    ·rw[bg hi]
     by_cases hm:i∈cols
     ·rw[bf (mem_cons_of_mem _ hm),bf hm];rfl
     ·rw[bg (fun h=>(mem_cons.1 h).elim hi hm),bg hm];rfl
   rw[e2,sU (tC c) (fun i=>by show(if i∈cols then 1 else 0)<256;split <;> decide) hq,kw q hq,bf (hc c (by simp)),ih h2 fun d hd=>hc d (by simp[hd])];rfl
theorem Cw{n D:Nat}{known:Nat->Bool}{l:List (List Nat)}{St:List (Nat×Nat)}{De Le:List Nat}(P:zF n known l St De Le)(hD:De.length=D)(hl:∀r,(l.getD r []).Nodup)(hlk:∀r,∀c∈l.getD r [],c<n/\known c=false)
 {W0 W:Nat->List Nat}(hW0:∀i,i<D->W0 (De.getD i 0)=dS D i)(hW:∀c,c<n->W c=if known c then replicate D 0 else df l (fun _=>replicate D 0) W0 St c)(hWb:∀c,c<n->Byt D (W c))
 {PR:List (List Nat)}(hPR:Wf n PR){E:List (List Nat)}{F:List (List Nat)}(hE:∀cols∈E,cols.Nodup/\(∀c∈cols,c<n)/\(cols.filter (fun c=> !known c)=[]\/∃r,r<l.length/\l.getD r []=cols.filter fun c=> !known c))
 (hF:Wf n F)(hrF:∀r∈F,r∈PR\/∃cols∈E,∀i,i<n->r.getD i 0=if i∈cols then 1 else 0)(hfull:(dE F).length=n):
 (dE (Le.map (fun r=>bP W (l.getD r []) (replicate D 0))++PR.map fun row=>dH W row (replicate D 0) n)).length=D:=by
 have hWu:∀c,c<n->known c=false->W c=df l (fun _=>replicate D 0) W0 St c:=fun c h1 h2=>by rw[hW c h1,h2];rfl
 have hA:Wf D (Le.map (fun r=>bP W (l.getD r []) (replicate D 0))++PR.map fun row=>dH W row (replicate D 0) n):=by
  intro r hr;rcases bz.1 hr with hr | hr
  ·obtain⟨i,_,rfl⟩:=aW.1 hr
   exact dF (Byt.zero D) fun c hc=>hWb c (hlk i c hc).1
  ·obtain⟨row,_,rfl⟩:=aW.1 hr
   exact fH (Byt.zero D) n fun c hc=>(hWb c hc).1
 have hle:=(mi hA).2;have hle1:=(mi hA).1;rcases bq (dE (Le.map (fun r=>bP W (l.getD r []) (replicate D 0))++PR.map fun row=>dH W row (replicate D 0) n)).length D with hlt | hge
 ·exfalso
  obtain⟨p,hp,⟨f,hf,hpf⟩,hk⟩:=kernel hA hlt;have hq:Vb fun c=>dO p (vO (W c)) D:=fun c=>yB _ _ _
  have hkill:=Fw P hl hlk (W0:=W0) (D:=D) (fun c h1 h2=>by rw[<-hWu c h1 h2];exact hWb c h1) hp (fun r hr=>by
   have:=hk (bP W (l.getD r []) (replicate D 0)) (mem_append_left _ (mem_map_of_mem hr))
   rwa [tK fun c hc=>hWu c (hlk r c hc).1 (hlk r c hc).2] at this)
  have hall:=zK hF hfull hq fun r hr=>by
   rcases hrF r hr with h | ⟨cols,hc,hrow⟩
   ·have h1:=hk (dH W r (replicate D 0) n) (mem_append_right _ (mem_map_of_mem h))
    rw[JQ hp (hPR r h).2 n hWb] at h1;rw[fZ];exact h1
   ·obtain⟨h1,h2,h3⟩:=hE cols hc
    rw[uQ hq h1 h2 hrow,qQ _ 0 known cols]
    have z1:sX (fun c (_:Nat)=>dO p (vO (W c)) D) 0 (cols.filter known)=0:=by
     have:∀L:List Nat,(∀c∈L,c<n/\known c=true)->sX (fun c (_:Nat)=>dO p (vO (W c)) D) 0 L=0:=by
      intro L
      induction L with
      | nil=>intro _;rfl
      | cons c L ih=>
        intro h;obtain⟨g1,g2⟩:=h c (by simp);show dO p (vO (W c)) D ^^^ sX _ 0 L=0;rw[ih fun d hd=>h d (by simp[hd]),hW c g1,g2];show dO p (vO (replicate D 0)) D ^^^ 0=0;rw[xp];rfl
     exact this _ fun c hc=>⟨h2 c (mem_filter.1 hc).1,(mem_filter.1 hc).2⟩
    have z2:sX (fun c (_:Nat)=>dO p (vO (W c)) D) 0 (cols.filter fun c=> !known c)=0:=by
     rcases h3 with h3 | ⟨r',h4,h5⟩
     ·rw[h3];rfl
     ·rw[<-h5]
      refine Eq.trans (mf fun c hc=> ?_) (hkill r' h4);show dO p (vO (W c)) D=_;rw[hWu c (hlk r' c hc).1 (hlk r' c hc).2]
    rw[z1,z2];rfl
  have hDm:De.getD f 0∈De:=(by rw[af,ag (by omega)];exact aP _);have hDn:=P.bd _ (.inr hDm);have hDu:known (De.getD f 0)=false:=(P.all _ hDn).2 (.inr hDm);have hnot:De.getD f 0∉St.map Prod.snd:=fun h=>(nodup_append.1 P.cols).2.2 _ h _ hDm rfl;have h0:=hall (De.getD f 0) hDn
  have h1:dO p (vO (W (De.getD f 0))) D=p f:=by
   rw[hWu _ hDn hDu,qP _ _ _ _ _ hnot,hW0 f hf];rw[uQ hp (cols:=[f]) (by simp) (by simp;exact hf) (fun i hi=>by rw[mF];by_cases h:i=f <;> simp[h,hf])];show p f ^^^ 0=p f;exact Nat.xor_zero _
  have h2:p f=0:=(by rw[<-h1];exact h0);rw[hpf] at h2;cases h2
 ·omega
theorem GN(X:List (List Nat))(w:Nat->Nat)(j:Nat):∀D,tmp X w D j=dO w (fun i=>(X.getD i []).getD j 0) D:=by
 intro D
 induction D with
 | zero=>rfl
 | succ D ih=>show tmp X w D j ^^^ fm (w D) ((X.getD D []).getD j 0)=_;rw[ih];rfl
theorem o6{D Z:Nat}{X:List (List Nat)}(hX:Wf Z X)(hl:X.length=D)(w:List Nat):(oV Z w X D).length=Z/\∀j,(oV Z w X D).getD j 0=comes D (fun i j=>(X.getD i []).getD j 0) w j:=by
 obtain⟨h1,h2,h3⟩:=yK (w:=Z) (r:=w) hX D (by omega);refine⟨h1,fun j=> ?_⟩;have e:=congrFun h3 j;rw[GN] at e;exact e
theorem GQ{D:Nat}{v:Nat->Nat->Nat}(hv:∀i j,v i j<256){c:Nat}(hc:c<256){w:List Nat}(hw:Byt D w)(j:Nat):comes D v (jS c w) j=fm c (comes D v w j):=by
 unfold comes;rw[<-yD hc (iq hw.2) fun i=>hv i j];congr 1;funext i;exact jk c w i
theorem Dq{D:Nat}{v:Nat->Nat->Nat}(hv:∀i j,v i j<256){W:Nat->List Nat}{row:List Nat}(hr:∀x∈row,x<256)(j:Nat):∀k,(∀c,c<k->Byt D (W c))->comes D v (dH W row (replicate D 0) k) j=dO (vO row) (fun c=>comes D v (W c) j) k:=by
 intro k
 induction k with
 | zero=>intro _;exact jT D v D j
 | succ k ih=>
   intro h;have h1:Byt D (dH W row (replicate D 0) k):=fH (Byt.zero D) k fun c hc=>(h c (by omega)).1;have h2:=sV (row.getD k 0) (h k (by omega)).1;show comes D v (xr (dH W row (replicate D 0) k) (jS (row.getD k 0) (W k))) j=dO (vO row) _ k ^^^ fm (vO row k) (comes D v (W k) j);rw[zT hv (by rw[h1.1,h2.1]) h1.2 h2.2,ih fun c hc=>h c (by omega),GQ hv (c:=row.getD k 0) (iq hr k) (h k (by omega))];rfl
theorem AV{Z:Nat}{M:Nat->List Nat}{row:List Nat}(hr:∀x∈row,x<256)(j:Nat):∀k,(∀c,c<k->(M c).length=Z)->(dH M row (replicate Z 0) k).getD j 0=dO (vO row) (fun c=>(M c).getD j 0) k:=by
 intro k
 induction k with
 | zero=>intro _;show(replicate Z 0).getD j 0=0;rw[af,List.getElem?_replicate];split <;> rfl
 | succ k ih=>
   intro h;have h1:=(fH (D:=Z) (W:=M) (row:=row) (Byt.zero Z) k fun c hc=>h c (by omega)).1;have h2:=(sV (row.getD k 0) (h k (by omega))).1;show(xr (dH M row (replicate Z 0) k) (jS (row.getD k 0) (M k))).getD j 0=_;rw[mb (by rw[h1,h2]),ih fun c hc=>h c (by omega),jk];rfl
theorem Dr{n D Z:Nat}{l:List (List Nat)}{Le:List Nat}{W M:Nat->List Nat}{X:List (List Nat)}{z:Nat->List Nat}{PR:List (List Nat)}(m:Nat->Nat->Nat)
 (hX:Wf Z X)(hXl:X.length=D)(hX0:X≠[])(hWb:∀c,c<n->Byt D (W c))(hMb:∀c,c<n->Byt Z (M c))(hm:∀c,c<n->∀j,m c j=comes D (fun i j=>(X.getD i []).getD j 0) (W c) j ^^^ (M c).getD j 0)
 (hlk:∀r∈Le,∀c∈l.getD r [],c<n)(hz:∀r∈Le,Byt Z (z r))(hrow:∀r∈Le,∀j,sX m j (l.getD r [])=(z r).getD j 0)
 (hPR:Wf n PR)(hpre:∀row∈PR,∀j,dO (vO row) (fun c=>m c j) n=0):
 jD (Le.map (fun r=>bP W (l.getD r []) (replicate D 0))++PR.map fun row=>dH W row (replicate D 0) n) X=
  Le.map (fun r=>bP M (l.getD r []) (z r))++PR.map fun row=>dH M row (replicate Z 0) n:=by
 have hv:∀i j:Nat,(X.getD i []).getD j 0<256:=fun i j=>by
  rcases bq i X.length with h | h
  ·exact getD_lt (hX.get h).2 j
  ·have e:X.getD i []=[]:=by rw[af,List.getElem?_eq_none h];rfl
   rw[e];show(0:Nat)<256;decide
 have hwid:wid X=Z:=lK hX hX0;unfold jD;rw[aQ,map_map,map_map,hwid,hXl];congr 1
 ·refine map_congr_left fun r hr=> ?_
  show oV Z (bP W (l.getD r []) (replicate D 0)) X D=_;have hb1:∀c∈l.getD r [],Byt D (W c):=fun c hc=>hWb c (hlk r hr c hc);have hb2:∀c∈l.getD r [],(M c).length=Z:=fun c hc=>(hMb c (hlk r hr c hc)).1;obtain⟨h1,h2⟩:=o6 hX hXl (bP W (l.getD r []) (replicate D 0));refine jh (by rw[h1,eU (hz r hr).1 hb2]) fun j=> ?_;rw[h2,jo j (hz r hr).1 hb2,oN hv j (Byt.zero D) hb1,jT,Nat.zero_xor,<-hrow r hr j];have e:sX m j (l.getD r [])=sX (fun c j=>comes D (fun i j=>(X.getD i []).getD j 0) (W c) j ^^^ (M c).getD j 0) j (l.getD r []):=mf fun c hc=>hm c (hlk r hr c hc) j;rw[e];generalize l.getD r []=L
  induction L with
  | nil=>simp[sX]
  | cons c L ih=>
    show _ ^^^ _=(_ ^^^ _) ^^^ (_ ^^^ _);rw[ih]
    dsimp only
    generalize comes D (fun i j=>(X.getD i []).getD j 0) (W c) j=A;generalize (M c).getD j 0=B;generalize sX (fun c j=>comes D (fun i j=>(X.getD i []).getD j 0) (W c) j ^^^ (M c).getD j 0) j L=S;generalize sX (fun c j=>(M c).getD j 0) j L=T;have:(A ^^^ B) ^^^ S ^^^ (B ^^^ T)=A ^^^ (S ^^^ T) ^^^ (B ^^^ B):=(by ac_rfl);rw[this,Nat.xor_self,Nat.xor_zero]
 ·refine map_congr_left fun row hr=> ?_
  show oV Z (dH W row (replicate D 0) n) X D=_;have hrb:=(hPR row hr).2;obtain⟨h1,h2⟩:=o6 hX hXl (dH W row (replicate D 0) n);refine jh (by rw[h1];exact((fH (Byt.zero Z) n fun c hc=>(hMb c hc).1).1).symm) fun j=> ?_;rw[h2,Dq hv hrb j n hWb,AV hrb j n fun c hc=>(hMb c hc).1];have h0:=hpre row hr j
  have e:dO (vO row) (fun c=>m c j) n=dO (vO row) (fun c=>comes D (fun i j=>(X.getD i []).getD j 0) (W c) j) n ^^^ dO (vO row) (fun c=>(M c).getD j 0) n:=by
   rw[fZ,fZ (vO row) (fun c=>comes D _ (W c) j),fZ (vO row) (fun c=>(M c).getD j 0)]
   have:∀k,k<=n->dO (fun c=>m c j) (vO row) k=dO (fun c=>comes D (fun i j=>(X.getD i []).getD j 0) (W c) j) (vO row) k ^^^ dO (fun c=>(M c).getD j 0) (vO row) k:=by
    intro k
    induction k with
    | zero=>intro _;simp[dO]
    | succ k ih=>
      intro hk;have hcb:∀(w:List Nat),comes D (fun i j=>(X.getD i []).getD j 0) w j<256:=fun w=>yB _ _ _;show dO _ _ k ^^^ fm (m k j) (vO row k)=(dO _ _ k ^^^ fm _ (vO row k)) ^^^ (dO _ _ k ^^^ fm _ (vO row k));rw[ih (by omega),hm k (by omega) j,mJ (hcb (W k)) (getD_lt (hMb k (by omega)).2 j) (iq hrb k)]
      dsimp only
      ac_rfl
   exact this n (ah _)
  rw[h0] at e;generalize dO (vO row) (fun c=>comes D (fun i j=>(X.getD i []).getD j 0) (W c) j) n=A at*;generalize dO (vO row) (fun c=>(M c).getD j 0) n=B at*;have e2:=congrArg (·^^^ B) e;simp only[Nat.zero_xor,Nat.xor_assoc,Nat.xor_self,Nat.xor_zero] at e2;exact e2.symm
theorem MOwn.reput{w w1:World}{C g n c:Nat}{M:List (List Nat)}(h:MOwn w C (slice (some ⟨g,0,none⟩) n c) M){i:Nat}(hi:i<n){u u':Value}{l:List Nat}(hc:w.cell? ⟨g,i,none⟩=some u)(hg:w.grownBy w1 u.ownBlock)(ho:OwnB w1 C u' l)
 (hat:u'.ownBlock=u.ownBlock\/u'.ownBlock=some w.heap.size):MOwn (w1.setCell ⟨g,i,none⟩ u') C (slice (some ⟨g,0,none⟩) n c) (M.set i l):=by
 have hl:=h.len;obtain⟨vs,h⟩:=h;have hv:=h.vlen;have hd:=h.hd;rw[hl] at hd;have hui:vs[i]? =some u:=by rw[<-hd.cellAt i (by omega)];exact hc
 have hne:(Value.slice (some ⟨g,0,none⟩) n c).ownBlock=none\/(Value.slice (some ⟨g,0,none⟩) n c).ownBlock≠u.ownBlock:=by
  right;rcases h.hdrow hui with h1 | h1
  ·rw[h1];simp[Value.ownBlock]
  ·exact fun e=>h1 e.symm
 have hd1:=hd.kept hg hne;obtain⟨d1,g1⟩:=hd1.stored i u';have hlt0:∀(k:Nat) u',vs[k]? =some u'->∀b,u'.ownBlock=some b->b<w.heap.size:=fun k u' hu b hb=>((h.of hu).1.lt b hb).2;have hrow:∀(k:Nat) u,vs[k]? =some u->u.ownBlock=none\/u.ownBlock≠some g:=fun k u hu=>by have:=h.hdrow hu;simpa[Value.ownBlock] using this
 have hgw:u'.ownBlock=none\/u'.ownBlock≠some g:=by have:=own_ne ho hd1 uG;simpa[Value.ownBlock] using this
 have hap:∀(k:Nat) u2,k≠i->vs[k]? =some u2->(u'.ownBlock=none\/u'.ownBlock≠u2.ownBlock)/\(u2.ownBlock=none\/u2.ownBlock≠u'.ownBlock):=fun k u2 hk hu2=>by
  rcases hat with e | e
  ·rw[e];exact⟨h.apart i k u u2 (fun e=>hk e.symm) hui hu2,h.apart k i u2 u hk hu2 hui⟩
  ·have h1:u2.ownBlock≠some w.heap.size:=fun e2=>by have:=hlt0 k u2 hu2 _ e2;omega
   rw[e];exact⟨.inr (fun e2=>h1 e2.symm),.inr h1⟩
 refine⟨vs.set i u',by rw[length_set,hl];exact d1,fun k l' hk=> ?_,fun k k' u1 u2 hne hu1 hu2=> ?_⟩
 ·rcases iM hk with⟨rfl,rfl,h3⟩ | ⟨h1,h2⟩
  ·exact⟨u',Af (by omega),ho.kept g1 hgw⟩
  ·obtain⟨u1,h3,h4⟩:=h.row k l' h2
   exact⟨u1,by rw[Et h1];exact h3,(h4.kept hg (h.apart k i u1 u h1 h3 hui)).kept g1 (hrow k u1 h3)⟩
 ·rcases iM hu1 with⟨rfl,rfl,h3⟩ | ⟨h1,h2⟩
  ·rcases iM hu2 with⟨rfl,_,_⟩ | ⟨h1,h2⟩
   ·exact absurd rfl hne
   ·exact(hap k' u2 h1 h2).1
  ·rcases iM hu2 with⟨rfl,rfl,_⟩ | ⟨h3,h4⟩
   ·exact(hap k u1 h1 h2).2
   ·exact h.apart k k' u1 u2 hne h2 h4
theorem JN{α:Type}{X Y:List α}(h:X.length=Y.length){k:Nat}(hk:k<Y.length){x:α}(hx:X[k]? =some x):(X.take k++Y.drop k).set k x=X.take (k+1)++Y.drop (k+1):=by
 have hkX:k<X.length:=by omega
 rw[ag hkX] at hx;rw[set_append_right _ _ (by rw[aG];omega),aG,Nat.min_eq_left (by omega),Nat.sub_self,drop_eq_getElem_cons hk,set_cons_zero,aN hkX,append_assoc,singleton_append,Option.some.inj hx]
def ou(A B:List (List Nat))(r:Nat):List (List Nat):=(dC A B).take r++A.drop r
theorem Cv{A B:List (List Nat)}(h:A.length=B.length):ou A B A.length=dC A B:=by
 unfold ou;rw[drop_length,append_nil,aJ (by rw[eG h];exact ah _)]
theorem Gl{A B:List (List Nat)}(h:A.length=B.length){r:Nat}(hr:r<A.length):(ou A B r).getD r []=A.getD r []:=by
 unfold ou;rw[af,List.getElem?_append_right (by rw[aG,eG h];omega),aG,eG h,Nat.min_eq_left (by omega),Nat.sub_self,List.getElem?_drop,Nat.add_zero,af]
theorem Gn{A B:List (List Nat)}(h:A.length=B.length){r:Nat}(hr:r<A.length):(ou A B r).set r (A.getD r []++B.getD r [])=ou A B (r+1):=by
 unfold ou;refine JN (eG h) hr ?_;rw[<-jJ h r];exact getD_some (by rw[eG h];exact hr)
def jc(X:List (List Nat))(r:Nat):Bool:=(X.drop r).any fun x=>decide (0<=iW x)
def jV(n:Nat)(A B:List (List Nat)):Nat:=if (bV (dC A B) n).2<n then 9 else if jc (bV (dC A B) n).1 (bV (dC A B) n).2 then 10 else 0
def jW(n:Nat)(A B:List (List Nat)):List (List Nat):=if jV n A B=0 then ((bV (dC A B) n).1.take (bV (dC A B) n).2).map (List.drop n) else []
theorem Gp{X:List (List Nat)}{r t:Nat}(ht:t<(X.drop r).length)(h:0<=iW ((X.drop r).getD t [])):jc X r=true:=by
 unfold jc;rw[any_eq_true];exact⟨_,mS ht,ba h⟩
theorem Aj{X:List (List Nat)}{r:Nat}(h:∀t,t<(X.drop r).length->¬0<=iW ((X.drop r).getD t [])):jc X r=false:=by
 unfold jc;rw[any_eq_false];intro x hx;obtain⟨i,hi,rfl⟩:=bC hx;have:=h i hi;rw[af,ag hi] at this;simpa using this
theorem oK{X:List (List Nat)}{r:Nat}:jc X r=false↔∀i,r<=i->∀j,gt X i j=0:=by
 constructor
 ·intro h i hi j
  rcases bq i X.length with h1 | h1
  ·unfold jc at h
   rw[any_eq_false] at h
   have hm:X.getD i []∈X.drop r:=by
    have e:(X.drop r)[i-r]? =some (X.getD i []):=(by rw[List.getElem?_drop,show r+(i-r)=i by omega];exact getD_some h1);exact mem_of_getElem? e
   have h2:=h _ hm;simp only[decide_eq_true_eq] at h2;have h3:=xG.1 (show iW (X.getD i [])<0 by omega);exact congrFun h3 j
  ·exact um h1 j
 ·intro h
  refine Aj fun t ht=> ?_;rw[length_drop] at ht
  have e:(X.drop r).getD t []=X.getD (r+t) []:=by
   rw[af,List.getElem?_drop,<-af]
  rw[e];have:iW (X.getD (r+t) [])<0:=xG.2 (funext fun j=>h (r+t) (by omega) j);omega
theorem tT{n k:Nat}{A B:List (List Nat)}(hA:Wf n A)(hl:A.length=B.length)(h0:A≠[]):(bV (dC A B) n).2=(dE A).length:=by
 rw[(tO hl hA (ah n)).1,tP hA h0]
theorem FH{n k:Nat}{A X:List (List Nat)}(hA:Wf n A)(hX:Wf k X)(hl:X.length=n)(hx0:X≠[])(h0:A≠[])(hr:(dE A).length=n):jV n A (jD A X)=0/\jW n A (jD A X)=X:=by
 have hlm:A.length=(jD A X).length:=by unfold jD;rw[aC]
 have hrk:=tT (k:=0) hA hlm h0;have hrA:(bV A n).2=n:=by rw[<-tP hA h0];exact hr
 obtain⟨h1,h2⟩:=zJ hA hX hl hx0 hrA;rw[hr] at hrk
 have h3:jV n A (jD A X)=0:=by
  unfold jV;rw[hrk,bg (by omega),oK.2 h1];rfl
 exact⟨h3,by unfold jW;rw[h3,bf rfl,hrk];exact h2⟩
theorem I3{n k:Nat}{A C:List (List Nat)}(hA:Wf n A)(hC:Wf k C)(hl:A.length=C.length)(hn:0<n)(h0:A≠[])(hr:(dE A).length=n)(hs:jV n A C=0):jD A (jW n A C)=C/\Wf k (jW n A C)/\(jW n A C).length=n:=by
 have hrk:=tT (k:=0) hA hl h0;have hrA:(bV A n).2=n:=by rw[<-tP hA h0];exact hr
 rw[hr] at hrk
 have hz:jc (bV (dC A C) n).1 n=false:=by
  unfold jV at hs;rw[hrk,bg (by omega)] at hs;cases h:jc (bV (dC A C) n).1 n with
  | false=>rfl
  | true=>rw[h] at hs;simp at hs
 have:=BN hA hC hl hn hrA (oK.1 hz);unfold jW;rw[hs,bf rfl,hrk];exact this
theorem FI{n:Nat}{A C:List (List Nat)}(hA:Wf n A)(hl:A.length=C.length)(h0:A≠[])(hr:(dE A).length=n)(hs:jV n A C≠0):jV n A C=10/\A.length≠n:=by
 have hrk:=tT (k:=0) hA hl h0;rw[hr] at hrk;unfold jV at hs ⊢;rw[hrk,bg (by omega)] at hs ⊢;cases h:jc (bV (dC A C) n).1 n with
 | false=>rw[h] at hs;simp at hs
 | true=>
   refine⟨rfl,fun e=> ?_⟩;have h2:jc (bV (dC A C) n).1 n=false:=oK.2 fun i hi j=>um (by rw[iL,eG hl,e];exact hi) j;rw[h2] at h;cases h
theorem NH{n Z:Nat}{A C:List (List Nat)}(hA:Wf n A)(hC:Wf Z C)(hl:A.length=C.length)(hn:A.length=n)(h0:0<n)(hr:(dE A).length=n):
 jV n A C=0/\Wf Z (jW n A C)/\(jW n A C).length=n/\∀i,i<n->∀j,(C.getD i []).getD j 0=dO (vO (A.getD i [])) (fun c=>((jW n A C).getD c []).getD j 0) n:=by
 have hA0:A≠[]:=fun e=>by rw[e] at hn;simp at hn;omega
 have hs:jV n A C=0:=by
  apply Classical.byContradiction;intro h;exact(FI hA hl hA0 hr h).2 hn
 obtain⟨h1,h2,h3⟩:=I3 hA hC hl h0 hA0 hr hs;refine⟨hs,h2,h3,fun i hi j=> ?_⟩;have hX0:jW n A C≠[]:=fun e=>by rw[e] at h3;simp at h3;omega
 generalize jW n A C=X at*
 have e:(jD A X).getD i []=oV (wid X) (A.getD i []) X X.length:=by
  unfold jD;rw[af,List.getElem?_map,af,ag (by omega)];rfl
 rw[<-h1,e,lK h2 hX0,h3];have:=(o6 h2 h3 (A.getD i [])).2 j;rw[this];rfl
def iH(s:Int):Int:=IntKind.u64.wrap (IntKind.u64.wrap (s*6364136223846793005)+1442695040888963407)
def jr(s:Int):Int:=iH s/4294967296
theorem OH(s:Int):0<=iH s/\iH s<18446744073709551616:=by
 unfold iH;rw[IntKind.wrap_u64];omega
theorem qg(s:Int):0<=jr s/\jr s<=4294967295:=by
 have:=OH s;unfold jr;omega
theorem Gh(s:Int):jr s%4294967296=jr s:=by
 have:=qg s;omega
theorem JJ(s:Int):iH s/4294967296%4294967296=jr s:=Gh s
theorem JK(s:Int)(w:World)(h0:0<=s)(h1:s<=4294967295):
 Calls prog 240 #[.int .u32 s] w fun e w'=>e=returned (pointer (some ⟨w.heap.size,0,none⟩))/\w.alloc (cells #[.int .u64 s] 371)=w':=by
 go_enter func240,ntmps240;go_wp2;go_ret;exact⟨rfl,rfl⟩
theorem xm(s:Int)(p:Addr)(w:World)(hc:w.cell? p=some (.int .u64 s))(hf:w.frozen? p=false):
 Calls prog 241 #[pointer (some p)] w fun e w'=>e=returned (.int .u32 (jr s))/\w.setCell p (.int .u64 (iH s))=w':=by
 go_enter func241,ntmps241;go_wp2;go_ret;exact⟨congrArg (fun x=>Ending.returned (.int .u32 x)) (JJ s),rfl⟩
theorem uJ(s:Int)(p:Addr)(w:World)(hc:w.cell? p=some (.int .u64 s))(hf:w.frozen? p=false):
 Calls prog 329 #[pointer (some p)] w fun e w'=>e=returned (.int .u32 (jr s))/\w.setCell p (.int .u64 (iH s))=w':=by
 go_enter func329,ntmps329;go_wp2;go_ret;exact⟨congrArg (fun x=>Ending.returned (.int .u32 x)) (JJ s),rfl⟩
theorem fE(w:World)(p:Addr)(v:Value)(h:w.cell? p=some v):w.setCell p v=w:=by
 obtain⟨b,o,sp⟩:=p;have hsp:sp=none:=World.cell?_spot h;subst hsp;obtain⟨heap,tape,drawn,os,output⟩:=w;simp only[World.setCell,World.mk.injEq,and_true];apply Array.ext_getElem?;intro i;rw[Array.getElem?_modify];split
 ·rename_i hi
  subst hi;simp only[World.cell?] at h;cases hb:heap[b]? with
  | none=>simp
  | some ob=>
    rw[hb] at h;cases ob with
    | cells c t fr=>
      simp at h;simp only[Option.map_some,Option.isSome_none];congr 2;apply Array.ext_getElem?;intro j;rw[bg (by simp),Array.getElem?_setIfInBounds];split
      ·rename_i hj;subst hj;split
       ·exact h.symm
       ·rename_i hh;rw[Array.getElem?_eq_none (by omega)] at h;cases h
      ·rfl
    | _=>simp
 ·rfl
def ju(s n:Int):Int:=if n<=0 then 0 else jr s%n
def Lx(s n:Int):Int:=if n<=0 then s else iH s
theorem qh{s n:Int}(h:0<n):ju s n=jr s%n:=by unfold ju;rw[bg (by omega)]
theorem Ah{s n:Int}(h:n<=0):ju s n=0:=by unfold ju;rw[bf h]
theorem Eu{s n:Int}(h:0<n):Lx s n=iH s:=by unfold Lx;rw[bg (by omega)]
theorem Ev{s n:Int}(h:n<=0):Lx s n=s:=by unfold Lx;rw[bf h]
theorem mZ(s n:Int):0<=ju s n/\ju s n<=4294967295:=by
 have:=qg s;unfold ju;split
 ·omega
 ·have h1:=Int.emod_nonneg (jr s) (show n≠0 by omega)
  have h2:=Int.emod_def (jr s) n;have h3:=Int.mul_nonneg (show 0<=n by omega) (Int.ediv_nonneg this.1 (show 0<=n by omega));omega
theorem uK(s n:Int)(p:Addr)(w:World)(hc:w.cell? p=some (.int .u64 s))(hf:w.frozen? p=false)(hn: -9223372036854775808<=n/\n<=9223372036854775807):
 Calls prog 309 #[pointer (some p),int i64 n] w fun e w'=>e=returned (int i64 (ju s n))/\w.setCell p (.int .u64 (Lx s n))=w':=by
 have hself:=ae (fE w p _ hc);by_cases h0:n<=0
 ·have hv:=ae (Ah (s:=s) h0)
  have hs:=ae (Ev (s:=s) h0);go_enter func309,ntmps309;go_wp2_with fail;go_ret;rw[hv.out,hs.out,hself.out];exact⟨rfl,rfl⟩
 ·have hv:=ae (qh (s:=s) (n:=n) (by omega))
  have hs:=ae (Eu (s:=s) (n:=n) (by omega));have ho:=qg s;have h1:=Int.emod_nonneg (jr s) (show n≠0 by omega);have h2:=Int.emod_lt_of_pos (jr s) (show 0<n by omega);go_enter func309,ntmps309;go_wp2_with fail;refine(xm s p _ hc hf).mono ?_;rintro e w1 ⟨rfl,rfl⟩;go_wp2_with fail;go_ret;rw[hv.out,hs.out];exact⟨rfl,rfl⟩
theorem rU(s n:Int)(p:Addr)(w:World)(hc:w.cell? p=some (.int .u64 s))(hf:w.frozen? p=false)(hn: -9223372036854775808<=n/\n<=9223372036854775807):
 Calls prog 375 #[pointer (some p),int i64 n] w fun e w'=>e=returned (int i64 (ju s n))/\w.setCell p (.int .u64 (Lx s n))=w':=by
 have hself:=ae (fE w p _ hc);by_cases h0:n<=0
 ·have hv:=ae (Ah (s:=s) h0)
  have hs:=ae (Ev (s:=s) h0);go_enter func375,ntmps375;go_wp2_with fail;go_ret;rw[hv.out,hs.out,hself.out];exact⟨rfl,rfl⟩
 ·have hv:=ae (qh (s:=s) (n:=n) (by omega))
  have hs:=ae (Eu (s:=s) (n:=n) (by omega));have ho:=qg s;have h1:=Int.emod_nonneg (jr s) (show n≠0 by omega);have h2:=Int.emod_lt_of_pos (jr s) (show 0<n by omega);go_enter func375,ntmps375;go_wp2_with fail;refine(uJ s p _ hc hf).mono ?_;rintro e w1 ⟨rfl,rfl⟩;go_wp2_with fail;go_ret;rw[hv.out,hs.out];exact⟨rfl,rfl⟩
theorem uL(n:Int)(w:World):
 Calls prog 309 #[pointer none,int i64 n] w fun e w'=>e=returned (int i64 0)/\w=w':=by
 go_enter func309,ntmps309;go_wp2_with fail;go_ret;exact⟨rfl,rfl⟩
def lH(l:List Nat)(i j:Nat):List Nat:=(l.set i (l.getD j 0)).set j (l.getD i 0)
theorem Il(l:List Nat)(i j:Nat):(lH l i j).length=l.length:=by simp[lH]
theorem getD_at{l:List Nat}{i:Nat}(h:i<l.length):l.getD i 0=l[i]:=by rw[af,ag h];rfl
theorem vY{l:List Nat}{i j:Nat}(hi:i<l.length)(hj:j<l.length):(lH l i j).Perm l:=by
 unfold lH;rw[getD_at hi,getD_at hj];exact set_set_perm hi hj
def bN(nl:Bool)(s n:Int):Nat:=if nl then 0 else (ju s n).toNat
def sN(nl:Bool)(s n:Int):Int:=if nl then s else Lx s n
theorem K8{nl:Bool}{s n:Int}(h:0<n):(bN nl s n:Int)<n:=by
 unfold bN;split
 ·simpa using h
 ·have h1:=(mZ s n).1
  have h2:=Int.emod_lt_of_pos (jr s) h;rw[qh h] at h1 ⊢;omega
def dR(nl:Bool)(n:Nat)(s:Int):Nat->Int | 0=>s | k+1=>sN nl (dR nl n s k) ((n:Int)-(k:Int))
def eF(nl:Bool)(n:Nat)(s:Int):Nat->List Nat | 0=>range n | k+1=>lH (eF nl n s k) k (k+bN nl (dR nl n s k) ((n:Int)-(k:Int)))
theorem fK(nl:Bool)(n:Nat)(s:Int)(k:Nat):(eF nl n s k).length=n:=by
 induction k with
 | zero=>exact aY
 | succ k ih=>rw[eF,Il,ih]
theorem D7{nl:Bool}{n:Nat}{s:Int}{k:Nat}(h:k<n):k+bN nl (dR nl n s k) ((n:Int)-(k:Int))<n:=by
 have:=K8 (nl:=nl) (s:=dR nl n s k) (n:=(n:Int)-(k:Int)) (by omega);omega
theorem pz{nl:Bool}{n:Nat}{s:Int}{k:Nat}(h:k<=n):(eF nl n s k).Perm (range n):=by
 induction k with
 | zero=>exact List.Perm.refl _
 | succ k ih=>exact(vY (by rw[fK];omega) (by rw[fK];exact D7 (by omega))).trans (ih (by omega))
def leB(x y:Nat):Bool:=decide (x<=y)
def Fe(l:List Nat):Prop:=l.Pairwise (·<= ·)
def chosen(nl:Bool)(n:Nat)(s:Int)(k:Nat):List Nat:=((eF nl n s k).take k).mergeSort leB
theorem fA(l:List Nat):(l.mergeSort leB).Perm l:=mergeSort_perm l leB
theorem Bs(l:List Nat):Fe (l.mergeSort leB):=by
 have h:=pairwise_mergeSort (le:=leB) (by intro a b c h1 h2;simp only[leB,decide_eq_true_eq] at*;omega) (by intro a b;simp only[leB,Bool.or_eq_true,decide_eq_true_eq];omega) l;exact h.imp fun h=>by simpa[leB] using h
theorem Po{l m:List Nat}(h:l.Perm m)(h1:Fe l)(h2:Fe m):l=m:=h.eq_of_pairwise (fun a b _ _ h3 h4=>Nat.le_antisymm h3 h4) h1 h2
theorem K9{l m:List Nat}(h:l.Perm m)(h1:Fe l):l=m.mergeSort leB:=Po (h.trans (fA m).symm) h1 (Bs m)
theorem vZ{nl:Bool}{n:Nat}{s:Int}{k:Nat}(h:k<=n):(chosen nl n s k).length=k:=by
 rw[chosen,(fA _).length_eq,aG,fK];omega
theorem D8{nl:Bool}{n:Nat}{s:Int}{k:Nat}(h:k<=n)(j:Nat):((eF nl n s k).take j).Nodup:=((pz h).nodup_iff.2 nodup_range).sublist (take_sublist _ _)
theorem Im{nl:Bool}{n:Nat}{s:Int}{k:Nat}(h:k<=n):∀x∈chosen nl n s k,x<n:=by
 intro x hx;have h1:=(fA _).mem_iff.1 hx;exact bA.1 ((pz h).mem_iff.1 (bD h1))
theorem Bt{nl:Bool}{n:Nat}{s:Int}{k:Nat}(h:k<=n):(chosen nl n s k).Pairwise (·< ·):=by
 have h1:(chosen nl n s k).Nodup:=(fA _).nodup_iff.2 (D8 h k);exact(List.Pairwise.and (Bs _) h1).imp fun ⟨a,b⟩=>Nat.lt_of_le_of_ne a b
def Ins(L:List Nat)(i j:Nat)(P:List Nat):Prop:=∃(A B R:List Nat) (x:Nat),P=A++x :: (B++R)/\A.length=j/\j+B.length=i/\Fe (A++B)/\(∀b∈B,x<b)/\P.Perm L
theorem Ins.start{L P:List Nat}{i:Nat}(h:i<P.length)(hs:Fe (P.take i))(hp:P.Perm L):Ins L i i P:=
 ⟨P.take i,[],P.drop (i+1),P[i],by rw[nil_append,getElem_cons_drop,take_append_drop],by rw[aG];omega,rfl,by simpa using hs,by simp,hp⟩
theorem Ins.down{L P:List Nat}{i j:Nat}(h:Ins L i (j+1) P)(hlt:P.getD (j+1) 0<P.getD j 0):Ins L i j (lH P (j+1) j):=by
 obtain⟨A,B,R,x,rfl,hA,hB,hs,hb,hp⟩:=h
 obtain⟨A',a,rfl⟩:∃A' a,A=A'++[a]:=by
  rcases eq_nil_or_concat A with h | ⟨A',a,h⟩
  ·rw[h] at hA;simp at hA
  ·exact⟨A',a,by rw[h,concat_eq_append]⟩
 have hA':A'.length=j:=by simpa using hA
 have g1:(A'++[a]++x :: (B++R)).getD (j+1) 0=x:=by
  rw[af,List.getElem?_append_right (by simp;omega)];simp[hA']
 have g0:(A'++[a]++x :: (B++R)).getD j 0=a:=by
  rw[af,append_assoc,List.getElem?_append_right (by omega)];simp[hA']
 rw[g1,g0] at hlt
 have e:lH (A'++[a]++x :: (B++R)) (j+1) j=A'++x :: (a :: B++R):=by
  unfold lH;rw[g1,g0,set_append_right _ _ (by simp;omega)];have:j+1-(A'++[a]).length=0:=(by simp;omega);rw[this,set_cons_zero,append_assoc,set_append_right _ _ (by omega),hA',Nat.sub_self];rfl
 have hlen:(A'++[a]++x :: (B++R)).length=j+1+1+(B++R).length:=by simp;omega
 refine⟨A',a :: B,R,x,e,hA',by simp;omega,by simpa using hs,?_,(vY (by omega) (by omega)).trans hp⟩;intro b hb';rcases mem_cons.1 hb' with rfl | h
 ·exact hlt
 ·exact hb b h
theorem Ins.stop{L P:List Nat}{i j:Nat}(h:Ins L i j P)(hge:j=0\/P.getD (j-1) 0<=P.getD j 0):Fe (P.take (i+1))/\P.Perm L:=by
 obtain⟨A,B,R,x,rfl,hA,hB,hs,hb,hp⟩:=h;refine⟨?_,hp⟩
 have e:(A++x :: (B++R)).take (i+1)=A++x :: B:=by
  have:A++x :: (B++R)=(A++x :: B)++R:=(by simp);rw[this,take_left' (by simp;omega)]
 rw[e];have hs':=pairwise_append.1 hs;refine pairwise_append.2 ⟨hs'.1,pairwise_cons.2 ⟨fun b h=>Nat.le_of_lt (hb b h),hs'.2.1⟩,fun a ha b hbm=> ?_⟩
 have hax:a<=x:=by
  rcases hge with h0 | hge
  ·have:A=[]:=eq_nil_of_length_eq_zero (by omega)
   rw[this] at ha;cases ha
  ·rcases eq_nil_or_concat A with h | ⟨A',a',h⟩
   ·rw[h] at ha;cases ha
   ·rw[concat_eq_append] at h
    subst h;have hj:A'.length+1=j:=by simpa using hA
    have g1:(A'++[a']++x :: (B++R)).getD j 0=x:=by
     rw[af,List.getElem?_append_right (by simp;omega)];simp[<-hj]
    have g0:(A'++[a']++x :: (B++R)).getD (j-1) 0=a':=by
     rw[af,append_assoc,List.getElem?_append_right (by omega)];simp[<-hj]
    rw[g1,g0] at hge;have h2:=pairwise_append.1 hs'.1;rcases bz.1 ha with h3 | h3
    ·exact aO (h2.2.2 a h3 a' (mem_singleton.2 rfl)) hge
    ·rw[mem_singleton.1 h3];exact hge
 rcases mem_cons.1 hbm with rfl | h
 ·exact hax
 ·exact aO hax (Nat.le_of_lt (hb b h))
