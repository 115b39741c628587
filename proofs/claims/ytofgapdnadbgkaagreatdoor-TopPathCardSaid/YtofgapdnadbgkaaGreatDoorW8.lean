import Derived.Test.YtofgapdnadbgkaaGreatDoorW7
import Derived.Lib.BitFns
set_option linter.unusedVariables false
set_option maxRecDepth 100000
set_option maxHeartbeats 400000000
namespace Go.Proofs.YtofgapdnadbgkaaGreatDoor
open Go.RowKit _root_.Go.Proofs.Tryz
structure yP (n:Nat) (known:Nat→Bool) (l:List (List Nat)) (St:List (Nat×Nat)) (De Le:List Nat):Prop where
 step:∀(k r c:Nat),St[k]? =some (r,c)→r<l.length∧c∈l.getD r []∧∀d∈l.getD r [],d≠c→d∈De∨∃k' r',k'<k∧St[k']? =some (r',d)
 cols:(St.map Prod.snd++De).Nodup
 all:∀c,c<n→(known c=false↔c∈St.map Prod.snd∨c∈De)
 bd:∀c,c∈St.map Prod.snd∨c∈De→c<n
 left:∀i,i∈Le↔i<l.length∧i∉St.map Prod.fst
theorem qi(l:List (List Nat))(z:Nat→List Nat):∀(St:List (Nat×Nat)) (W:Nat→List Nat) (c:Nat),c∉St.map Prod.snd→bX l z W St c=W c:=by
 intro St
 induction St with
 | nil=>intro W c _;rfl
 | cons s St ih=>
   intro W c hc;obtain⟨r,d⟩:=s;have h1:c≠d:=fun e=>hc (by simp[e]);have h2:c∉St.map Prod.snd:=fun h=>hc (by simp[List.mem_map] at h ⊢;exact .inr h);show bX l z (je W d _) St c=W c;rw[ih _ c h2,ko _ _ h1]
theorem sG{m m':Nat→List Nat}:∀ {cols:List Nat} {z:List Nat},(∀c∈cols,m c=m' c)→bz m cols z=bz m' cols z:=by
 intro cols
 induction cols with
 | nil=>intro z _;rfl
 | cons c cols ih=>intro z h;show bz m cols (xr z (m c))=bz m' cols (xr z (m' c));rw[h c (by simp)];exact ih fun d hd=>h d (by simp[hd])
theorem Km{n:Nat}{known:Nat→Bool}{l:List (List Nat)}{St:List (Nat×Nat)}{De Le:List Nat}(P:yP n known l St De Le)(z:Nat→List Nat)(W0:Nat→List Nat){k r c:Nat}(hs:St[k]? =some (r,c)):
 bX l z W0 St c=bz (bX l z W0 St) (others l r c) (z r):=by
 obtain⟨hk,e⟩:=List.getElem?_eq_some_iff.1 hs;have hsp:St=St.take k++(r,c) :: St.drop (k+1):=by rw[←e,List.getElem_cons_drop,List.take_append_drop]
 have hnd:(St.map Prod.snd).Nodup:=(List.nodup_append.1 P.cols).1;have hnd2:=hnd;rw[hsp,aW,List.map_cons] at hnd2;obtain⟨n1,n2,n3⟩:=List.nodup_append.1 hnd2;obtain⟨n4,n5⟩:=List.nodup_cons.1 n2
 have hW:∀d,bX l z W0 St d=bX l z (je (bX l z W0 (St.take k)) c (bz (bX l z W0 (St.take k)) (others l r c) (z r))) (St.drop (k+1)) d:=fun d=>by
  conv=>lhs;rw[hsp]
  rw[AP];rfl
 rw[hW c,qi _ _ _ _ _ n4,li];refine sG fun d hd=> ?_;obtain⟨h1,h2⟩:=List.mem_filter.1 hd;have hne:d≠c:=by simpa using h2
 rw[hW d];have hkeep:d∉(St.drop (k+1)).map Prod.snd:= ?_
 ·rw[qi _ _ (St.drop (k+1)) _ d hkeep,ko _ _ hne]
 intro hdm;rcases(P.step k r c hs).2.2 d h1 hne with h | ⟨k',r',h3,h4⟩
 ·have hdS:d∈St.map Prod.snd:=by rw[hsp,aW,List.map_cons];exact List.mem_append_right _ (List.mem_cons_of_mem _ hdm)
  exact(List.nodup_append.1 P.cols).2.2 d hdS d h rfl
 ·have:d∈(St.take k).map Prod.snd:=List.mem_map.2 ⟨(r',d),List.mem_of_getElem? (i:=k') (by rw[List.getElem?_take,if_pos h3];exact h4),rfl⟩
  exact n3 d this d (List.mem_cons_of_mem _ hdm) rfl
theorem EB{n D:Nat}{known:Nat→Bool}{l:List (List Nat)}{St:List (Nat×Nat)}{De Le:List Nat}(P:yP n known l St De Le)(hl:∀r,(l.getD r []).Nodup)(hlk:∀r,∀c∈l.getD r [],c<n∧known c=false)
 {W0:Nat→List Nat}(hW:∀c,c<n→known c=false→Byt D (bX l (fun _=>List.replicate D 0) W0 St c)){p:Nat→Nat}(hp:Vb p)
 (hleft:∀r∈Le,dG p (vO (bz (bX l (fun _=>List.replicate D 0) W0 St) (l.getD r []) (List.replicate D 0))) D=0):
 ∀r,r<l.length→sX (fun c _=>dG p (vO (bX l (fun _=>List.replicate D 0) W0 St c)) D) 0 (l.getD r [])=0:=by
 have flip:∀(w:List Nat),Byt D w→dG p (vO w) D=comes D (fun i _=>p i) w 0:=fun w hw=>by
  unfold comes
  have:∀m,dG p (vO w) m=dG (vO w) (fun i=>p i) m:=by
   intro m
   induction m with
   | zero=>rfl
   | succ m ih=>show dG p (vO w) m ^^^ fm (p m) (vO w m)=dG (vO w) _ m ^^^ fm (vO w m) (p m);rw[ih,il]
  exact this D
 have hv:∀i j:Nat,(fun i (_:Nat)=>p i) i j<256:=fun i j=>hp i
 have hs:∀cols:List Nat,(∀c∈cols,c<n∧known c=false)→dG p (vO (bz (bX l (fun _=>List.replicate D 0) W0 St) cols (List.replicate D 0))) D=sX (fun c _=>dG p (vO (bX l (fun _=>List.replicate D 0) W0 St c)) D) 0 cols:=fun cols hc=>by
  have hb:∀c∈cols,Byt D (bX l (fun _=>List.replicate D 0) W0 St c):=fun c h=>hW c (hc c h).1 (hc c h).2;rw[flip _ (df (Byt.zero D) hb),oL hv 0 (Byt.zero D) hb,jO,Nat.zero_xor];exact lJ fun c h=>(flip _ (hb c h)).symm
 intro r hr;by_cases hm:r∈St.map Prod.fst
 ·obtain⟨⟨r',c⟩,hm2,rfl⟩:=List.mem_map.1 hm
  obtain⟨k,hk⟩:=List.getElem?_of_mem hm2;have e:=Km P (fun _=>List.replicate D 0) W0 hk;obtain⟨_,p2,_⟩:=P.step k r' c hk;show sX _ 0 (l.getD r' [])=0;rw[IP p2 (hl r')];have ho:∀d∈others l r' c,d<n∧known d=false:=fun d hd=>hlk r' d (List.mem_filter.1 hd).1;have h1:=hs (others l r' c) ho;rw[←e] at h1;show dG p (vO (bX l (fun _=>List.replicate D 0) W0 St c)) D ^^^ sX _ 0 (others l r' c)=0;rw[h1,Nat.xor_self]
 ·have hL:r∈Le:=(P.left r).2 ⟨hr,hm⟩
  rw[←hs _ (hlk r)];exact hleft r hL
theorem fH(p q:Nat→Nat)(n:Nat):dG p q n=dG q p n:=by
 induction n with
 | zero=>rfl
 | succ n ih=>show dG p q n ^^^ fm (p n) (q n)=dG q p n ^^^ fm (q n) (p n);rw[ih,il]
def cZ(W:Nat→List Nat)(row z:List Nat):Nat→List Nat | 0=>z | k+1=>xr (cZ W row z k) (jH (row.getD k 0) (W k))
theorem rR{D:Nat}{w:List Nat}(c:Nat)(h:w.length=D):Byt D (jH c w):=by
 refine⟨by rw[lh];exact h,fun x hx=> ?_⟩;unfold jH at hx;obtain⟨y,_,rfl⟩:=List.mem_map.1 hx;exact fU _ _
theorem eQ{D:Nat}{W:Nat→List Nat}{row z:List Nat}(hz:Byt D z):∀k,(∀c,c<k→(W c).length=D)→Byt D (cZ W row z k):=by
 intro k
 induction k with
 | zero=>intro _;exact hz
 | succ k ih=>intro h;exact(ih fun c hc=>h c (by omega)).xr (rR _ (h k (by omega)))
theorem Nb{D:Nat}{p:Nat→Nat}(hp:Vb p){a b:List Nat}(ha:Byt D a)(hb:Byt D b):dG p (vO (xr a b)) D=dG p (vO a) D ^^^ dG p (vO b) D:=by
 rw[fH,fH p (vO a),fH p (vO b),←sx (gP ha.2) (gP hb.2) hp];congr 1;funext i;exact lI (by rw[ha.1,hb.1]) i
theorem KY{D:Nat}{p:Nat→Nat}(hp:Vb p){c:Nat}(hc:c<256){w:List Nat}(hw:Byt D w):dG p (vO (jH c w)) D=fm c (dG p (vO w) D):=by
 rw[fH,fH p (vO w),←yJ hc (gP hw.2) hp];congr 1;funext i;exact iO c w i
theorem wO(p:Nat→Nat)(D k:Nat):dG p (vO (List.replicate k 0)) D=0:=by
 have e:vO (List.replicate k 0)=vz:=by
  funext i;show(List.replicate k 0).getD i 0=0;rw[af,List.getElem?_replicate];split <;> rfl
 rw[e,AC]
theorem IK{D:Nat}{W:Nat→List Nat}{p:Nat→Nat}(hp:Vb p){row:List Nat}(hr:∀x∈row,x<256):∀k,(∀c,c<k→Byt D (W c))→dG p (vO (cZ W row (List.replicate D 0) k)) D=dG (vO row) (fun c=>dG p (vO (W c)) D) k:=by
 intro k
 induction k with
 | zero=>intro _;exact wO p D D
 | succ k ih=>
   intro h;have h1:Byt D (cZ W row (List.replicate D 0) k):=eQ (Byt.zero D) k fun c hc=>(h c (by omega)).1;show dG p (vO (xr (cZ W row (List.replicate D 0) k) (jH (row.getD k 0) (W k)))) D=dG (vO row) _ k ^^^ fm (vO row k) (dG p (vO (W k)) D);rw[Nb hp h1 (rR _ (h k (by omega)).1),ih fun c hc=>h c (by omega),KY hp (c:=row.getD k 0) (gP hr k) (h k (by omega))];rfl
theorem tV{n:Nat}{q:Nat→Nat}(hq:Vb q){row:List Nat}:∀ {cols:List Nat},cols.Nodup→(∀c∈cols,c<n)→(∀i,i<n→row.getD i 0=if i∈cols then 1 else 0)→dG q (vO row) n=sX (fun c _=>q c) 0 cols:=by
 intro cols hn hc hrow
 have e:dG q (vO row) n=dG (fun i=>if i∈cols then 1 else 0) q n:=by
  rw[fH];refine Ec fun i hi=> ?_;show fm (row.getD i 0) (q i)=_;rw[hrow i hi]
 rw[e];clear e hrow
 induction cols with
 | nil=>
   have:∀m,dG (fun i=>if i∈([]:List Nat) then 1 else 0) q m=0:=fun m=>by
    induction m with
    | zero=>rfl
    | succ m ih=>show dG _ q m ^^^ fm (if m∈([]:List Nat) then 1 else 0) (q m)=0;rw[ih,if_neg (by simp),bW];rfl
   exact this n
 | cons c cols ih=>
   obtain⟨h1,h2⟩:=List.nodup_cons.1 hn
   have e2:(fun i=>if i∈c :: cols then 1 else 0)=fun i=>(if i=c then 1 else 0) ^^^ (if i∈cols then 1 else 0):=by
    funext i;by_cases hi:i=c
    ·subst hi;rw[if_pos List.mem_cons_self,if_pos rfl,if_neg h1];rfl
    ·rw[if_neg hi]
     by_cases hm:i∈cols
     ·rw[if_pos (List.mem_cons_of_mem _ hm),if_pos hm];rfl
     ·rw[if_neg (fun h=>(List.mem_cons.1 h).elim hi hm),if_neg hm];rfl
   rw[e2,sx (sD c) (fun i=>by show(if i∈cols then 1 else 0)<256;split <;> decide) hq,jM q hq,if_pos (hc c (by simp)),ih h2 fun d hd=>hc d (by simp[hd])];rfl
theorem BF{n D:Nat}{known:Nat→Bool}{l:List (List Nat)}{St:List (Nat×Nat)}{De Le:List Nat}(P:yP n known l St De Le)(hD:De.length=D)(hl:∀r,(l.getD r []).Nodup)(hlk:∀r,∀c∈l.getD r [],c<n∧known c=false)
 {W0 W:Nat→List Nat}(hW0:∀i,i<D→W0 (De.getD i 0)=dI D i)(hW:∀c,c<n→W c=if known c then List.replicate D 0 else bX l (fun _=>List.replicate D 0) W0 St c)(hWb:∀c,c<n→Byt D (W c))
 {PR:List (List Nat)}(hPR:Wf n PR){E:List (List Nat)}{F:List (List Nat)}(hE:∀cols∈E,cols.Nodup∧(∀c∈cols,c<n)∧(cols.filter (fun c=> !known c)=[]∨∃r,r<l.length∧l.getD r []=cols.filter fun c=> !known c))
 (hF:Wf n F)(hrF:∀r∈F,r∈PR∨∃cols∈E,∀i,i<n→r.getD i 0=if i∈cols then 1 else 0)(hfull:(dh F).length=n):
 (dh (Le.map (fun r=>bz W (l.getD r []) (List.replicate D 0))++PR.map fun row=>cZ W row (List.replicate D 0) n)).length=D:=by
 have hWu:∀c,c<n→known c=false→W c=bX l (fun _=>List.replicate D 0) W0 St c:=fun c h1 h2=>by rw[hW c h1,h2];rfl
 have hA:Wf D (Le.map (fun r=>bz W (l.getD r []) (List.replicate D 0))++PR.map fun row=>cZ W row (List.replicate D 0) n):=by
  intro r hr;rcases List.mem_append.1 hr with hr | hr
  ·obtain⟨i,_,rfl⟩:=List.mem_map.1 hr
   exact df (Byt.zero D) fun c hc=>hWb c (hlk i c hc).1
  ·obtain⟨row,_,rfl⟩:=List.mem_map.1 hr
   exact eQ (Byt.zero D) n fun c hc=>(hWb c hc).1
 have hle:=(lT hA).2;have hle1:=(lT hA).1;rcases Nat.lt_or_ge (dh (Le.map (fun r=>bz W (l.getD r []) (List.replicate D 0))++PR.map fun row=>cZ W row (List.replicate D 0) n)).length D with hlt | hge
 ·exfalso
  obtain⟨p,hp,⟨f,hf,hpf⟩,hk⟩:=kernel hA hlt;have hq:Vb fun c=>dG p (vO (W c)) D:=fun c=>yH _ _ _
  have hkill:=EB P hl hlk (W0:=W0) (D:=D) (fun c h1 h2=>by rw[←hWu c h1 h2];exact hWb c h1) hp (fun r hr=>by
   have:=hk (bz W (l.getD r []) (List.replicate D 0)) (List.mem_append_left _ (List.mem_map_of_mem hr))
   rwa [sG fun c hc=>hWu c (hlk r c hc).1 (hlk r c hc).2] at this)
  have hall:=Am hF hfull hq fun r hr=>by
   rcases hrF r hr with h | ⟨cols,hc,hrow⟩
   ·have h1:=hk (cZ W r (List.replicate D 0) n) (List.mem_append_right _ (List.mem_map_of_mem h))
    rw[IK hp (hPR r h).2 n hWb] at h1;rw[fH];exact h1
   ·obtain⟨h1,h2,h3⟩:=hE cols hc
    rw[tV hq h1 h2 hrow,qE _ 0 known cols]
    have z1:sX (fun c (_:Nat)=>dG p (vO (W c)) D) 0 (cols.filter known)=0:=by
     have:∀L:List Nat,(∀c∈L,c<n∧known c=true)→sX (fun c (_:Nat)=>dG p (vO (W c)) D) 0 L=0:=by
      intro L
      induction L with
      | nil=>intro _;rfl
      | cons c L ih=>
        intro h;obtain⟨g1,g2⟩:=h c (by simp);show dG p (vO (W c)) D ^^^ sX _ 0 L=0;rw[ih fun d hd=>h d (by simp[hd]),hW c g1,g2];show dG p (vO (List.replicate D 0)) D ^^^ 0=0;rw[wO];rfl
     exact this _ fun c hc=>⟨h2 c (List.mem_filter.1 hc).1,(List.mem_filter.1 hc).2⟩
    have z2:sX (fun c (_:Nat)=>dG p (vO (W c)) D) 0 (cols.filter fun c=> !known c)=0:=by
     rcases h3 with h3 | ⟨r',h4,h5⟩
     ·rw[h3];rfl
     ·rw[←h5]
      refine Eq.trans (lJ fun c hc=> ?_) (hkill r' h4);show dG p (vO (W c)) D=_;rw[hWu c (hlk r' c hc).1 (hlk r' c hc).2]
    rw[z1,z2];rfl
  have hDm:De.getD f 0∈De:=(by rw[af,ag (by omega)];exact aU _);have hDn:=P.bd _ (.inr hDm);have hDu:known (De.getD f 0)=false:=(P.all _ hDn).2 (.inr hDm);have hnot:De.getD f 0∉St.map Prod.snd:=fun h=>(List.nodup_append.1 P.cols).2.2 _ h _ hDm rfl;have h0:=hall (De.getD f 0) hDn
  have h1:dG p (vO (W (De.getD f 0))) D=p f:=by
   rw[hWu _ hDn hDu,qi _ _ _ _ _ hnot,hW0 f hf];rw[tV hp (cols:=[f]) (by simp) (by simp;exact hf) (fun i hi=>by rw[lW];by_cases h:i=f <;> simp[h,hf])];show p f ^^^ 0=p f;exact Nat.xor_zero _
  have h2:p f=0:=(by rw[←h1];exact h0);rw[hpf] at h2;cases h2
 ·omega
theorem Fq(X:List (List Nat))(w:Nat→Nat)(j:Nat):∀D,tmp X w D j=dG w (fun i=>(X.getD i []).getD j 0) D:=by
 intro D
 induction D with
 | zero=>rfl
 | succ D ih=>show tmp X w D j ^^^ fm (w D) ((X.getD D []).getD j 0)=_;rw[ih];rfl
theorem oq{D Z:Nat}{X:List (List Nat)}(hX:Wf Z X)(hl:X.length=D)(w:List Nat):(oG Z w X D).length=Z∧∀j,(oG Z w X D).getD j 0=comes D (fun i j=>(X.getD i []).getD j 0) w j:=by
 obtain⟨h1,h2,h3⟩:=yD (w:=Z) (r:=w) hX D (by omega);refine⟨h1,fun j=> ?_⟩;have e:=congrFun h3 j;rw[Fq] at e;exact e
theorem Ft{D:Nat}{v:Nat→Nat→Nat}(hv:∀i j,v i j<256){c:Nat}(hc:c<256){w:List Nat}(hw:Byt D w)(j:Nat):comes D v (jH c w) j=fm c (comes D v w j):=by
 unfold comes;rw[←yJ hc (gP hw.2) fun i=>hv i j];congr 1;funext i;exact iO c w i
theorem Bx{D:Nat}{v:Nat→Nat→Nat}(hv:∀i j,v i j<256){W:Nat→List Nat}{row:List Nat}(hr:∀x∈row,x<256)(j:Nat):∀k,(∀c,c<k→Byt D (W c))→comes D v (cZ W row (List.replicate D 0) k) j=dG (vO row) (fun c=>comes D v (W c) j) k:=by
 intro k
 induction k with
 | zero=>intro _;exact jO D v D j
 | succ k ih=>
   intro h;have h1:Byt D (cZ W row (List.replicate D 0) k):=eQ (Byt.zero D) k fun c hc=>(h c (by omega)).1;have h2:=rR (row.getD k 0) (h k (by omega)).1;show comes D v (xr (cZ W row (List.replicate D 0) k) (jH (row.getD k 0) (W k))) j=dG (vO row) _ k ^^^ fm (vO row k) (comes D v (W k) j);rw[AQ hv (by rw[h1.1,h2.1]) h1.2 h2.2,ih fun c hc=>h c (by omega),Ft hv (c:=row.getD k 0) (gP hr k) (h k (by omega))];rfl
theorem zA{Z:Nat}{M:Nat→List Nat}{row:List Nat}(hr:∀x∈row,x<256)(j:Nat):∀k,(∀c,c<k→(M c).length=Z)→(cZ M row (List.replicate Z 0) k).getD j 0=dG (vO row) (fun c=>(M c).getD j 0) k:=by
 intro k
 induction k with
 | zero=>intro _;show(List.replicate Z 0).getD j 0=0;rw[af,List.getElem?_replicate];split <;> rfl
 | succ k ih=>
   intro h;have h1:=(eQ (D:=Z) (W:=M) (row:=row) (Byt.zero Z) k fun c hc=>h c (by omega)).1;have h2:=(rR (row.getD k 0) (h k (by omega))).1;show(xr (cZ M row (List.replicate Z 0) k) (jH (row.getD k 0) (M k))).getD j 0=_;rw[lI (by rw[h1,h2]),ih fun c hc=>h c (by omega),iO];rfl
theorem Bz{n D Z:Nat}{l:List (List Nat)}{Le:List Nat}{W M:Nat→List Nat}{X:List (List Nat)}{z:Nat→List Nat}{PR:List (List Nat)}(m:Nat→Nat→Nat)
 (hX:Wf Z X)(hXl:X.length=D)(hX0:X≠[])(hWb:∀c,c<n→Byt D (W c))(hMb:∀c,c<n→Byt Z (M c))(hm:∀c,c<n→∀j,m c j=comes D (fun i j=>(X.getD i []).getD j 0) (W c) j ^^^ (M c).getD j 0)
 (hlk:∀r∈Le,∀c∈l.getD r [],c<n)(hz:∀r∈Le,Byt Z (z r))(hrow:∀r∈Le,∀j,sX m j (l.getD r [])=(z r).getD j 0)
 (hPR:Wf n PR)(hpre:∀row∈PR,∀j,dG (vO row) (fun c=>m c j) n=0):
 jd (Le.map (fun r=>bz W (l.getD r []) (List.replicate D 0))++PR.map fun row=>cZ W row (List.replicate D 0) n) X=
  Le.map (fun r=>bz M (l.getD r []) (z r))++PR.map fun row=>cZ M row (List.replicate Z 0) n:=by
 have hv:∀i j:Nat,(X.getD i []).getD j 0<256:=fun i j=>by
  rcases Nat.lt_or_ge i X.length with h | h
  ·exact getD_lt (hX.get h).2 j
  ·have e:X.getD i []=[]:=by rw[af,List.getElem?_eq_none h];rfl
   rw[e];show(0:Nat)<256;decide
 have hwid:wid X=Z:=kU hX hX0;unfold jd;rw[aW,List.map_map,List.map_map,hwid,hXl];congr 1
 ·refine List.map_congr_left fun r hr=> ?_
  show oG Z (bz W (l.getD r []) (List.replicate D 0)) X D=_;have hb1:∀c∈l.getD r [],Byt D (W c):=fun c hc=>hWb c (hlk r hr c hc);have hb2:∀c∈l.getD r [],(M c).length=Z:=fun c hc=>(hMb c (hlk r hr c hc)).1;obtain⟨h1,h2⟩:=oq hX hXl (bz W (l.getD r []) (List.replicate D 0));refine iN (by rw[h1,eB (hz r hr).1 hb2]) fun j=> ?_;rw[h2,iX j (hz r hr).1 hb2,oL hv j (Byt.zero D) hb1,jO,Nat.zero_xor,←hrow r hr j];have e:sX m j (l.getD r [])=sX (fun c j=>comes D (fun i j=>(X.getD i []).getD j 0) (W c) j ^^^ (M c).getD j 0) j (l.getD r []):=lJ fun c hc=>hm c (hlk r hr c hc) j;rw[e];generalize l.getD r []=L
  induction L with
  | nil=>simp[sX]
  | cons c L ih=>
    show _ ^^^ _=(_ ^^^ _) ^^^ (_ ^^^ _);rw[ih]
    dsimp only
    generalize comes D (fun i j=>(X.getD i []).getD j 0) (W c) j=A;generalize (M c).getD j 0=B;generalize sX (fun c j=>comes D (fun i j=>(X.getD i []).getD j 0) (W c) j ^^^ (M c).getD j 0) j L=S;generalize sX (fun c j=>(M c).getD j 0) j L=T;have:(A ^^^ B) ^^^ S ^^^ (B ^^^ T)=A ^^^ (S ^^^ T) ^^^ (B ^^^ B):=(by ac_rfl);rw[this,Nat.xor_self,Nat.xor_zero]
 ·refine List.map_congr_left fun row hr=> ?_
  show oG Z (cZ W row (List.replicate D 0) n) X D=_;have hrb:=(hPR row hr).2;obtain⟨h1,h2⟩:=oq hX hXl (cZ W row (List.replicate D 0) n);refine iN (by rw[h1];exact((eQ (Byt.zero Z) n fun c hc=>(hMb c hc).1).1).symm) fun j=> ?_;rw[h2,Bx hv hrb j n hWb,zA hrb j n fun c hc=>(hMb c hc).1];have h0:=hpre row hr j
  have e:dG (vO row) (fun c=>m c j) n=dG (vO row) (fun c=>comes D (fun i j=>(X.getD i []).getD j 0) (W c) j) n ^^^ dG (vO row) (fun c=>(M c).getD j 0) n:=by
   rw[fH,fH (vO row) (fun c=>comes D _ (W c) j),fH (vO row) (fun c=>(M c).getD j 0)]
   have:∀k,k≤n→dG (fun c=>m c j) (vO row) k=dG (fun c=>comes D (fun i j=>(X.getD i []).getD j 0) (W c) j) (vO row) k ^^^ dG (fun c=>(M c).getD j 0) (vO row) k:=by
    intro k
    induction k with
    | zero=>intro _;simp[dG]
    | succ k ih=>
      intro hk;have hcb:∀(w:List Nat),comes D (fun i j=>(X.getD i []).getD j 0) w j<256:=fun w=>yH _ _ _;show dG _ _ k ^^^ fm (m k j) (vO row k)=(dG _ _ k ^^^ fm _ (vO row k)) ^^^ (dG _ _ k ^^^ fm _ (vO row k));rw[ih (by omega),hm k (by omega) j,lY (hcb (W k)) (getD_lt (hMb k (by omega)).2 j) (gP hrb k)]
      dsimp only
      ac_rfl
   exact this n (ah _)
  rw[h0] at e;generalize dG (vO row) (fun c=>comes D (fun i j=>(X.getD i []).getD j 0) (W c) j) n=A at*;generalize dG (vO row) (fun c=>(M c).getD j 0) n=B at*;have e2:=congrArg (·^^^ B) e;simp only[Nat.zero_xor,Nat.xor_assoc,Nat.xor_self,Nat.xor_zero] at e2;exact e2.symm
theorem MOwn.reput{w w1:World}{C g n c:Nat}{M:List (List Nat)}(h:MOwn w C (.slice (some ⟨g,0,none⟩) n c) M){i:Nat}(hi:i<n){u u':Value}{l:List Nat}(hc:w.cell? ⟨g,i,none⟩=some u)(hg:w.grownBy w1 u.ownBlock)(ho:OwnB w1 C u' l)
 (hat:u'.ownBlock=u.ownBlock∨u'.ownBlock=some w.heap.size):MOwn (w1.setCell ⟨g,i,none⟩ u') C (.slice (some ⟨g,0,none⟩) n c) (M.set i l):=by
 have hl:=h.len;obtain⟨vs,h⟩:=h;have hv:=h.vlen;have hd:=h.hd;rw[hl] at hd;have hui:vs[i]? =some u:=by rw[←hd.cellAt i (by omega)];exact hc
 have hne:(Value.slice (some ⟨g,0,none⟩) n c).ownBlock=none∨(Value.slice (some ⟨g,0,none⟩) n c).ownBlock≠u.ownBlock:=by
  right;rcases h.hdrow hui with h1 | h1
  ·rw[h1];simp[Value.ownBlock]
  ·exact fun e=>h1 e.symm
 have hd1:=hd.kept hg hne;obtain⟨d1,g1⟩:=hd1.stored i u';have hlt0:∀(k:Nat) u',vs[k]? =some u'→∀b,u'.ownBlock=some b→b<w.heap.size:=fun k u' hu b hb=>((h.of hu).1.lt b hb).2;have hrow:∀(k:Nat) u,vs[k]? =some u→u.ownBlock=none∨u.ownBlock≠some g:=fun k u hu=>by have:=h.hdrow hu;simpa[Value.ownBlock] using this
 have hgw:u'.ownBlock=none∨u'.ownBlock≠some g:=by have:=own_ne ho hd1 tF;simpa[Value.ownBlock] using this
 have hap:∀(k:Nat) u2,k≠i→vs[k]? =some u2→(u'.ownBlock=none∨u'.ownBlock≠u2.ownBlock)∧(u2.ownBlock=none∨u2.ownBlock≠u'.ownBlock):=fun k u2 hk hu2=>by
  rcases hat with e | e
  ·rw[e];exact⟨h.apart i k u u2 (fun e=>hk e.symm) hui hu2,h.apart k i u2 u hk hu2 hui⟩
  ·have h1:u2.ownBlock≠some w.heap.size:=fun e2=>by have:=hlt0 k u2 hu2 _ e2;omega
   rw[e];exact⟨.inr (fun e2=>h1 e2.symm),.inr h1⟩
 refine⟨vs.set i u',by rw[List.length_set,hl];exact d1,fun k l' hk=> ?_,fun k k' u1 u2 hne hu1 hu2=> ?_⟩
 ·rcases ib hk with⟨rfl,rfl,h3⟩ | ⟨h1,h2⟩
  ·exact⟨u',zh (by omega),ho.kept g1 hgw⟩
  ·obtain⟨u1,h3,h4⟩:=h.row k l' h2
   exact⟨u1,by rw[DI h1];exact h3,(h4.kept hg (h.apart k i u1 u h1 h3 hui)).kept g1 (hrow k u1 h3)⟩
 ·rcases ib hu1 with⟨rfl,rfl,h3⟩ | ⟨h1,h2⟩
  ·rcases ib hu2 with⟨rfl,_,_⟩ | ⟨h1,h2⟩
   ·exact absurd rfl hne
   ·exact(hap k' u2 h1 h2).1
  ·rcases ib hu2 with⟨rfl,rfl,_⟩ | ⟨h3,h4⟩
   ·exact(hap k u1 h1 h2).2
   ·exact h.apart k k' u1 u2 hne h2 h4
theorem I5{α:Type}{X Y:List α}(h:X.length=Y.length){k:Nat}(hk:k<Y.length){x:α}(hx:X[k]? =some x):(X.take k++Y.drop k).set k x=X.take (k+1)++Y.drop (k+1):=by
 have hkX:k<X.length:=by omega
 rw[ag hkX] at hx;rw[List.set_append_right _ _ (by rw[aI];omega),aI,Nat.min_eq_left (by omega),Nat.sub_self,List.drop_eq_getElem_cons hk,List.set_cons_zero,aP hkX,List.append_assoc,List.singleton_append,Option.some.inj hx]
def nG(A B:List (List Nat))(r:Nat):List (List Nat):=(cG A B).take r++A.drop r
theorem BS{A B:List (List Nat)}(h:A.length=B.length):nG A B A.length=cG A B:=by
 unfold nG;rw[List.drop_length,List.append_nil,aO (by rw[dU h];exact ah _)]
theorem FU{A B:List (List Nat)}(h:A.length=B.length){r:Nat}(hr:r<A.length):(nG A B r).getD r []=A.getD r []:=by
 unfold nG;rw[af,List.getElem?_append_right (by rw[aI,dU h];omega),aI,dU h,Nat.min_eq_left (by omega),Nat.sub_self,List.getElem?_drop,Nat.add_zero,af]
theorem FV{A B:List (List Nat)}(h:A.length=B.length){r:Nat}(hr:r<A.length):(nG A B r).set r (A.getD r []++B.getD r [])=nG A B (r+1):=by
 unfold nG;refine I5 (dU h) hr ?_;rw[←jr h r];exact getD_some (by rw[dU h];exact hr)
def iI(X:List (List Nat))(r:Nat):Bool:=(X.drop r).any fun x=>decide (0≤iE x)
def jF(n:Nat)(A B:List (List Nat)):Nat:=if (bI (cG A B) n).2<n then 9 else if iI (bI (cG A B) n).1 (bI (cG A B) n).2 then 10 else 0
def jG(n:Nat)(A B:List (List Nat)):List (List Nat):=if jF n A B=0 then ((bI (cG A B) n).1.take (bI (cG A B) n).2).map (List.drop n) else []
theorem FW{X:List (List Nat)}{r t:Nat}(ht:t<(X.drop r).length)(h:0≤iE ((X.drop r).getD t [])):iI X r=true:=by
 unfold iI;rw[List.any_eq_true];exact⟨_,mJ ht,decide_eq_true h⟩
theorem zW{X:List (List Nat)}{r:Nat}(h:∀t,t<(X.drop r).length→¬0≤iE ((X.drop r).getD t [])):iI X r=false:=by
 unfold iI;rw[List.any_eq_false];intro x hx;obtain⟨i,hi,rfl⟩:=List.getElem_of_mem hx;have:=h i hi;rw[af,ag hi] at this;simpa using this
theorem oF{X:List (List Nat)}{r:Nat}:iI X r=false↔∀i,r≤i→∀j,gt X i j=0:=by
 constructor
 ·intro h i hi j
  rcases Nat.lt_or_ge i X.length with h1 | h1
  ·unfold iI at h
   rw[List.any_eq_false] at h
   have hm:X.getD i []∈X.drop r:=by
    have e:(X.drop r)[i-r]? =some (X.getD i []):=(by rw[List.getElem?_drop,show r+(i-r)=i by omega];exact getD_some h1);exact List.mem_of_getElem? e
   have h2:=h _ hm;simp only[decide_eq_true_eq] at h2;have h3:=xb.1 (show iE (X.getD i [])<0 by omega);exact congrFun h3 j
  ·exact uB h1 j
 ·intro h
  refine zW fun t ht=> ?_;rw[List.length_drop] at ht
  have e:(X.drop r).getD t []=X.getD (r+t) []:=by
   rw[af,List.getElem?_drop,←af]
  rw[e];have:iE (X.getD (r+t) [])<0:=xb.2 (funext fun j=>h (r+t) (by omega) j);omega
theorem uP{n k:Nat}{A B:List (List Nat)}(hA:Wf n A)(hl:A.length=B.length)(h0:A≠[]):(bI (cG A B) n).2=(dh A).length:=by
 rw[(tv hl hA (ah n)).1,tz hA h0]
theorem Gw{n k:Nat}{A X:List (List Nat)}(hA:Wf n A)(hX:Wf k X)(hl:X.length=n)(hx0:X≠[])(h0:A≠[])(hr:(dh A).length=n):jF n A (jd A X)=0∧jG n A (jd A X)=X:=by
 have hlm:A.length=(jd A X).length:=by unfold jd;rw[aG]
 have hrk:=uP (k:=0) hA hlm h0;have hrA:(bI A n).2=n:=by rw[←tz hA h0];exact hr
 obtain⟨h1,h2⟩:=zg hA hX hl hx0 hrA;rw[hr] at hrk
 have h3:jF n A (jd A X)=0:=by
  unfold jF;rw[hrk,if_neg (by omega),oF.2 h1];rfl
 exact⟨h3,by unfold jG;rw[h3,if_pos rfl,hrk];exact h2⟩
theorem Jw{n k:Nat}{A C:List (List Nat)}(hA:Wf n A)(hC:Wf k C)(hl:A.length=C.length)(hn:0<n)(h0:A≠[])(hr:(dh A).length=n)(hs:jF n A C=0):jd A (jG n A C)=C∧Wf k (jG n A C)∧(jG n A C).length=n:=by
 have hrk:=uP (k:=0) hA hl h0;have hrA:(bI A n).2=n:=by rw[←tz hA h0];exact hr
 rw[hr] at hrk
 have hz:iI (bI (cG A C) n).1 n=false:=by
  unfold jF at hs;rw[hrk,if_neg (by omega)] at hs;cases h:iI (bI (cG A C) n).1 n with
  | false=>rfl
  | true=>rw[h] at hs;simp at hs
 have:=Bp hA hC hl hn hrA (oF.1 hz);unfold jG;rw[hs,if_pos rfl,hrk];exact this
theorem Gx{n:Nat}{A C:List (List Nat)}(hA:Wf n A)(hl:A.length=C.length)(h0:A≠[])(hr:(dh A).length=n)(hs:jF n A C≠0):jF n A C=10∧A.length≠n:=by
 have hrk:=uP (k:=0) hA hl h0;rw[hr] at hrk;unfold jF at hs ⊢;rw[hrk,if_neg (by omega)] at hs ⊢;cases h:iI (bI (cG A C) n).1 n with
 | false=>rw[h] at hs;simp at hs
 | true=>
   refine⟨rfl,fun e=> ?_⟩;have h2:iI (bI (cG A C) n).1 n=false:=oF.2 fun i hi j=>uB (by rw[ig,dU hl,e];exact hi) j;rw[h2] at h;cases h
theorem LC{n Z:Nat}{A C:List (List Nat)}(hA:Wf n A)(hC:Wf Z C)(hl:A.length=C.length)(hn:A.length=n)(h0:0<n)(hr:(dh A).length=n):
 jF n A C=0∧Wf Z (jG n A C)∧(jG n A C).length=n∧∀i,i<n→∀j,(C.getD i []).getD j 0=dG (vO (A.getD i [])) (fun c=>((jG n A C).getD c []).getD j 0) n:=by
 have hA0:A≠[]:=fun e=>by rw[e] at hn;simp at hn;omega
 have hs:jF n A C=0:=by
  apply Classical.byContradiction;intro h;exact(Gx hA hl hA0 hr h).2 hn
 obtain⟨h1,h2,h3⟩:=Jw hA hC hl h0 hA0 hr hs;refine⟨hs,h2,h3,fun i hi j=> ?_⟩;have hX0:jG n A C≠[]:=fun e=>by rw[e] at h3;simp at h3;omega
 generalize jG n A C=X at*
 have e:(jd A X).getD i []=oG (wid X) (A.getD i []) X X.length:=by
  unfold jd;rw[af,List.getElem?_map,af,ag (by omega)];rfl
 rw[←h1,e,kU h2 hX0,h3];have:=(oq h2 h3 (A.getD i [])).2 j;rw[this];rfl
def gY(s:Int):Int:=IntKind.u64.wrap (IntKind.u64.wrap (s*6364136223846793005)+1442695040888963407)
def iR(s:Int):Int:=gY s/4294967296
theorem ME(s:Int):0≤gY s∧gY s<18446744073709551616:=by
 unfold gY;rw[IntKind.wrap_u64];omega
theorem oP(s:Int):0≤iR s∧iR s≤4294967295:=by
 have:=ME s;unfold iR;omega
theorem EH(s:Int):iR s%4294967296=iR s:=by
 have:=oP s;omega
theorem Hw(s:Int):gY s/4294967296%4294967296=iR s:=EH s
theorem Hy(s:Int)(w:World)(h0:0≤s)(h1:s≤4294967295):
 Calls prog 79 #[.int .u32 s] w fun e w'=>e=.returned (.pointer (some ⟨w.heap.size,0,none⟩))∧w.alloc (.cells #[.int .u64 s] 228)=w':=by
 go_enter func79,ntmps79;go_wp2;go_ret;exact⟨rfl,rfl⟩
theorem ww(s:Int)(p:Addr)(w:World)(hc:w.cell? p=some (.int .u64 s))(hf:w.frozen? p=false):
 Calls prog 80 #[.pointer (some p)] w fun e w'=>e=.returned (.int .u32 (iR s))∧w.setCell p (.int .u64 (gY s))=w':=by
 go_enter func80,ntmps80;go_wp2;go_ret;exact⟨congrArg (fun x=>Ending.returned (.int .u32 x)) (Hw s),rfl⟩
theorem sO(s:Int)(p:Addr)(w:World)(hc:w.cell? p=some (.int .u64 s))(hf:w.frozen? p=false):
 Calls prog 283 #[.pointer (some p)] w fun e w'=>e=.returned (.int .u32 (iR s))∧w.setCell p (.int .u64 (gY s))=w':=by
 go_enter func283,ntmps283;go_wp2;go_ret;exact⟨congrArg (fun x=>Ending.returned (.int .u32 x)) (Hw s),rfl⟩
theorem eF(w:World)(p:Addr)(v:Value)(h:w.cell? p=some v):w.setCell p v=w:=by
 obtain⟨b,o,sp⟩:=p;have hsp:sp=none:=World.cell?_spot h;subst hsp;obtain⟨heap,tape,drawn,os,output⟩:=w;simp only[World.setCell,World.mk.injEq,and_true];apply Array.ext_getElem?;intro i;rw[Array.getElem?_modify];split
 ·rename_i hi
  subst hi;simp only[World.cell?] at h;cases hb:heap[b]? with
  | none=>simp
  | some ob=>
    rw[hb] at h;cases ob with
    | cells c t fr=>
      simp at h;simp only[Option.map_some,Option.isSome_none];congr 2;apply Array.ext_getElem?;intro j;rw[if_neg (by simp),Array.getElem?_setIfInBounds];split
      ·rename_i hj;subst hj;split
       ·exact h.symm
       ·rename_i hh;rw[Array.getElem?_eq_none (by omega)] at h;cases h
      ·rfl
    | _=>simp
 ·rfl
def iT(s n:Int):Int:=if n≤0 then 0 else iR s%n
def Kj(s n:Int):Int:=if n≤0 then s else gY s
theorem oQ{s n:Int}(h:0<n):iT s n=iR s%n:=by unfold iT;rw[if_neg (by omega)]
theorem yT{s n:Int}(h:n≤0):iT s n=0:=by unfold iT;rw[if_pos h]
theorem Dv{s n:Int}(h:0<n):Kj s n=gY s:=by unfold Kj;rw[if_neg (by omega)]
theorem Dw{s n:Int}(h:n≤0):Kj s n=s:=by unfold Kj;rw[if_pos h]
theorem lZ(s n:Int):0≤iT s n∧iT s n≤4294967295:=by
 have:=oP s;unfold iT;split
 ·omega
 ·have h1:=Int.emod_nonneg (iR s) (show n≠0 by omega)
  have h2:=Int.emod_def (iR s) n;have h3:=Int.mul_nonneg (show 0≤n by omega) (Int.ediv_nonneg this.1 (show 0≤n by omega));omega
theorem sP(s n:Int)(p:Addr)(w:World)(hc:w.cell? p=some (.int .u64 s))(hf:w.frozen? p=false)(hn: -9223372036854775808≤n∧n≤9223372036854775807):
 Calls prog 154 #[.pointer (some p),.int .i64 n] w fun e w'=>e=.returned (.int .i64 (iT s n))∧w.setCell p (.int .u64 (Kj s n))=w':=by
 have hself:=ae (eF w p _ hc);by_cases h0:n≤0
 ·have hv:=ae (yT (s:=s) h0)
  have hs:=ae (Dw (s:=s) h0);go_enter func154,ntmps154;go_wp2_with fail;go_ret;rw[hv.out,hs.out,hself.out];exact⟨rfl,rfl⟩
 ·have hv:=ae (oQ (s:=s) (n:=n) (by omega))
  have hs:=ae (Dv (s:=s) (n:=n) (by omega));have ho:=oP s;have h1:=Int.emod_nonneg (iR s) (show n≠0 by omega);have h2:=Int.emod_lt_of_pos (iR s) (show 0<n by omega);go_enter func154,ntmps154;go_wp2_with fail;refine(ww s p _ hc hf).mono ?_;rintro e w1 ⟨rfl,rfl⟩;go_wp2_with fail;go_ret;rw[hv.out,hs.out];exact⟨rfl,rfl⟩
theorem qU(s n:Int)(p:Addr)(w:World)(hc:w.cell? p=some (.int .u64 s))(hf:w.frozen? p=false)(hn: -9223372036854775808≤n∧n≤9223372036854775807):
 Calls prog 316 #[.pointer (some p),.int .i64 n] w fun e w'=>e=.returned (.int .i64 (iT s n))∧w.setCell p (.int .u64 (Kj s n))=w':=by
 have hself:=ae (eF w p _ hc);by_cases h0:n≤0
 ·have hv:=ae (yT (s:=s) h0)
  have hs:=ae (Dw (s:=s) h0);go_enter func316,ntmps316;go_wp2_with fail;go_ret;rw[hv.out,hs.out,hself.out];exact⟨rfl,rfl⟩
 ·have hv:=ae (oQ (s:=s) (n:=n) (by omega))
  have hs:=ae (Dv (s:=s) (n:=n) (by omega));have ho:=oP s;have h1:=Int.emod_nonneg (iR s) (show n≠0 by omega);have h2:=Int.emod_lt_of_pos (iR s) (show 0<n by omega);go_enter func316,ntmps316;go_wp2_with fail;refine(sO s p _ hc hf).mono ?_;rintro e w1 ⟨rfl,rfl⟩;go_wp2_with fail;go_ret;rw[hv.out,hs.out];exact⟨rfl,rfl⟩
theorem sQ(n:Int)(w:World):
 Calls prog 154 #[.pointer none,.int .i64 n] w fun e w'=>e=.returned (.int .i64 0)∧w=w':=by
 go_enter func154,ntmps154;go_wp2_with fail;go_ret;exact⟨rfl,rfl⟩
def kC(l:List Nat)(i j:Nat):List Nat:=(l.set i (l.getD j 0)).set j (l.getD i 0)
theorem EO(l:List Nat)(i j:Nat):(kC l i j).length=l.length:=by simp[kC]
theorem getD_at{l:List Nat}{i:Nat}(h:i<l.length):l.getD i 0=l[i]:=by rw[af,ag h];rfl
theorem sW{l:List Nat}{i j:Nat}(hi:i<l.length)(hj:j<l.length):(kC l i j).Perm l:=by
 unfold kC;rw[getD_at hi,getD_at hj];exact List.set_set_perm hi hj
def bN(nl:Bool)(s n:Int):Nat:=if nl then 0 else (iT s n).toNat
def sN(nl:Bool)(s n:Int):Int:=if nl then s else Kj s n
theorem Ia{nl:Bool}{s n:Int}(h:0<n):(bN nl s n:Int)<n:=by
 unfold bN;split
 ·simpa using h
 ·have h1:=(lZ s n).1
  have h2:=Int.emod_lt_of_pos (iR s) h;rw[oQ h] at h1 ⊢;omega
def dE(nl:Bool)(n:Nat)(s:Int):Nat→Int | 0=>s | k+1=>sN nl (dE nl n s k) ((n:Int)-(k:Int))
def dR(nl:Bool)(n:Nat)(s:Int):Nat→List Nat | 0=>List.range n | k+1=>kC (dR nl n s k) k (k+bN nl (dE nl n s k) ((n:Int)-(k:Int)))
theorem eT(nl:Bool)(n:Nat)(s:Int)(k:Nat):(dR nl n s k).length=n:=by
 induction k with
 | zero=>exact List.length_range
 | succ k ih=>rw[dR,EO,ih]
theorem Bg{nl:Bool}{n:Nat}{s:Int}{k:Nat}(h:k<n):k+bN nl (dE nl n s k) ((n:Int)-(k:Int))<n:=by
 have:=Ia (nl:=nl) (s:=dE nl n s k) (n:=(n:Int)-(k:Int)) (by omega);omega
theorem nU{nl:Bool}{n:Nat}{s:Int}{k:Nat}(h:k≤n):(dR nl n s k).Perm (List.range n):=by
 induction k with
 | zero=>exact List.Perm.refl _
 | succ k ih=>exact(sW (by rw[eT];omega) (by rw[eT];exact Bg (by omega))).trans (ih (by omega))
def leB(x y:Nat):Bool:=decide (x≤y)
def DD(l:List Nat):Prop:=l.Pairwise (·≤ ·)
def chosen(nl:Bool)(n:Nat)(s:Int)(k:Nat):List Nat:=((dR nl n s k).take k).mergeSort leB
theorem fO(l:List Nat):(l.mergeSort leB).Perm l:=List.mergeSort_perm l leB
theorem yV(l:List Nat):DD (l.mergeSort leB):=by
 have h:=List.pairwise_mergeSort (le:=leB) (by intro a b c h1 h2;simp only[leB,decide_eq_true_eq] at*;omega) (by intro a b;simp only[leB,Bool.or_eq_true,decide_eq_true_eq];omega) l;exact h.imp fun h=>by simpa[leB] using h
theorem MG{l m:List Nat}(h:l.Perm m)(h1:DD l)(h2:DD m):l=m:=h.eq_of_pairwise (fun a b _ _ h3 h4=>Nat.le_antisymm h3 h4) h1 h2
theorem Ib{l m:List Nat}(h:l.Perm m)(h1:DD l):l=m.mergeSort leB:=MG (h.trans (fO m).symm) h1 (yV m)
theorem sZ{nl:Bool}{n:Nat}{s:Int}{k:Nat}(h:k≤n):(chosen nl n s k).length=k:=by
 rw[chosen,(fO _).length_eq,aI,eT];omega
theorem Bh{nl:Bool}{n:Nat}{s:Int}{k:Nat}(h:k≤n)(j:Nat):((dR nl n s k).take j).Nodup:=((nU h).nodup_iff.2 List.nodup_range).sublist (List.take_sublist _ _)
theorem EP{nl:Bool}{n:Nat}{s:Int}{k:Nat}(h:k≤n):∀x∈chosen nl n s k,x<n:=by
 intro x hx;have h1:=(fO _).mem_iff.1 hx;exact List.mem_range.1 ((nU h).mem_iff.1 (List.mem_of_mem_take h1))
theorem yX{nl:Bool}{n:Nat}{s:Int}{k:Nat}(h:k≤n):(chosen nl n s k).Pairwise (·< ·):=by
 have h1:(chosen nl n s k).Nodup:=(fO _).nodup_iff.2 (Bh h k);exact(List.Pairwise.and (yV _) h1).imp fun ⟨a,b⟩=>Nat.lt_of_le_of_ne a b
def Ins(L:List Nat)(i j:Nat)(P:List Nat):Prop:=∃(A B R:List Nat) (x:Nat),P=A++x :: (B++R)∧A.length=j∧j+B.length=i∧DD (A++B)∧(∀b∈B,x<b)∧P.Perm L
theorem Ins.start{L P:List Nat}{i:Nat}(h:i<P.length)(hs:DD (P.take i))(hp:P.Perm L):Ins L i i P:=
 ⟨P.take i,[],P.drop (i+1),P[i],by rw[List.nil_append,List.getElem_cons_drop,List.take_append_drop],by rw[aI];omega,rfl,by simpa using hs,by simp,hp⟩
theorem Ins.down{L P:List Nat}{i j:Nat}(h:Ins L i (j+1) P)(hlt:P.getD (j+1) 0<P.getD j 0):Ins L i j (kC P (j+1) j):=by
 obtain⟨A,B,R,x,rfl,hA,hB,hs,hb,hp⟩:=h
 obtain⟨A',a,rfl⟩:∃A' a,A=A'++[a]:=by
  rcases List.eq_nil_or_concat A with h | ⟨A',a,h⟩
  ·rw[h] at hA;simp at hA
  ·exact⟨A',a,by rw[h,List.concat_eq_append]⟩
 have hA':A'.length=j:=by simpa using hA
 have g1:(A'++[a]++x :: (B++R)).getD (j+1) 0=x:=by
  rw[af,List.getElem?_append_right (by simp;omega)];simp[hA']
 have g0:(A'++[a]++x :: (B++R)).getD j 0=a:=by
  rw[af,List.append_assoc,List.getElem?_append_right (by omega)];simp[hA']
 rw[g1,g0] at hlt
 have e:kC (A'++[a]++x :: (B++R)) (j+1) j=A'++x :: (a :: B++R):=by
  unfold kC;rw[g1,g0,List.set_append_right _ _ (by simp;omega)];have:j+1-(A'++[a]).length=0:=(by simp;omega);rw[this,List.set_cons_zero,List.append_assoc,List.set_append_right _ _ (by omega),hA',Nat.sub_self];rfl
 have hlen:(A'++[a]++x :: (B++R)).length=j+1+1+(B++R).length:=by simp;omega
 refine⟨A',a :: B,R,x,e,hA',by simp;omega,by simpa using hs,?_,(sW (by omega) (by omega)).trans hp⟩;intro b hb';rcases List.mem_cons.1 hb' with rfl | h
 ·exact hlt
 ·exact hb b h
theorem Ins.stop{L P:List Nat}{i j:Nat}(h:Ins L i j P)(hge:j=0∨P.getD (j-1) 0≤P.getD j 0):DD (P.take (i+1))∧P.Perm L:=by
 obtain⟨A,B,R,x,rfl,hA,hB,hs,hb,hp⟩:=h;refine⟨?_,hp⟩
 have e:(A++x :: (B++R)).take (i+1)=A++x :: B:=by
  have:A++x :: (B++R)=(A++x :: B)++R:=(by simp);rw[this,List.take_left' (by simp;omega)]
 rw[e];have hs':=List.pairwise_append.1 hs;refine List.pairwise_append.2 ⟨hs'.1,List.pairwise_cons.2 ⟨fun b h=>Nat.le_of_lt (hb b h),hs'.2.1⟩,fun a ha b hbm=> ?_⟩
 have hax:a≤x:=by
  rcases hge with h0 | hge
  ·have:A=[]:=List.eq_nil_of_length_eq_zero (by omega)
   rw[this] at ha;cases ha
  ·rcases List.eq_nil_or_concat A with h | ⟨A',a',h⟩
   ·rw[h] at ha;cases ha
   ·rw[List.concat_eq_append] at h
    subst h;have hj:A'.length+1=j:=by simpa using hA
    have g1:(A'++[a']++x :: (B++R)).getD j 0=x:=by
     rw[af,List.getElem?_append_right (by simp;omega)];simp[←hj]
    have g0:(A'++[a']++x :: (B++R)).getD (j-1) 0=a':=by
     rw[af,List.append_assoc,List.getElem?_append_right (by omega)];simp[←hj]
    rw[g1,g0] at hge;have h2:=List.pairwise_append.1 hs'.1;rcases List.mem_append.1 ha with h3 | h3
    ·exact aQ (h2.2.2 a h3 a' (List.mem_singleton.2 rfl)) hge
    ·rw[List.mem_singleton.1 h3];exact hge
 rcases List.mem_cons.1 hbm with rfl | h
 ·exact hax
 ·exact aQ hax (Nat.le_of_lt (hb b h))
def nQ(l:Nat):Nat→Nat→Nat | r,0=>r | r,f+1=>if r*r<l then nQ l (r+1) f else r
def dH(l:Nat):Nat:=nQ l 0 9
def He(l k:Nat):Nat:=if 1<k then 1048576/(k*(k-1)) else 1048576/l
def yN(l k:Nat):Nat:=
 if k<l/dH l then He l k+1048576*dH l/(l*k)
 else if k=l/dH l then He l k+1048576*dH l*Lib.bitLen (dH l)/l
 else He l k
def fN(l:Nat):Nat→Nat | 0=>0 | k+1=>fN l k+yN l (k+1)
def gG(l:Nat):List Nat:=(List.range l).map fun i=>fN l (i+1)
theorem eC(l:Nat):(gG l).length=l:=by simp[gG]
theorem jc{l i:Nat}(h:i<l):(gG l).getD i 0=fN l (i+1):=by
 simp[gG,h]
theorem xw{l k:Nat}(h:k<l):(gG l).take (k+1)=(gG l).take k++[fN l (k+1)]:=by
 have hk:k<(gG l).length:=by rw[eC];exact h
 rw[aP hk];congr 2;have:=jc h;rw[af,ag hk] at this;exact this
def NJ(l:Nat):Bool:=decide (1≤dH l∧dH l≤8∧l≤dH l*dH l∧Lib.bitLen (dH l)≤4)
theorem Dr:((List.range 65).all fun l=>l == 0 || NJ l)=true:=by decide +kernel
theorem Ex{l:Nat}(h1:1≤l)(h2:l≤64):1≤dH l∧dH l≤8∧Lib.bitLen (dH l)≤4:=by
 have:=List.all_eq_true.1 Dr l (List.mem_range.2 (by omega));rw[Bool.or_eq_true] at this;rcases this with h | h
 ·have:=of_decide_eq_true h;omega
 ·have:=of_decide_eq_true h;exact⟨this.1,this.2.1,this.2.2.2⟩
def okTab(l:Nat):Bool:=(List.range l).all fun i=>decide (1≤yN l (i+1)∧fN l (i+1)<8388608∧(1≤i→i+1≠l/dH l→yN l (i+1)≤yN l 2))
theorem Hf:((List.range 65).all okTab)=true:=by decide +kernel
theorem Ke{l i:Nat}(h2:l≤64)(hi:i<l):1≤yN l (i+1)∧fN l (i+1)<8388608∧(1≤i→i+1≠l/dH l→yN l (i+1)≤yN l 2):=
 of_decide_eq_true (List.all_eq_true.1 (List.all_eq_true.1 Hf l (List.mem_range.2 (by omega))) i (List.mem_range.2 hi))
theorem sum_lt{l k:Nat}(h2:l≤64)(hk:k≤l):fN l k<8388608:=by
 cases k with
 | zero=>show 0<8388608;decide
 | succ k=>exact(Ke h2 hk).2.1
theorem AV{l k:Nat}(h2:l≤64)(hk:k<l):fN l k<fN l (k+1):=by
 have:=(Ke h2 hk).1;show fN l k<fN l k+yN l (k+1);omega
theorem vB{l:Nat}(h2:l≤64):∀ {j k:Nat},k≤l→j≤k→fN l j≤fN l k:=by
 intro j k
 induction k with
 | zero=>intro _ h;rw[show j=0 by omega];exact ah _
 | succ k ih=>
   intro hk h;by_cases e:j=k+1
   ·rw[e];exact ah _
   ·have:=ih (by omega) (by omega)
    have:=AV h2 (k:=k) (by omega);omega
def eD(l:Int):List Nat:=if 1≤l∧l≤64 then gG l.toNat else []
theorem sF{l:Nat}(h:1≤l∧l≤64):eD l=gG l:=by unfold eD;rw[if_pos (by omega),Int.toNat_natCast]
theorem AX{l:Int}(h:l<1∨64<l):eD l=[]:=by unfold eD;rw[if_neg (by omega)]
def AZ(xs:List Nat)(x:Int):Nat→Nat→Nat
 | _,0=>0
 | i,f+1=>if x<(xs.getD i 0:Int) then i+1 else AZ xs x (i+1) f
def ng(xs:List Nat)(x:Int):Nat:=if xs=[]∨x<0∨(xs.getD (xs.length-1) 0:Int)≤x then 0 else AZ xs x 0 xs.length
def rH(xs:List Nat)(x:Int):Nat:=if x<0 then 0 else AZ xs x 0 xs.length
theorem Kg{xs:List Nat}{x:Int}:∀f i,(∀j,i≤j→j<i+f→(xs.getD j 0:Int)≤x)→AZ xs x i f=0:=by
 intro f
 induction f with
 | zero=>intro i _;rfl
 | succ f ih=>
   intro i h;rw[AZ,if_neg (by have:=h i (ah _) (by omega);omega)];exact ih (i+1) fun j h1 h2=>h j (by omega) (by omega)
theorem Kh{xs:List Nat}{x:Int}:∀f i k,i≤k→k<i+f→(∀j,i≤j→j<k→(xs.getD j 0:Int)≤x)→x<(xs.getD k 0:Int)→AZ xs x i f=k+1:=by
 intro f
 induction f with
 | zero=>intro i k h1 h2;omega
 | succ f ih=>
   intro i k h1 h2 h3 h4;rw[AZ];by_cases e:i=k
   ·subst e;rw[if_pos h4]
   ·rw[if_neg (by have:=h3 i (ah _) (by omega);omega)]
    exact ih (i+1) k (by omega) (by omega) (fun j a b=>h3 j (by omega) b) h4
theorem Mc{l:Nat}(h2:l≤64)(x:Int):ng (gG l) x=rH (gG l) x:=by
 unfold ng rH;rw[eC];by_cases hx:x<0
 ·rw[if_pos (.inr (.inl hx)),if_pos hx]
 ·rw[if_neg hx]
  by_cases h0:l=0
  ·subst h0;rw[if_pos (.inl rfl)];rfl
  ·by_cases hl:((gG l).getD (l-1) 0:Int)≤x
   ·rw[if_pos (.inr (.inr hl))]
    refine(Kg l 0 fun j _ hj=> ?_).symm;rw[jc (by omega)];rw[jc (by omega),show l-1+1=l by omega] at hl;have:=vB h2 (j:=j+1) (k:=l) (ah _) (by omega);omega
   ·rw[if_neg]
    rintro(h | h | h)
    ·have:=congrArg List.length h;rw[eC] at this;exact h0 this
    ·exact hx h
    ·exact hl h
theorem Ey(x:Int):ng [] x=0∧rH [] x=0:=⟨by unfold ng;rw[if_pos (.inl rfl)],by unfold rH;split <;> rfl⟩
theorem Ki(l x:Int):ng (eD l) x=rH (eD l) x:=by
 unfold eD;split
 ·exact Mc (by omega) x
 ·rw[(Ey x).1,(Ey x).2]
theorem Me{l k:Nat}(h2:l≤64)(hk:k<l){x:Int}(h0:(fN l k:Int)≤x)(h1:x<(fN l (k+1):Int)):ng (gG l) x=k+1:=by
 have hl:fN l (k+1)≤fN l l:=vB h2 (ah _) hk;unfold ng;rw[eC,if_neg]
 ·refine Kh l 0 k (Nat.zero_le _) (by omega) (fun j _ hj=> ?_) ?_
  ·rw[jc (by omega)]
   have:=vB h2 (j:=j+1) (k:=k) (by omega) hj;omega
  ·rw[jc hk];exact h1
 ·rintro(h | h | h)
  ·have:=congrArg List.length h;rw[eC] at this;simp at this;omega
  ·omega
  ·rw[jc (by omega),show l-1+1=l by omega] at h;omega
theorem Mf{l:Nat}(h1:1≤l)(h2:l≤64){x:Int}(h0:0≤x)(hx:x<(fN l l:Int)):1≤ng (gG l) x∧ng (gG l) x≤l:=by
 have:∀n,n≤l→x<(fN l n:Int)→∃k,k<n∧(fN l k:Int)≤x∧x<(fN l (k+1):Int):=by
  intro n
  induction n with
  | zero=>intro _ h;simp[fN] at h;omega
  | succ n ih=>
    intro hn h;by_cases hc:(fN l n:Int)≤x
    ·exact⟨n,by omega,hc,h⟩
    ·obtain⟨k,a,b,c⟩:=ih (by omega) (by omega)
     exact⟨k,by omega,b,c⟩
 obtain⟨k,a,b,c⟩:=this l (ah _) hx;rw[Me h2 a b c];omega
end Go.Proofs.YtofgapdnadbgkaaGreatDoor
