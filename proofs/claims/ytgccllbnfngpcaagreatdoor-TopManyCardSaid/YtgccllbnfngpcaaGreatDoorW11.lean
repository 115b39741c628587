import Derived.Test.YtgccllbnfngpcaaGreatDoorW10
set_option linter.unusedVariables false
set_option maxRecDepth 100000
set_option maxHeartbeats 400000000
namespace Go.Proofs.YtgccllbnfngpcaaGreatDoor
open Go.RowKit _root_.Go.Proofs.Tryz List
open Value (int slice pointer bool)
open IntKind (i64)
open Ending (returned)
open Obj (cells)
def zr(kn:Nat->Bool)(W K:Nat->List Nat):Nat->List Nat:=fun c=>if kn c then K c else W c
theorem D9{D i:Nat}(hi:i<D){v:Nat->Nat->Nat}(hv:∀i j,v i j<256)(j:Nat):comes D v (dS D i) j=v i j:=by
 unfold comes
 have e:vO (dS D i)=fun k=>if k=i then 1 else 0:=funext fun k=>by
  show(dS D i).getD k 0=_;rw[mF];by_cases h:k=i
  ·rw[bf ⟨h,hi⟩,bf h]
  ·rw[bg (fun h2=>h h2.1),bg h]
 rw[e,kw _ (fun k=>hv k j),bf hi]
theorem qM(Z j:Nat):(replicate Z 0).getD j 0=0:=by rw[af,List.getElem?_replicate];split <;> rfl
theorem Io{n D Z:Nat}{kn:Nat->Bool}{l:List (List Nat)}{St:List (Nat×Nat)}{De Le:List Nat}(P:zF n kn l St De Le)(hD:De.length=D)(hl:∀r,(l.getD r []).Nodup){m:Nat->List Nat}(hm:∀c,c<n->Byt Z (m c))
 {z vl W0 M0:Nat->List Nat}(hz:∀r,r<l.length->Byt Z (z r)/\∀j,sX (fun c j=>(m c).getD j 0) j (l.getD r [])=(z r).getD j 0)(hvl:∀c,c<n->kn c=true->vl c=m c)
 (h0:∀i,i<D->W0 (De.getD i 0)=dS D i/\M0 (De.getD i 0)=replicate Z 0){X:List (List Nat)}(hX:X=De.map m):
 ∀c,c<n->Byt D (zr kn (df l (fun _=>replicate D 0) W0 St) (fun _=>replicate D 0) c)/\Byt Z (zr kn (df l z M0 St) vl c)/\
  ∀j,(m c).getD j 0=comes D (fun i j=>(X.getD i []).getD j 0) (zr kn (df l (fun _=>replicate D 0) W0 St) (fun _=>replicate D 0) c) j ^^^ (zr kn (df l z M0 St) vl c).getD j 0:=by
 intro c hc
 have hv:∀i j:Nat,(X.getD i []).getD j 0<256:=fun i j=>by
  rcases bq i X.length with h | h
  ·refine getD_lt ?_ j
   have hi:i<De.length:=(by rw[hX,aC] at h;exact h);have e:X.getD i []=m De[i]:=(by rw[hX,af,List.getElem?_map,ag hi];rfl);rw[e];exact(hm _ (P.bd _ (.inr (aP hi)))).2
  ·have e:X.getD i []=[]:=by rw[af,List.getElem?_eq_none h];rfl
   rw[e];show(0:Nat)<256;decide
 unfold zr;cases hk:kn c with
 | true=>
   rw[bf rfl,bf rfl];refine⟨Byt.zero D,by rw[hvl c hc hk];exact hm c hc,fun j=> ?_⟩;rw[jT,Nat.zero_xor,hvl c hc hk]
 | false=>
   rw[bg (by decide),bg (by decide)];have hw:=LV (D:=D) (Z:=Z) (W0:=W0) (M0:=M0) (z:=z) P.step hl (fun c j=>(m c).getD j 0) (fun i j=>(X.getD i []).getD j 0) hv (fun r hr=>(hz r hr).1) (fun r j hr=>(hz r hr).2 j) (fun d hd=> ?_) St.length (ah _) c ?_
   ·rw[take_length] at hw
    exact hw
   ·obtain⟨i,hi,rfl⟩:=bC hd
    have ei:De.getD i 0=De[i]:=(by rw[af,ag hi];rfl);obtain⟨h1,h2⟩:=h0 i (by omega);rw[ei] at h1 h2;rw[h1,h2];refine⟨⟨gZ _ _,nu _ _⟩,Byt.zero Z,fun j=> ?_⟩;rw[D9 (by omega) hv,qM,Nat.xor_zero];have e:X.getD i []=m De[i]:=(by rw[hX,af,List.getElem?_map,ag hi];rfl);rw[e]
   ·rw[take_length]
    exact((P.all c hc).1 hk).symm
theorem Ea{n Z:Nat}{l:List (List Nat)}{Le:List Nat}{M z:Nat->List Nat}{PR:List (List Nat)}{m:Nat->Nat->Nat}(hMb:∀c,c<n->Byt Z (M c))(hm:∀c,c<n->∀j,m c j=(M c).getD j 0)
 (hlk:∀r∈Le,∀c∈l.getD r [],c<n)(hz:∀r∈Le,Byt Z (z r))(hrow:∀r∈Le,∀j,sX m j (l.getD r [])=(z r).getD j 0)
 (hPR:Wf n PR)(hpre:∀row∈PR,∀j,dO (vO row) (fun c=>m c j) n=0):
 ∀b∈Le.map (fun r=>bP M (l.getD r []) (z r))++PR.map fun row=>dH M row (replicate Z 0) n,b=replicate Z 0:=by
 intro b hb;rcases bz.1 hb with hb | hb
 ·obtain⟨r,hr,rfl⟩:=aW.1 hb
  have h1:∀c∈l.getD r [],(M c).length=Z:=fun c hc=>(hMb c (hlk r hr c hc)).1;refine jh (by rw[eU (hz r hr).1 h1,aI]) fun j=> ?_;rw[jo j (hz r hr).1 h1,<-hrow r hr j,qM];have e:sX m j (l.getD r [])=sX (fun c j=>(M c).getD j 0) j (l.getD r []):=mf fun c hc=>hm c (hlk r hr c hc) j;rw[e,Nat.xor_self]
 ·obtain⟨row,hr,rfl⟩:=aW.1 hb
  have h1:∀c,c<n->(M c).length=Z:=fun c hc=>(hMb c hc).1;refine jh (by rw[(fH (Byt.zero Z) n h1).1,aI]) fun j=> ?_;rw[AV (hPR row hr).2 j n h1,qM];refine Eq.trans ?_ (hpre row hr j)
  have:∀k,k<=n->dO (vO row) (fun c=>(M c).getD j 0) k=dO (vO row) (fun c=>m c j) k:=by
   intro k
   induction k with
   | zero=>intro _;rfl
   | succ k ih=>intro hk;show dO _ _ k ^^^ fm (vO row k) ((M k).getD j 0)=dO _ _ k ^^^ fm (vO row k) (m k j);rw[ih (by omega),hm k (by omega) j]
  exact this n (ah _)
theorem Ip{Z:Nat}{M:Nat->List Nat}{row z:List Nat}(hz:z.length=Z)(j:Nat):∀k,(∀c,c<k->(M c).length=Z)->(dH M row z k).length=Z/\(dH M row z k).getD j 0=z.getD j 0 ^^^ dO (vO row) (fun c=>(M c).getD j 0) k:=by
 intro k
 induction k with
 | zero=>intro _;exact⟨hz,(Nat.xor_zero _).symm⟩
 | succ k ih=>
   intro h;obtain⟨h1,h2⟩:=ih fun c hc=>h c (by omega);have h3:(jS (row.getD k 0) (M k)).length=Z:=(by rw[lV];exact h k (by omega));refine⟨?_,?_⟩
   ·show(xr (dH M row z k) (jS (row.getD k 0) (M k))).length=Z
    rw[jQ (by rw[h1,h3])];exact h1
   ·show(xr (dH M row z k) (jS (row.getD k 0) (M k))).getD j 0=_
    rw[mb (by rw[h1,h3]),h2,jk,Nat.xor_assoc];rfl
theorem La{D Z:Nat}{X:List (List Nat)}{w z mc:List Nat}(hX:Wf Z X)(hl:X.length=D)(hz:z.length=Z)(hmc:mc.length=Z)(h:∀j,mc.getD j 0=comes D (fun i j=>(X.getD i []).getD j 0) w j ^^^ z.getD j 0):dH (fun i=>X.getD i []) w z D=mc:=by
 have hb:∀c,c<D->(X.getD c []).length=Z:=fun c hc=>(hX.get (by omega)).1;have hall:=fun j=>Ip (M:=fun i=>X.getD i []) (row:=w) hz j D hb;refine jh (by rw[(hall 0).1,hmc]) fun j=> ?_;rw[(hall j).2,h j,Nat.xor_comm];rfl
def bY(l:List Bool):List Value:=l.map Value.bool
theorem lX(l:List Bool):(bY l).length=l.length:=aC _
theorem tF{w:World}{B:Nat}{a:Option Addr}{n:Nat}{l:List Bool}(h:Rd w B a n (bY l)){i:Nat}(hi:i<n):∃b o,a=some ⟨b,o,none⟩/\b<B/\w.cell? ⟨b,o+i,none⟩=some (bool (l.getD i false)):=by
 have hl:l.length=n:=by have:=h.len;rwa [lX] at this
 obtain⟨b,o,e,hb,hc⟩:=h.2 (by omega);exact⟨b,o,e,hb,hc i _ (by unfold bY;rw[List.getElem?_map,af,ag (by omega)];rfl)⟩
def dJ(kn:List Bool)(cols:List Nat):List Nat:=cols.filter fun c=> !kn.getD c false
def lY(kn:List Bool)(cols:List Nat):List Nat:=cols.filter fun c=>kn.getD c false
theorem Bq{kn:List Bool}{cols:List Nat}{k:Nat}(h:k<cols.length):dJ kn (cols.take (k+1))=if kn.getD (cols.getD k 0) false then dJ kn (cols.take k) else dJ kn (cols.take k)++[cols.getD k 0]:=by
 unfold dJ;rw[aN h,filter_append,af (l:=cols),ag h];show _++List.filter _ [cols[k]]=if kn.getD cols[k] false then _ else _++[cols[k]];cases hk:kn.getD cols[k] false with
 | true=>rw[filter_cons,hk];simp
 | false=>rw[filter_cons,hk];simp
theorem KX{kn:List Bool}{cols:List Nat}{k:Nat}(h:k<cols.length):lY kn (cols.take (k+1))=if kn.getD (cols.getD k 0) false then lY kn (cols.take k)++[cols.getD k 0] else lY kn (cols.take k):=by
 unfold lY;rw[aN h,filter_append,af (l:=cols),ag h];show _++List.filter _ [cols[k]]=if kn.getD cols[k] false then _++[cols[k]] else _;cases hk:kn.getD cols[k] false with
 | true=>rw[filter_cons,hk];simp
 | false=>rw[filter_cons,hk];simp
theorem OwnB.atA{w:World}{C n c i:Nat}{a:Option Addr}{l:List Nat}(h:OwnB w C (slice a n c) l)(hl:l.length=n)(hi:i<n):
 ∃g,a=some ⟨g,0,none⟩/\C<=g/\g<w.heap.size/\w.cell? ⟨g,i,none⟩=some (.int .u8 (l.getD i 0:Nat))/\w.frozen? ⟨g,i,none⟩=false/\∀x:Nat,OwnB (w.setCell ⟨g,i,none⟩ (.int .u8 (x:Int))) C (slice a n c) (l.set i x):=by
 unfold OwnB at h ⊢;rw[hl] at h;obtain⟨g,cap,e,h1,h2⟩:=World.ownsRow.form h (by omega);injection e with e e2 e3;subst e e3;refine⟨g,rfl,h1,h2,(h.cellAt i (by omega)).trans (dX (by omega)),h.frozenAt i,fun x=> ?_⟩;rw[length_set,hl,<-ub];exact(h.stored i _).1
theorem nN{w:World}{ops:Array Oper}{rest:List Oper}{o:Oper}{a:Act}{Q:Exit->Act->World->Prop}(hgd:o.guard=none)(s x:Operand){C y:Nat}{i:Int}{v:Value}{xs:List Nat}(hi:i=(y:Int))
 (ho:o.op=.call { callee:=.builtin .append,args:=#[s,x],argTypes:=#[22,22] })
 (h:OwnI w C v xs)(hC:C<=w.heap.size)(hl:xs.length<=1000000)(hs:a.eval s=v)(hx:a.eval x=slice (some ⟨w.heap.size,0,none⟩) 1 1)
 (K:∀v' w2,OwnI w2 C v' (xs++[y])->Below C w w2->w.heap.size<=w2.heap.size->(∀b,b<w.heap.size->some b≠v.ownBlock->w2.heap[b]? =w.heap[b]?)->(v'.ownBlock=v.ownBlock\/∃b,v'.ownBlock=some b/\w.heap.size<=b)->wpList prog ops Q rest (a.put o.dst v') w2):
 wpList prog ops Q (o :: rest) a (w.alloc (cells #[int i64 i] 3)):=by
 subst hi;have hba:=(az w.heap.size w).alloc (ah _) (cells #[int i64 (y:Int)] 3);have h1:OwnI (w.alloc (cells #[int i64 (y:Int)] 3)) C v xs:=fQ h hba;have hC1:=aO hC hba.size;have hcell:=dZ w #[int i64 (y:Int)] 3 0;have hbC:=hba.mono hC;generalize w.alloc (cells #[int i64 (y:Int)] 3)=w1 at*;refine jN (P:=prog) w1 hgd s x 22 ho C 3 (int i64 0) 8 underlying22 dY rfl v xs.length (bG xs) hs h1 w.heap.size (int i64 (y:Int)) hx hcell rfl (by omega) (by unfold maxLen;omega) hC1 fun v' w2 hown hg hat=> ?_;refine K v' w2 ?_ (hbC.trans ((az _ _).grown hg hC1 fun g hg=>(World.ownsRow.lt h1 g hg).1)) (aO hba.size hg.size) (fun b hb hne=>(hg.block b (aU hb hba.size) hne).trans (hba.block b hb)) (hat.elim .inl fun e=>.inr ⟨_,e,hba.size⟩);unfold OwnI;rw[aH];have e:bG (xs++[y])=bG xs++[int i64 (y:Int)]:=by unfold bG;rw[aQ];rfl
 rw[e];exact hown
theorem tG{w:World}{C e n g:Nat}{v:Value}{xs:List Value}(h:w.ownsRow C e 1 v n xs){t:TypeId}{cs:Array Value}(hb:Blk w g t cs)(hne:t≠e):some g≠v.ownBlock:=by
 intro e1;rcases h.2 with⟨rfl,_⟩ | ⟨g',cap,cur,rfl,_,hg,_⟩
 ·simp[Value.ownBlock] at e1
 ·simp[Value.ownBlock] at e1
  subst e1;have h2:w.heap[g]? =some (.cells cs t (0,0)):=hb;rw[hg] at h2;injection h2 with h2;injection h2 with _ h3;exact hne h3.symm
theorem bZ{w w':World}{C e n:Nat}{v:Value}{xs:List Value}(h:w.ownsRow C e 1 v n xs)(hk:∀b,v.ownBlock=some b->w'.heap[b]? =w.heap[b]?):w'.ownsRow C e 1 v n xs:=by
 refine⟨h.1,?_⟩;rcases h.2 with h2 | ⟨g,cap,cur,rfl,hg,hh,r⟩
 ·exact .inl h2
 ·exact .inr ⟨g,cap,cur,rfl,hg,(hk g rfl).trans hh,r⟩
theorem xY(g n q Z:Nat)(sl:Value)(ak av ac ad:Option Addr)(ck cv cc cd:Nat)(kn:List Bool)(vl:List (List Nat))(cols d:List Nat)(w:World)
 (hg:Blk w g 353 #[sl,slice ak n ck,slice av n cv])(hk:Rd w w.heap.size ak n (bY kn))(hv:RdM w w.heap.size av n vl)
 (hc:Rd w w.heap.size ac q (bG cols))(hd:Rd w w.heap.size ad Z (bF d))(hnil:ad=none->cd=0)(hZ:Z<=1000)(hq:q<=1000)(hn:n<=1000)
 (hcn:∀c∈cols,c<n)(hvl:∀c∈cols,kn.getD c false=true->(vl.getD c []).length=Z/\By (vl.getD c []))(hby:By d):
 Calls prog 293 #[pointer (some ⟨g,0,none⟩),.agg #[slice ac q cc,slice ad Z cd]] w fun e w'=>
  ∃v1 v2,e=returned (.agg #[v1,v2])/\OwnI w' w.heap.size v1 (dJ kn cols)/\OwnB w' w.heap.size v2 (bP (fun c=>vl.getD c []) (lY kn cols) d)/\Below w.heap.size w w':=by
 have hdl:d.length=Z:=by have:=hd.len;rwa [bI] at this
 have hcl:cols.length=q:=by have:=hc.len;simpa[bG] using this
 have hglt:=hg.lt;obtain⟨w0,hw0⟩:∃w0,w0=(w.alloc (cells #[slice ac q cc,slice ad Z cd] 286)).alloc (cells #[slice none 0 0,slice none 0 0] 286):=⟨_,rfl⟩
 have S0:Hid (Sx w w0 [bQ (w.heap.size+1) 286 #[slice none 0 0,slice none 0 0],bQ w.heap.size 286 #[slice ac q cc,slice ad Z cd],bQ g 353 #[sl,slice ak n ck,slice av n cv],kT ak n (bY kn),uH av n vl,kT ac q (bG cols),kT ad Z (bF d)]):=by
  rw[hw0];have h1:=((((((Sx.nil w).add (kT ad Z (bF d)) hd).add (kT ac q (bG cols)) hc).add (uH av n vl) hv).add (kT ak n (bY kn)) hk).add (bQ g _ _) hg);have h2:=(h1.alloc (cells #[slice ac q cc,slice ad Z cd] 286)).add (bQ w.heap.size _ _) (Blk.new w _ _);have h3:=(h2.alloc (cells #[slice none 0 0,slice none 0 0] 286)).add (bQ _ _ _) (Blk.new _ _ _);have e:(w.alloc (cells #[slice ac q cc,slice ad Z cd] 286)).heap.size=w.heap.size+1:=(by simp);rw[e] at h3;exact ae h3
 have hsz0:w0.heap.size=w.heap.size+2:=by rw[hw0];simp
 have HCN:=ae hcn;have HVL:=ae hvl;have HBY:=ae hby;have HDL:=ae hdl;have HCL:=ae hcl;clear hg hk hv hc hd hcn hvl hby hdl hcl;go_enter func293,ntmps293;go_wp2_with fail;rw[<-hw0];clear hw0;refine(dP d _ ad Z cd w0 (S0.out.rd 6 rfl) (ah _) hnil (by omega)).mono ?_;rintro e w1 ⟨v,rfl,hO,hb⟩;obtain⟨a2,c2,rfl,-⟩:=hO.rd2 HDL.out;have HO:=ae hO;have HB:=ae hb;clear hO hb;have S1:=ae (S0.out.step HB.out);have hs01:=HB.out.size;have e0:w1.cell? ⟨w.heap.size,0,none⟩=some (slice ac q cc):=(S1.out.blk 1 rfl).cell 0;have hlt1:w.heap.size<w1.heap.size:=by omega
 have HSZ:=ae hsz0;clear hsz0;have HK0:=ae (Blk.new w1 286 #[slice none 0 0,slice a2 Z c2]);have hba:=(az w1.heap.size w1).alloc (ah _) (cells #[slice none 0 0,slice a2 Z c2] 286);have HB2:=ae (HB.out.trans (hba.mono hs01));have HO2:=ae (HO.out.below hba);have hsz2:(w1.alloc (cells #[slice none 0 0,slice a2 Z c2] 286)).heap.size=w1.heap.size+1:=by simp
 clear hba HO HB;go_upto_region 3 with fail;clear e0 S1;generalize w1.alloc (cells #[slice none 0 0,slice a2 Z c2] 286)=w2 at*;generalize hGe:w1.heap.size=G at*;clear hGe hsz2;have HQ0:Hid (∃v1:Value,Blk w2 G 286 #[v1,slice a2 Z c2]/\OwnI w2 w0.heap.size v1 (dJ kn (cols.take 0))/\OwnB w2 w0.heap.size (slice a2 Z c2) (bP (fun c=>vl.getD c []) (lY kn (cols.take 0)) d)):=ae ⟨_,HK0.out,OwnI.nil _ _,HO2.out⟩;clear HK0 HO2;go_wp2_with fail;go_loopw [17] (fun i wr=>∃k:Nat,k<=q/\i=int i64 k/\Hid (∃v1:Value,Blk wr G 286 #[v1,slice a2 Z c2]/\OwnI wr w0.heap.size v1 (dJ kn (cols.take k))/\OwnB wr w0.heap.size (slice a2 Z c2) (bP (fun c=>vl.getD c []) (lY kn (cols.take k)) d))/\Hid (Below w0.heap.size w0 wr)) (fun i _=>q-(intOf i).toNat)
 case atStart=>exact⟨0,by omega,rfl,HQ0,HB2⟩
 case round=>
  clear HQ0 HB2;obtain⟨k,hkq,rfl,HQ,HB⟩:=hrel;have S1:=ae (S0.out.step HB.out);obtain⟨v1,hK,hO1,hO2⟩:=HQ.out;obtain⟨a1,n1,c1,rfl⟩:=hO1.sl;have HK:=ae hK;have HO1:=ae hO1;have HO2:=ae hO2;clear hK hO1 hO2 HQ;have p1:=(S1.out.blk 2 rfl).cell 1;have p2:=(S1.out.blk 2 rfl).cell 2;by_cases hlt:k<q
  ·have hltI:(k:Int)<(q:Int):=by omega
   have hkl:k<cols.length:=(by rw[HCL.out];exact hlt);obtain⟨bc,oc,rfl,hbc,hcc⟩:=iz (S1.out.rd 5 rfl) hlt;have hcm:cols.getD k 0∈cols:=(by rw[getD_at hkl];exact aP hkl);have hcx:cols.getD k 0<n:=HCN.out _ hcm;have hvx:=HVL.out _ hcm;obtain⟨bk,ok,rfl,hbk,hkc⟩:=tF (S1.out.rd 3 rfl) hcx;have HU:=ae (Bq (kn:=kn) hkl);have HN:=ae (KX (kn:=kn) hkl);have hcxI:((cols.getD k 0:Nat):Int)<(n:Int):=(by omega);have hul:(dJ kn (cols.take k)).length<=1000000:=aO (length_filter_le _ _) (by rw[aG];omega);have hwr:=HB.out.size;clear hkl hcm;generalize cols.getD k 0=x at*;cases hkx:kn.getD x false with
   | false=>
     rw[hkx] at hkc HU HN;rw[bg (by decide)] at HU HN;have hG0:=HK.out.cell 0;have hG1:=HK.out.frozen 0;have hGl:=HK.out.lt;clear hvx hkx
     go_wp2_with (at_builtin;refine nN (w:=wr) (y:=x) rfl _ _ ?hi rfl HO1.out hwr hul rfl rfl ?_)
     case hi=>first | rfl | trivial
     intro v3 w3 hO3 hb3 hs3 hk3 hat3;have hne:some G≠(Value.slice a1 n1 c1).ownBlock:=tG HO1.out HK.out (by decide);have HK3:Hid (Blk w3 G 286 #[slice a1 n1 c1,slice a2 Z c2]):=ae ((hk3 G hGl hne).trans HK.out)
     have h23:OwnB w3 w0.heap.size (slice a2 Z c2) (bP (fun c=>vl.getD c []) (lY kn (cols.take k)) d):=bZ HO2.out fun b hb=>hk3 b (World.ownsRow.lt HO2.out b hb).2 (fun e=>by
      rcases own_ne HO2.out HO1.out (by decide) with h | h
      ·rw[hb] at h;cases h
      ·exact h (hb.trans e))
     have HO23:=ae h23;rw[<-HU.out] at hO3;have HO3:=ae hO3;have HB3:=ae (HB.out.trans hb3);obtain⟨a3,n3,c3,rfl⟩:=HO3.out.sl;have hne3:(Value.slice a3 n3 c3).ownBlock≠some G:=(tG HO3.out HK3.out (by decide)).symm;clear hk3 hb3 hat3 h23 hO3 HO1 HO2 HK HB hG0 hG1 hne S1 p1 p2 hkc hcc;have hG0:=HK3.out.cell 0;have hG1:=HK3.out.frozen 0;have hset:=HK3.out.set 0 (slice a3 n3 c3);have HKn:Hid (Blk (w3.setCell ⟨G,0,none⟩ (slice a3 n3 c3)) G 286 #[slice a3 n3 c3,slice a2 Z c2]):=ae (by simpa using hset);have hfar:∀b,b≠G->(w3.setCell ⟨G,0,none⟩ (slice a3 n3 c3)).heap[b]? =w3.heap[b]? :=fun b hb=>bE _ _ _ _ hb;have hO3n:OwnI (w3.setCell ⟨G,0,none⟩ (slice a3 n3 c3)) w0.heap.size (slice a3 n3 c3) (dJ kn (cols.take (k+1))):=bZ HO3.out fun b hb=>hfar b (fun e=>hne3 (by rw[hb,e]))
     have hO2n:OwnB (w3.setCell ⟨G,0,none⟩ (slice a3 n3 c3)) w0.heap.size (slice a2 Z c2) (bP (fun c=>vl.getD c []) (lY kn (cols.take (k+1))) d):=by
      rw[HN.out];exact bZ HO23.out fun b hb=>hfar b (fun e=>tG HO23.out HK3.out (by decide) (by rw[hb,e]))
     have hGC:w0.heap.size<=G:=(by omega);have HQn:=ae (⟨_,HKn.out,hO3n,hO2n⟩:∃v1:Value,Blk (w3.setCell ⟨G,0,none⟩ (slice a3 n3 c3)) G 286 #[v1,slice a2 Z c2]/\OwnI (w3.setCell ⟨G,0,none⟩ (slice a3 n3 c3)) w0.heap.size v1 (dJ kn (cols.take (k+1)))/\OwnB (w3.setCell ⟨G,0,none⟩ (slice a3 n3 c3)) w0.heap.size (slice a2 Z c2) (bP (fun c=>vl.getD c []) (lY kn (cols.take (k+1))) d));have HBn:=ae (HB3.out.setCell (p:=⟨G,0,none⟩) hGC (slice a3 n3 c3));clear hset hfar hO3n hO2n HKn HO3 HO23 HB3 HK3 hne3;go_wp2_with fail;go_roundw
     case rel=>exact⟨k+1,by omega,by go_num,HQn,HBn⟩
     case measure=>simp[intOf];omega
   | true=>
     rw[hkx] at hkc HU HN;rw[bf rfl] at HU HN;obtain⟨hvl1,hvl2⟩:=hvx hkx;have hML:RdM wr w0.heap.size av n vl:=(show RdM w0 w0.heap.size av n vl from S0.out.get 4 rfl).below HB.out (ah _);obtain⟨bv,ov,a',c',rfl,hbv,hvc,hvr,-⟩:=hML.at hcx;rw[hvl1] at hvc hvr;have HVR:=ae hvr;have hG1c:=HK.out.cell 1
     have hsl:(bP (fun c=>vl.getD c []) (lY kn (cols.take k)) d).length=Z:=by
      refine eU HDL.out fun c hc=> ?_;obtain⟨h1,h2⟩:=mem_filter.1 hc;exact(HVL.out c (bD h1) h2).1
     have hsb:By (bP (fun c=>vl.getD c []) (lY kn (cols.take k)) d):=by
      refine(dF (D:=Z) ⟨HDL.out,HBY.out⟩ fun c hc=> ?_).2;obtain⟨h1,h2⟩:=mem_filter.1 hc;exact HVL.out c (bD h1) h2
     have HE:Hid (bP (fun c=>vl.getD c []) (lY kn (cols.take (k+1))) d=xr (bP (fun c=>vl.getD c []) (lY kn (cols.take k)) d) (vl.getD x [])):=ae (by rw[HN.out];unfold bP;rw[foldl_append];rfl);clear hML hkx hvx;generalize hX:vl.getD x []=X at*;clear hX;generalize bP (fun c=>vl.getD c []) (lY kn (cols.take k)) d=D at*;have HO20:Hid (OwnB wr w0.heap.size (slice a2 Z c2) (yL D X 0)):=ae (by rw[uT];exact HO2.out);rename World=>wo;have HBo:=HB;have hlto:=HK.out.lt;go_wp2_with fail;clear hkc hcc p1 p2 hvc hG1c;go_loopw [43] (fun i wr=>∃t:Nat,t<=Z/\i=int i64 t/\Hid (OwnB wr w0.heap.size (slice a2 Z c2) (yL D X t))/\Hid (wo.grownBy wr (Value.slice a2 Z c2).ownBlock)) (fun i _=>Z-(intOf i).toNat)
     case atStart=>exact⟨0,by omega,rfl,HO20,ae (grownBy_refl _ _)⟩
     case round=>
      clear HO20;obtain⟨t,htZ,rfl,HOt,HGt⟩:=hrel;have hKt:Blk wr G 286 #[slice a1 n1 c1,slice a2 Z c2]:=(HGt.out.block G hlto (tG HO2.out HK.out (by decide))).trans HK.out;have HKt:=ae hKt;clear hKt;by_cases htz:t<Z
      ·have htI:(t:Int)<(Z:Int):=by omega
       obtain⟨br,orr,rfl,hbr,hcr⟩:=HVR.out.2 (by omega);have hc0:=hcr t (.int .u8 (X.getD t 0:Nat)) (dX (by omega));obtain⟨g2,rfl,hg21,hg22,hd,hfr,hst⟩:=HOt.out.atA (yN hsl hvl1 htZ) htz;rw[yO hsl hvl1 htz] at hd
       have hcc:wr.cell? ⟨br,orr+t,none⟩=some (.int .u8 (X.getD t 0:Nat)):=(World.cell?_of_block (w:=wo) (a:=⟨br,orr+t,none⟩) (HGt.out.block br (by omega) (fun e=>by
        simp only[Value.ownBlock] at e;injection e with e;have e:br=g2:=e;omega))).trans hc0
       have hG1:=HKt.out.cell 1;have hx1:=getD_lt hvl2 t;have hx2:=getD_lt hsb t;have hxr:=u8_xor_nat (D.getD t 0) (X.getD t 0) hx2 hx1;have hst2:=hst (D.getD t 0 ^^^ X.getD t 0);rw[yP hsl hvl1 htz] at hst2;have HOn:=ae hst2;have HGn:Hid (wo.grownBy (wr.setCell ⟨g2,t,none⟩ (.int .u8 ((D.getD t 0 ^^^ X.getD t 0:Nat):Int))) (some g2)):=ae (oW HGt.out t _);clear hst hst2 hc0 hcr HOt HGt HKt;generalize D.getD t 0 ^^^ X.getD t 0=y at*;generalize D.getD t 0=y1 at*;generalize X.getD t 0=y2 at*;go_wp2_with fail;go_roundw
       case rel=>exact⟨t+1,by omega,by go_num,HOn,HGn⟩
       case measure=>simp[intOf];omega
      ·obtain rfl:t=Z:=by omega
       have hO1n:OwnI wr w0.heap.size (slice a1 n1 c1) (dJ kn (cols.take (k+1))):=by
        rw[HU.out]
        exact bZ HO1.out fun b hb=>HGt.out.block b (World.ownsRow.lt HO1.out b hb).2 (fun e=>by
         rcases own_ne HO1.out HO2.out (by decide) with h | h
         ·rw[hb] at h;cases h
         ·exact h (hb.trans e))
       have hO2n:OwnB wr w0.heap.size (slice a2 t c2) (bP (fun c=>vl.getD c []) (lY kn (cols.take (k+1))) d):=by
        rw[HE.out,<-yM hsl hvl1];exact HOt.out
       have HQn:=ae (⟨_,HKt.out,hO1n,hO2n⟩:∃v1:Value,Blk wr G 286 #[v1,slice a2 t c2]/\OwnI wr w0.heap.size v1 (dJ kn (cols.take (k+1)))/\OwnB wr w0.heap.size (slice a2 t c2) (bP (fun c=>vl.getD c []) (lY kn (cols.take (k+1))) d));have HBn:=ae (HBo.out.grown HGt.out hwr fun b hb=>(World.ownsRow.lt HO2.out b hb).1);clear hO1n hO2n;go_wp2_with fail;go_roundw
       case rel=>exact⟨k+1,by omega,by go_num,HQn,HBn⟩
       case measure=>simp[intOf];omega
  ·obtain rfl:k=q:=by omega
   rw[aJ (by rw[HCL.out];exact ah _)] at HO1 HO2;have r0:=HK.out.cell 0;have r1:=HK.out.cell 1;have HSB:=ae (S1.out.blk 0 rfl);have HBF:=ae S1.out.1;have f0:=HSB.out.frozen 0;have f1:=HSB.out.frozen 1;have z0:=HSB.out.cell 0;have z1:=HSB.out.cell 1;have hs2:=HSZ.out;have hfar:∀b,b≠w.heap.size+1->((wr.setCell ⟨w.heap.size+1,0,none⟩ (slice a1 n1 c1)).setCell ⟨w.heap.size+1,1,none⟩ (slice a2 Z c2)).heap[b]? =wr.heap[b]? :=fun b hb=>(bE _ _ _ _ hb).trans (bE _ _ _ _ hb);have HO1n:Hid (OwnI ((wr.setCell ⟨w.heap.size+1,0,none⟩ (slice a1 n1 c1)).setCell ⟨w.heap.size+1,1,none⟩ (slice a2 Z c2)) w0.heap.size (slice a1 n1 c1) (dJ kn cols)):=ae (bZ HO1.out fun b hb=>hfar b (by have:=(World.ownsRow.lt HO1.out b hb).1;omega));have HO2n:Hid (OwnB ((wr.setCell ⟨w.heap.size+1,0,none⟩ (slice a1 n1 c1)).setCell ⟨w.heap.size+1,1,none⟩ (slice a2 Z c2)) w0.heap.size (slice a2 Z c2) (bP (fun c=>vl.getD c []) (lY kn cols) d)):=ae (bZ HO2.out fun b hb=>hfar b (by have:=(World.ownsRow.lt HO2.out b hb).1;omega));have HBn:=ae ((HBF.out.setCell (p:=⟨w.heap.size+1,0,none⟩) (by show w.heap.size<=w.heap.size+1;omega) (slice a1 n1 c1)).setCell (p:=⟨w.heap.size+1,1,none⟩) (by show w.heap.size<=w.heap.size+1;omega) (slice a2 Z c2));have hset:=(HSB.out.set 0 (slice a1 n1 c1)).set 1 (slice a2 Z c2);have HSR:Hid (Blk ((wr.setCell ⟨w.heap.size+1,0,none⟩ (slice a1 n1 c1)).setCell ⟨w.heap.size+1,1,none⟩ (slice a2 Z c2)) (w.heap.size+1) 286 #[slice a1 n1 c1,slice a2 Z c2]):=ae (by simpa using hset);have hw02:w.heap.size<=w0.heap.size:=(by omega);clear hfar hset HSB HBF S1 HK HO1 HO2 HB hs2;go_wp2_with fail
   (try simp only[Exit.inBlock,Exit.then])
   refine bodyPost_ret (results_cell_row rfl _ _ (w.heap.size+1) 286 #[slice a1 n1 c1,slice a2 Z c2] (0,0) _ rfl HSR.out underlying286 rfl (by kernel_rfl)) rfl ?_;exact⟨_,_,rfl,li HO1n.out hw02,li HO2n.out hw02,HBn.out⟩
def tH(x:List Nat×List Nat):Rp:=rP (rI x.1) (rB x.2)
def fG(L:List (List Nat×List Nat)):Rp:=rS 2 (L.map tH)
theorem NB{x:List Nat×List Nat}{w:World}{F:Nat->Prop}{ds:List Value}(h:(tH x).ok w F ds):∃u1 u2,ds=[u1,u2]/\(rI x.1).ok w F [u1]/\(rB x.2).ok w F [u2]:=by
 obtain⟨a,b,rfl,h1,h2⟩:=h;have l1:=(rI x.1).len h1;have l2:=(rB x.2).len h2;obtain⟨u1,rfl⟩:=length_eq_one_iff.1 l1;obtain⟨u2,rfl⟩:=length_eq_one_iff.1 l2;exact⟨u1,u2,rfl,h1,h2⟩
theorem mK{L:List (List Nat×List Nat)}{w:World}{F:Nat->Prop}{a:Option Addr}{n c i:Nat}(h:(fG L).ok w F [slice a n c])(hl:L.length=n)(hi:i<n):
 ∃b o a1 q1 c1 a2 q2 c2,a=some ⟨b,o,none⟩/\F b/\b<w.heap.size/\w.cell? ⟨b,o+i*2,none⟩=some (slice a1 q1 c1)/\w.cell? ⟨b,o+i*2+1,none⟩=some (slice a2 q2 c2)/\(rI (L.getD i ([],[])).1).ok w F [slice a1 q1 c1]/\(rB (L.getD i ([],[])).2).ok w F [slice a2 q2 c2]/\q1=(L.getD i ([],[])).1.length/\q2=(L.getD i ([],[])).2.length:=by
 have hiL:i<L.length:=by omega
 have hR:(L.map tH)[i]? =some (tH (L.getD i ([],[]))):=by rw[List.getElem?_map,af,ag hiL];rfl
 obtain⟨b,o,ds,rfl,hF,hb,hok,hlen,hc⟩:=rY h (by decide) hi hR;obtain⟨u1,u2,rfl,h1,h2⟩:=NB hok;obtain⟨a1,c1,rfl,-⟩:=dA h1 rfl;obtain⟨a2,c2,rfl,-⟩:=gP h2 rfl;exact⟨b,o,a1,_,c1,a2,_,c2,rfl,hF,hb,hc 0 _ rfl,hc 1 _ rfl,h1,h2,rfl,rfl⟩
theorem Ie(g n N:Nat)(al ak:Option Addr)(cl ck:Nat)(sv:Value)(F:Nat->Prop)(kn:List Bool)(L:List (List Nat×List Nat))(w:World)
 (hg:Blk w g 353 #[slice al N cl,slice ak n ck,sv])(hL:(fG L).ok w F [slice al N cl])(hk:Rd w w.heap.size ak n (bY kn))(hN:L.length=N)(hNb:N<=1000)
 (hcn:∀x∈L,x.1.length<=1000/\∀c∈x.1,c<n)(hn:n<=1000):
 Calls prog 352 #[pointer (some ⟨g,0,none⟩)] w fun e w'=>∃r:Int,e=returned (int i64 r)/\(r<0\/∃i:Nat,r=(i:Int)/\i<N/\(dJ kn (L.getD i ([],[])).1).length=1)/\Below w.heap.size w w':=by
 have S0:=ae ((((Sx.nil w).add (kT ak n (bY kn)) hk).add (eR F (slice al N cl) (fG L)) hL).add (bQ g _ _) hg);have HB0:=ae (az w.heap.size w);have HN:=ae hN;have HCN:=ae hcn;have g0:=hg.cell 0;clear hg hL hk hN hcn;go_enter func352,ntmps352;go_wp2_with fail;clear g0;go_loopw [13] (fun i wr=>∃k:Nat,k<=N/\i=int i64 k/\Hid (Below w.heap.size w wr)) (fun i _=>N-(intOf i).toNat)
 case atStart=>exact⟨0,by omega,rfl,HB0⟩
 case round=>
  clear HB0;obtain⟨k,hkN,rfl,HB⟩:=hrel;have S1:=ae (S0.out.step HB.out);by_cases hlt:k<N
  ·have hltI:(k:Int)<(N:Int):=by omega
   have hLk:L.getD k ([],[])∈L:=(by rw[af,ag (by rw[HN.out];exact hlt)];exact aP _);obtain⟨hq,hcx⟩:=HCN.out _ hLk;obtain⟨b,o,a1,q1,c1,a2,q2,c2,rfl,_,hb,he0,he1,hR1,hR2,hq1,hq2⟩:=mK (S1.out.rep 1 rfl) HN.out hlt;obtain⟨a1',c1',e1,hRd,-⟩:=dA hR1 hq1.symm;injection e1 with e1 _ e3;subst e1 e3;have HRD:=ae hRd;have HKN:=ae (S1.out.rd 2 rfl);have HCX:=ae hcx;have HQ1:=ae hq1;have hwr:=HB.out.size;have HEX:Hid (L.getD k ([],[])=L.getD k ([],[])):=ae rfl;have p1:=(S1.out.blk 0 rfl).cell 1;have hgl:=(S1.out.blk 0 rfl).lt;have hlq:q1<=1000:=(by omega);clear hLk hR1 hR2 hRd hq2 hcx hq;generalize hx:L.getD k ([],[])=x at*;have HX:=ae hx;clear hx hq1;have hba:=(az wr.heap.size wr).alloc (ah _) (cells #[slice a1 q1 c1,slice a2 q2 c2] 286);have HBA:=ae hba;have HB2:=ae (HB.out.trans (hba.mono hwr));have p1':=(hba.cell (p:=⟨g,1,none⟩) hgl).trans p1;have HKN2:=ae (HKN.out.below hba (ah _));have HRD2:=ae (HRD.out.below hba (ah _));clear hba S1 HB HKN HRD;go_wp2_with fail;clear p1 he0 he1;generalize wr.alloc (cells #[slice a1 q1 c1,slice a2 q2 c2] 286)=w1 at*;go_loopw [5,21] (fun u i wq=>∃j:Nat,j<=q1/\i=int i64 j/\u=int i64 ((dJ kn (x.1.take j)).length:Nat)/\wq=w1) (fun _ i _=>q1-(intOf i).toNat)
   case atStart=>exact⟨0,by omega,rfl,rfl,rfl⟩
   case round=>
    obtain⟨j,hjq,rfl,rfl,hw⟩:=hrel;have HW:=ae hw;clear hw;by_cases hlj:j<q1
    ·have hljI:(j:Int)<(q1:Int):=by omega
     have hjl:j<x.1.length:=(by rw[<-HQ1.out];exact hlj);obtain⟨bc,oc,rfl,hbc,hcc⟩:=iz HRD2.out hlj;have hcx:x.1.getD j 0<n:=HCX.out _ (by rw[getD_at hjl];exact aP hjl);obtain⟨bk,ok,rfl,hbk,hkc⟩:=tF HKN2.out hcx;have HU:=ae (Bq (kn:=kn) hjl);have hcxI:((x.1.getD j 0:Nat):Int)<(n:Int):=(by omega);have hul:(dJ kn (x.1.take j)).length<=1000:=aO (length_filter_le _ _) (by rw[aG];omega);clear hjl;generalize x.1.getD j 0=y at*;cases hky:kn.getD y false with
     | false=>
       rw[hky] at hkc HU;rw[bg (by decide)] at HU;have HL2:Hid ((dJ kn (x.1.take (j+1))).length=(dJ kn (x.1.take j)).length+1):=ae (by rw[HU.out,aH];rfl);clear HU;generalize (dJ kn (x.1.take j)).length=z at*;rw[<-HW.out] at hcc hkc p1';go_wp2_with fail;go_roundw
       case rel=>exact⟨j+1,by omega,by go_num,by rw[HL2.out];go_num,HW.out⟩
       case measure=>simp[intOf];omega
     | true=>
       rw[hky] at hkc HU;rw[bf rfl] at HU;generalize hz:dJ kn (x.1.take j)=z at*;have HZ:=ae hz;clear hz;rw[<-HW.out] at hcc hkc p1';go_wp2_with fail;go_roundw
       case rel=>exact⟨j+1,by omega,by go_num,by rw[HU.out],HW.out⟩
       case measure=>simp[intOf];omega
    ·obtain rfl:j=q1:=by omega
     rw[aJ (by rw[<-HQ1.out];exact ah _)];have HB3:Hid (Below w.heap.size w wr):=ae (by rw[HW.out];exact HB2.out);have hul:(dJ kn x.1).length<=1000:=aO (length_filter_le _ _) (by rw[<-HQ1.out];omega);by_cases h1:(dJ kn x.1).length=1
     ·rw[h1]
      have H1:=ae h1;clear h1 hul;go_wp2_with fail;go_ret;exact⟨_,rfl,.inr ⟨k,rfl,hlt,by rw[HX.out];exact H1.out⟩,HB3.out⟩
     ·have h1I:¬(((dJ kn x.1).length:Nat):Int)=1:=by omega
      clear h1;generalize (dJ kn x.1).length=z at*;go_wp2_with fail;go_roundw
      case rel=>exact⟨k+1,by omega,by go_num,HB3⟩
      case measure=>simp[intOf];omega
  ·obtain rfl:k=N:=by omega
   go_wp2_with fail;go_ret;exact⟨-1,rfl,.inl (by omega),HB.out⟩
theorem wV{P:Program}{Q:Exit->Act->World->Prop}{a:Act}{w:World}{rest:Code}(l:Nat)(J:Nat->Act->World->Prop)(n₀:Nat)
 (hf:findLabel ((Code.label l).seq rest) l=some (Code.skip.seq rest))(first:J n₀ a w)
 (pass:∀n a w,J n a w->rest.wp P (Exit.jump l (fun a' w'=>∃n',n'<n/\J n' a' w') Q) a w):(Code.scope ((Code.label l).seq rest)).wp P Q a w:=by
 have fin:∀n a w,J n a w->rest.wp P (Exit.jump l (fun a w=>∃n,J n a w) Q) a w:=fun n a w h=>wp_mono (pass n a w h) fun e a' w' hq=>by
  cases e with
  | goto l'=>exact⟨hq.1,let ⟨n',_,hn⟩:=hq.2;⟨n',hn⟩⟩
  | normal=>exact hq
  | exit id=>exact hq
  | ret=>exact hq
  | panic ch=>exact hq
  | outgrown=>exact hq
 refine wp_scope_jumps l (fun a w=>∃n,J n a w) (fun a w=>leastOf (fun n=>J n a w)) hf ?_ ?_
 ·exact wp_seq (wp_label (fin n₀ a w first))
 ·intro a w hJ
  refine wp_seq (wp_skip ?_);refine wp_mono (pass _ a w (leastOf_spec hJ).1) ?_;intro e a' w' hq;cases e with
  | goto l'=>
    obtain⟨h1,n',hlt,hn'⟩:=hq;exact⟨h1,⟨n',hn'⟩,Nat.lt_of_le_of_lt ((leastOf_spec ⟨n',hn'⟩).2 n' hn') hlt⟩
  | normal=>exact hq
  | exit id=>exact hq
  | ret=>exact hq
  | panic ch=>exact hq
  | outgrown=>exact hq
def rN(l:List Nat):Rp:=if l=[] then rV (slice none 0 0) else rB l
theorem K3{l:List Nat}{w:World}{F:Nat->Prop}{v:Value}(h:(rN l).ok w F [v]):∃a c,v=slice a l.length c/\Rd w w.heap.size a l.length (bF l)/\(a=none->c=0)/\l.length<=c/\c<=maxLen/\(l=[]->a=none/\c=0)/\(l≠[]->a≠none):=by
 unfold rN at h;split at h
 ·rename_i h0
  subst h0;obtain⟨h1,_⟩:=h;injection h1 with h1 _;exact⟨none,0,h1,uC _ _ _,fun _=>rfl,ah _,bu _,fun _=>⟨rfl,rfl⟩,fun h=>absurd rfl h⟩
 ·rename_i h0
  obtain⟨a,c,e,h1,h2,h3,h4⟩:=gP h rfl;refine⟨a,c,e,h1,h2,h3,h4,fun h=>absurd h h0,fun _ e=> ?_⟩;have:=h2 e;have:l.length=0:=(by omega);exact h0 (eq_nil_of_length_eq_zero this)
structure PSt (w:World) (g gk gv n:Nat) (sl:Value) (kn:List Bool) (vl:List (List Nat)):Prop where
 blk:Blk w g 353 #[sl,slice (some ⟨gk,0,none⟩) n n,slice (some ⟨gv,0,none⟩) n n]
 knb:Blk w gk 4 (bY kn).toArray
 kl:kn.length=n
 vll:vl.length=n
 hs:∃hs:List Value,Blk w gv 30 hs.toArray/\hs.length=n/\∀c,c<n->(rN (vl.getD c [])).ok w (fun b=>b≠g/\b≠gk/\b≠gv) [hs.getD c undef]
theorem PSt.ne{w:World}{g gk gv n:Nat}{sl:Value}{kn:List Bool}{vl:List (List Nat)}(h:PSt w g gk gv n sl kn vl):g≠gk/\g≠gv/\gk≠gv:=by
 obtain⟨hs,h1,_⟩:=h.hs;exact⟨Blk.ne h.blk h.knb (by decide),Blk.ne h.blk h1 (by decide),Blk.ne h.knb h1 (by decide)⟩
theorem PSt.new{w w':World}{g gk gv n:Nat}{sl:Value}{kn:List Bool}{vl:List (List Nat)}(h:PSt w g gk gv n sl kn vl)(hb:Below w.heap.size w w'):PSt w' g gk gv n sl kn vl:=by
 obtain⟨hs,h1,h2,h3⟩:=h.hs;exact⟨h.blk.below hb h.blk.lt,h.knb.below hb h.knb.lt,h.kl,h.vll,hs,h1.below hb h1.lt,h2,fun c hc=>(rN _).new (h3 c hc) hb⟩
theorem PSt.rdk{w:World}{g gk gv n:Nat}{sl:Value}{kn:List Bool}{vl:List (List Nat)}(h:PSt w g gk gv n sl kn vl):Rd w w.heap.size (some ⟨gk,0,none⟩) n (bY kn):=
 ⟨by rw[lX];exact h.kl,fun _=>⟨gk,0,rfl,h.knb.lt,fun i u hu=>by rw[Nat.zero_add,h.knb.cell i];simpa using hu⟩⟩
theorem rK{hs:List Value}{c:Nat}(h:c<hs.length):hs[c]? =some (hs.getD c undef):=by rw[af,ag h];rfl
theorem PSt.rdv{w:World}{g gk gv n:Nat}{sl:Value}{kn:List Bool}{vl:List (List Nat)}(h:PSt w g gk gv n sl kn vl):RdM w w.heap.size (some ⟨gv,0,none⟩) n vl:=by
 obtain⟨hs,h1,h2,h3⟩:=h.hs;refine⟨h.vll,hs,⟨h2,fun _=>⟨gv,0,rfl,h1.lt,fun i u hu=>by rw[Nat.zero_add,h1.cell i];simpa using hu⟩⟩,fun i l hl=> ?_⟩;have hi:i<n:=by have:=(List.getElem?_eq_some_iff.1 hl).1;rw[h.vll] at this;exact this
 have e:vl.getD i []=l:=by rw[af,hl];rfl
 have h4:=h3 i hi;rw[e] at h4;obtain⟨a,c,e1,h5,h6,h7,h8,_⟩:=K3 h4;exact⟨a,c,by rw[rK (by omega),e1],h5,h6,h7,h8⟩
theorem PSt.put{w w':World}{g gk gv n:Nat}{sl:Value}{kn:List Bool}{vl:List (List Nat)}(h:PSt w g gk gv n sl kn vl){c:Nat}(hc:c<n){u:Value}{d:List Nat}(hd:d≠[])(hu:(rB d).ok w (fun b=>b≠g/\b≠gk/\b≠gv) [u])
 (hw:∀b,b≠gk->b≠gv->w'.heap[b]? =w.heap[b]?)(hk:Blk w' gk 4 ((bY kn).toArray.setIfInBounds c (bool true)))(hv:∀hs:Array Value,Blk w gv 30 hs->Blk w' gv 30 (hs.setIfInBounds c u)):PSt w' g gk gv n sl (kn.set c true) (vl.set c d):=by
 obtain⟨n1,n2,n3⟩:=h.ne;obtain⟨hs,h1,h2,h3⟩:=h.hs;have hkeep:∀k,(k≠g/\k≠gk/\k≠gv)->k<w.heap.size->w'.heap[k]? =w.heap[k]? /\(k≠g/\k≠gk/\k≠gv):=fun k hk _=>⟨hw k hk.2.1 hk.2.2,hk⟩;refine⟨(hw g n1 n2).trans h.blk,?_,by rw[length_set];exact h.kl,by rw[length_set];exact h.vll,hs.set c u,?_,by rw[length_set];exact h2,fun i hi=> ?_⟩
 ·have e:(bY (kn.set c true)).toArray=(bY kn).toArray.setIfInBounds c (bool true):=by unfold bY;simp
  rw[e];exact hk
 ·have:=hv hs.toArray h1
  simpa using this
 ·by_cases hic:i=c
  ·subst hic
   have e1:(vl.set i d).getD i []=d:=(by rw[af,List.getElem?_set,bf rfl,bf (by rw[h.vll];exact hi)];rfl);have e2:(hs.set i u).getD i undef=u:=(by rw[af,List.getElem?_set,bf rfl,bf (by omega)];rfl);rw[e1,e2];unfold rN;rw[bg hd];exact(rB d).keep hu hkeep
  ·have e1:(vl.set c d).getD i []=vl.getD i []:=by rw[af,List.getElem?_set,bg (fun e=>hic e.symm),<-af]
   have e2:(hs.set c u).getD i undef=hs.getD i undef:=(by rw[af,List.getElem?_set,bg (fun e=>hic e.symm),<-af]);rw[e1,e2];exact(rN _).keep (h3 i hi) hkeep
def cntF(kn:List Bool):Nat:=(kn.filter fun b=> !b).length
theorem K4{kn:List Bool}{c:Nat}(hc:c<kn.length)(h:kn.getD c false=false):cntF (kn.set c true)<cntF kn:=by
 induction kn generalizing c with
 | nil=>simp at hc
 | cons b kn ih=>
   cases c with
   | zero=>
     have hb:b=false:=h;subst hb;simp[cntF]
   | succ c=>
     have:=ih (c:=c) (by simpa using hc) h;unfold cntF at this ⊢;rw[set_cons_succ,filter_cons,filter_cons];cases b <;> simp_all
def ConsP(n:Nat)(m:Nat->List Nat)(kn:List Bool)(vl:List (List Nat)):Prop:=∀c,c<n->(kn.getD c false=true->vl.getD c []=m c)/\(kn.getD c false=false->vl.getD c []=[])
theorem ConsP.set{n:Nat}{m:Nat->List Nat}{kn:List Bool}{vl:List (List Nat)}(h:ConsP n m kn vl)(hk:kn.length=n)(hv:vl.length=n){c:Nat}(hc:c<n):ConsP n m (kn.set c true) (vl.set c (m c)):=by
 intro i hi;by_cases hic:i=c
 ·subst hic
  have e1:(vl.set i (m i)).getD i []=m i:=(by rw[af,List.getElem?_set,bf rfl,bf (by omega)];rfl);have e2:(kn.set i true).getD i false=true:=(by rw[af,List.getElem?_set,bf rfl,bf (by omega)];rfl);rw[e1,e2];exact⟨fun _=>rfl,fun h=>by cases h⟩
 ·have e1:(vl.set c (m c)).getD i []=vl.getD i []:=by rw[af,List.getElem?_set,bg (fun e=>hic e.symm),<-af]
  have e2:(kn.set c true).getD i false=kn.getD i false:=(by rw[af,List.getElem?_set,bg (fun e=>hic e.symm),<-af]);rw[e1,e2];exact h i hi
theorem NE{Z:Nat}{a:List Nat}(h:a.length=Z):xr (replicate Z 0) a=a:=by
 refine jh (by rw[jQ (by rw[aI,h]),aI,h]) fun j=> ?_;rw[mb (by rw[aI,h]),qM,Nat.zero_xor]
theorem E0{n Z:Nat}{m:Nat->List Nat}{kn:List Bool}{vl:List (List Nat)}(h:ConsP n m kn vl)(hm:∀c,c<n->(m c).length=Z/\By (m c)){x:List Nat×List Nat}(hx:∀c∈x.1,c<n)(hd:x.2=bP m x.1 (replicate Z 0)):
 bP (fun c=>vl.getD c []) (lY kn x.1) x.2=bP m (dJ kn x.1) (replicate Z 0):=
 IW (fun c=>kn.getD c false) (fun c hc=>(hm c (hx c hc)).1) (fun c hc hk=>(h c (hx c hc)).1 hk) hd
def vV(n Z:Nat)(m:Nat->List Nat)(L:List (List Nat×List Nat)):Prop:=∀x∈L,x.1.length<=64/\(∀c∈x.1,c<n)/\x.2=bP m x.1 (replicate Z 0)
theorem K5(C0 g gk gv n N Z:Nat)(al:Option Addr)(cl:Nat)(m:Nat->List Nat)(kn:List Bool)(vl:List (List Nat))(L:List (List Nat×List Nat))(w:World)
 (hP:PSt w g gk gv n (slice al N cl) kn vl)(hC0:C0<=g/\C0<=gk/\C0<=gv)(hL:(fG L).ok w (Bl C0) [slice al N cl])(hN:L.length=N)(hNb:N<=1000)(hn:n<=1000)(hZ:1<=Z)(hZ2:Z<=1000)
 (hm:∀c,c<n->(m c).length=Z/\By (m c))(hR:vV n Z m L)(hc:ConsP n m kn vl):
 Calls prog 292 #[pointer (some ⟨g,0,none⟩)] w fun e w'=>e=returned (.tuple #[])/\∃kn' vl',PSt w' g gk gv n (slice al N cl) kn' vl'/\ConsP n m kn' vl'/\Below C0 w w':=by
 have HN:=ae hN;have HM:=ae hm;have HRW:=ae hR;have hH:Hid (PSt w g gk gv n (slice al N cl) kn vl/\ConsP n m kn vl/\Below C0 w w/\(fG L).ok w (Bl C0) [slice al N cl]):=ae ⟨hP,hc,az _ _,hL⟩;clear hN hm hR hP hc hL;go_enter func292,ntmps292
 refine wV 0 (fun x a' w'=>∃(kn:List Bool) (vl:List (List Nat)) (u1 u2 u3 u4 u5 u6 u7 u8 u9 u10 u11 u12 u13 u14 u15 u16 u17 u18 u19 u20 u21 u22 u23 u24 u25 u26 u27 u28 u29 u30 u31 u32 u33 u34 u35 u36:Value),(cntF kn<x/\Hid (PSt w' g gk gv n (slice al N cl) kn vl/\ConsP n m kn vl/\Below C0 w w'/\(fG L).ok w' (Bl C0) [slice al N cl]))/\
  a'= { tmps:=#[pointer (some ⟨g,0,none⟩),u1,u2,u3,u4,u5,u6,u7,u8,u9,u10,u11,u12,u13,u14,u15,u16,u17,u18,u19,u20,u21,u22,u23,u24,u25,u26,u27,u28,u29,u30,u31,u32,u33,u34,u35,u36],defers:=[] }) (cntF kn+1) rfl ?_ ?_
 ·exact⟨kn,vl,_,_,_,_,_,_,_,_,_,_,_,_,_,_,_,_,_,_,_,_,_,_,_,_,_,_,_,_,_,_,_,_,_,_,_,_,⟨by omega,hH⟩,rfl⟩
 ·clear hH kn vl
  rintro x a' w' ⟨kn,vl,u1,u2,u3,u4,u5,u6,u7,u8,u9,u10,u11,u12,u13,u14,u15,u16,u17,u18,u19,u20,u21,u22,u23,u24,u25,u26,u27,u28,u29,u30,u31,u32,u33,u34,u35,u36,⟨hcnt,hH⟩,rfl⟩;obtain⟨hP,hc,hB,hL⟩:=hH.out;have hn1:=hP.ne;have CN:=ae (Ie g n N al (some ⟨gk,0,none⟩) cl n (slice (some ⟨gv,0,none⟩) n n) (Bl C0) kn L w' hP.blk hL hP.rdk HN.out hNb (fun y hy=>⟨aO (HRW.out y hy).1 (by omega),(HRW.out y hy).2.1⟩) hn);clear hP hc hB hL;go_wp2_with fail;refine CN.out.mono ?_;rintro e w1 ⟨r,rfl,hr,hb1⟩;have HR:=ae hr;have HB1:=ae hb1;clear hr hb1 CN;by_cases hr0:r<0
  ·go_wp2_with fail
   simp only[Exit.jump]
   (try simp only[Exit.inBlock,Exit.then])
   refine bodyPost_ret (results_none rfl _ _ _) rfl ?_;obtain⟨hP,hc,hB,hL⟩:=hH.out;exact⟨rfl,kn,vl,hP.new HB1.out,hc,hB.trans (HB1.out.mono (by have:=hB.size;have:=hP.blk.lt;omega))⟩
  ·obtain⟨i,rfl,hi,hu⟩:=HR.out.resolve_left hr0
   obtain⟨hP0,hc,hB0,hL0⟩:=hH.out;have hP1:=hP0.new HB1.out;have hL1:=(fG L).new hL0 HB1.out;have hB1:Below C0 w w1:=hB0.trans (HB1.out.mono (by have:=hB0.size;have:=hP0.blk.lt;omega));obtain⟨b,o,a1,q1,c1,a2,q2,c2,rfl,_,hb,he0,he1,hE1,hE2,hq1,hq2⟩:=mK hL1 HN.out hi;have hLi:L.getD i ([],[])∈L:=(by rw[af,ag (by rw[HN.out];exact hi)];exact aP _);obtain⟨hx64,hxn,hxd⟩:=HRW.out _ hLi;have hz:=E0 hc HM.out hxn hxd;have hxl:(L.getD i ([],[])).2.length=Z:=(by rw[hxd];exact eU aI fun c hc=>(HM.out c (hxn c hc)).1);have hxb:By (L.getD i ([],[])).2:=(by rw[hxd];exact(dF (D:=Z) (Byt.zero Z) fun c hc=>HM.out c (hxn c hc)).2);have hq2':q2=Z:=(by omega);subst hq2';obtain⟨a1',c1',e1,hR1,-⟩:=dA hE1 hq1.symm;injection e1 with e1 _ e3;subst e1 e3;obtain⟨a2',c2',e1,hR2,hnil2,-⟩:=gP hE2 hxl;injection e1 with e1 _ e3;subst e1 e3;obtain⟨c,hcu⟩:∃c,dJ kn (L.getD i ([],[])).1=[c]:=length_eq_one_iff.1 hu;have hcm:c∈dJ kn (L.getD i ([],[])).1:=(by rw[hcu];simp);obtain⟨hcm1,hcm2⟩:=mem_filter.1 hcm;have hcn:c<n:=hxn c hcm1;have hck:kn.getD c false=false:=(by simpa using hcm2);rw[hcu] at hz;have hz2:bP m [c] (replicate q2 0)=m c:=NE (HM.out c hcn).1;rw[hz2] at hz
   have CL:=ae (xY g n q1 q2 (slice (some ⟨b,o,none⟩) N cl) (some ⟨gk,0,none⟩) (some ⟨gv,0,none⟩) a1 a2 n n c1 c2 kn vl (L.getD i ([],[])).1 (L.getD i ([],[])).2 w1 hP1.blk hP1.rdk hP1.rdv hR1 hR2 hnil2 hZ2 (by omega) hn hxn (fun d hd hk=>by
    have:=(hc d (hxn d hd)).1 hk;rw[this];exact HM.out d (hxn d hd)) hxb)
   rw[hz,hcu] at CL;have p0:=hP1.blk.cell 0;have hiI:(i:Int)<(N:Int):=(by omega);have HC:=ae hc;have HP1:=ae hP1;have HL1:=ae hL1;have HBB1:=ae hB1;have HCN:=ae hck;clear hP0 hc hB0 hL0 hP1 hL1 hB1 hE1 hE2 hLi hx64 hxn hxd hz hxl hxb hR1 hR2 hu hcu hcm hcm1 hcm2 hz2 hH HR HB1 hr0 hck hq1 hq2;go_wp2_with fail;refine CL.out.mono ?_;rintro e w2 ⟨v1,v2,rfl,hO1,hO2,hb2⟩;have hmc:=HM.out c hcn;obtain⟨a3,c3,rfl⟩:=hO1.lenA;obtain⟨gc,rfl,hgc1,hgc2⟩:=hO1.formA (n:=1) rfl (by decide);obtain⟨hcx,-⟩:=hO1.cellA (n:=1) rfl (show 0<1 by decide);obtain⟨a4,c4,rfl,-⟩:=hO2.rd2 hmc.1;have hlen1:([c]:List Nat).length=1:=rfl;rw[hlen1] at hO1 ⊢;have hcx':w2.cell? ⟨gc,0,none⟩=some (int i64 c):=hcx;have hP2:=HP1.out.new hb2;have hba:=(az w2.heap.size w2).alloc (ah _) (cells #[slice (some ⟨gc,0,none⟩) 1 c3,slice a4 q2 c4] 286);have hP3:=hP2.new hba;have hK3:=Blk.new w2 286 #[slice (some ⟨gc,0,none⟩) 1 c3,slice a4 q2 c4];have hcx3:=(hba.cell (p:=⟨gc,0,none⟩) hgc2).trans hcx';have hO3:OwnB (w2.alloc (cells #[slice (some ⟨gc,0,none⟩) 1 c3,slice a4 q2 c4] 286)) w1.heap.size (slice a4 q2 c4) (m c):=hO2.below hba;have hB13:Below C0 w1 (w2.alloc (cells #[slice (some ⟨gc,0,none⟩) 1 c3,slice a4 q2 c4] 286)):=(hb2.mono (by have:=HP1.out.blk.lt;omega)).trans (hba.mono (by have:=hb2.size;have:=HP1.out.blk.lt;omega));have hL3:=(fG L).new ((fG L).new HL1.out hb2) hba;have hgl:=HP1.out.blk.lt;have hkl:=HP1.out.knb.lt;have hvl:=HP1.out.hs;obtain⟨hs1,hs2,hs3,hs4⟩:=hvl;have hvlt:=hs2.lt;obtain⟨n1,n2,n3⟩:=HP1.out.ne;have hGge:w1.heap.size<=w2.heap.size:=hb2.size;have HP3:=ae hP3;have HO3:=ae hO3;have HL3:=ae hL3;have HB3:=ae (HBB1.out.trans hB13);clear hcx hcx' hP2 hba hP3 hO3 hL3 hB13 HP1 HL1 HBB1 CL hO1 hO2 hb2 hs2 hs3 hs4 hs1 he0 he1 p0 hlen1;go_wp2_with fail;generalize w2.alloc (cells #[slice (some ⟨gc,0,none⟩) 1 c3,slice a4 q2 c4] 286)=w3 at*;have t0:=hK3.cell 0;have t1:=hK3.cell 1;have t2:=HP3.out.blk.cell 1;have t3:=HP3.out.blk.cell 2
   have t4:w3.cell? ⟨gk,c,none⟩=some (bool false):=by
    rw[HP3.out.knb.cell c,<-HCN.out,af];have:c<kn.length:=(by rw[HP3.out.kl];exact hcn);simp[bY,this]
   have t5:=HP3.out.knb.frozen c
   obtain⟨uo,t6⟩:∃uo,w3.cell? ⟨gv,c,none⟩=some uo:=by
    obtain⟨hs,h1,h2,h3⟩:=HP3.out.hs;exact⟨_,(h1.cell c).trans (by simpa using rK (hs:=hs) (by omega))⟩
   have t7:w3.frozen? ⟨gv,c,none⟩=false:=by
    obtain⟨hs,h1,h2,h3⟩:=HP3.out.hs;exact h1.frozen c
   have hcI:(c:Int)<(n:Int):=(by omega);have hd1:¬gk=gv:=n3;have hd2:¬gv=gk:=fun e=>n3 e.symm;have hd3:¬g=gk:=n1;have hd4:¬g=gv:=n2;have hd5:¬w2.heap.size=gk:=(by omega);have hd6:¬w2.heap.size=gv:=(by omega);have hd7:¬gc=gk:=(by omega);have hd8:¬gc=gv:=(by omega);clear hK3;have hne:m c≠[]:=fun e=>by have:=hmc.1;rw[e] at this;simp at this;omega
   have HPn1:Hid (∀j,PSt (((w3.drewN j).setCell ⟨gk,c,none⟩ (bool true)).setCell ⟨gv,c,none⟩ (slice a4 q2 c4)) g gk gv n (slice (some ⟨b,o,none⟩) N cl) (kn.set c true) (vl.set c (m c))):=ae fun j=>HP3.out.put hcn hne ((rB _).more (fL HO3.out) fun b hb _=>by
    have:w1.heap.size<=b:=hb;exact⟨by omega,by omega,by omega⟩)
    (fun b h1 h2=>(bE _ _ _ _ h2).trans (bE _ _ _ _ h1))
    ((Blk.set (w:=w3.drewN j) (HP3.out.knb.drewN j) c (bool true)).far (p:=⟨gv,c,none⟩) n3 _)
    (fun hs h=>Blk.set (((h.drewN j).far (p:=⟨gk,c,none⟩) (fun e=>n3 e.symm) _)) c _)
   have HPn2:Hid (∀j,PSt (((w3.drewN j).setCell ⟨gv,c,none⟩ (slice a4 q2 c4)).setCell ⟨gk,c,none⟩ (bool true)) g gk gv n (slice (some ⟨b,o,none⟩) N cl) (kn.set c true) (vl.set c (m c))):=ae fun j=>HP3.out.put hcn hne ((rB _).more (fL HO3.out) fun b hb _=>by
    have:w1.heap.size<=b:=hb;exact⟨by omega,by omega,by omega⟩)
    (fun b h1 h2=>(bE _ _ _ _ h1).trans (bE _ _ _ _ h2))
    (Blk.set ((HP3.out.knb.drewN j).far (p:=⟨gv,c,none⟩) n3 _) c (bool true))
    (fun hs h=>((Blk.set (w:=w3.drewN j) (h.drewN j) c _)).far (p:=⟨gk,c,none⟩) (fun e=>n3 e.symm) _)
   have HBn1:Hid (∀j,Below C0 w (((w3.drewN j).setCell ⟨gk,c,none⟩ (bool true)).setCell ⟨gv,c,none⟩ (slice a4 q2 c4))):=ae fun j=>((below_drewN HB3.out j).setCell (p:=⟨gk,c,none⟩) hC0.2.1 _).setCell (p:=⟨gv,c,none⟩) hC0.2.2 _;have HBn2:Hid (∀j,Below C0 w (((w3.drewN j).setCell ⟨gv,c,none⟩ (slice a4 q2 c4)).setCell ⟨gk,c,none⟩ (bool true))):=ae fun j=>((below_drewN HB3.out j).setCell (p:=⟨gv,c,none⟩) hC0.2.2 _).setCell (p:=⟨gk,c,none⟩) hC0.2.1 _;have HLn1:Hid (∀j,(fG L).ok (((w3.drewN j).setCell ⟨gk,c,none⟩ (bool true)).setCell ⟨gv,c,none⟩ (slice a4 q2 c4)) (Bl C0) [slice (some ⟨b,o,none⟩) N cl]):=ae fun j=>(fG L).keep HL3.out fun k hF _=>⟨(bE _ _ _ _ (by have:k<C0:=hF;show k≠gv;omega)).trans (bE _ _ _ _ (by have:k<C0:=hF;show k≠gk;omega)),hF⟩;have HLn2:Hid (∀j,(fG L).ok (((w3.drewN j).setCell ⟨gv,c,none⟩ (slice a4 q2 c4)).setCell ⟨gk,c,none⟩ (bool true)) (Bl C0) [slice (some ⟨b,o,none⟩) N cl]):=ae fun j=>(fG L).keep HL3.out fun k hF _=>⟨(bE _ _ _ _ (by have:k<C0:=hF;show k≠gk;omega)).trans (bE _ _ _ _ (by have:k<C0:=hF;show k≠gv;omega)),hF⟩;have HCn:=ae (HC.out.set HP3.out.kl HP3.out.vll hcn);have HCT:=ae (K4 (by rw[HP3.out.kl];exact hcn) HCN.out);clear HP3 HO3 HL3 HB3 hmc hne
   have HS:Hid (∀w':World,(∀b,b≠gk->b≠gv->w'.heap[b]? =w3.heap[b]?)->w'.cell? ⟨g,1,none⟩=some (slice (some ⟨gk,0,none⟩) n n)/\w'.cell? ⟨g,2,none⟩=some (slice (some ⟨gv,0,none⟩) n n)/\w'.cell? ⟨w2.heap.size,0,none⟩=some (slice (some ⟨gc,0,none⟩) 1 c3)/\w'.cell? ⟨w2.heap.size,1,none⟩=some (slice a4 q2 c4)/\w'.cell? ⟨gc,0,none⟩=some (int i64 c)):=ae fun w' h=>
    ⟨(World.cell?_of_block (w:=w3) (a:=⟨g,1,none⟩) (h g hd3 hd4)).trans t2,(World.cell?_of_block (w:=w3) (a:=⟨g,2,none⟩) (h g hd3 hd4)).trans t3,(World.cell?_of_block (w:=w3) (a:=⟨w2.heap.size,0,none⟩) (h _ hd5 hd6)).trans t0,(World.cell?_of_block (w:=w3) (a:=⟨w2.heap.size,1,none⟩) (h _ hd5 hd6)).trans t1,(World.cell?_of_block (w:=w3) (a:=⟨gc,0,none⟩) (h _ hd7 hd8)).trans hcx3⟩
   go_region_held3 (fun w'=>w'.cell? ⟨g,1,none⟩=some (slice (some ⟨gk,0,none⟩) n n)/\w'.cell? ⟨g,2,none⟩=some (slice (some ⟨gv,0,none⟩) n n)/\w'.cell? ⟨w2.heap.size,0,none⟩=some (slice (some ⟨gc,0,none⟩) 1 c3)/\w'.cell? ⟨w2.heap.size,1,none⟩=some (slice a4 q2 c4)/\w'.cell? ⟨gc,0,none⟩=some (int i64 c)) (exact HS.out _ (fun b h1 h2=>by first | exact rfl | exact bE _ _ _ _ h1 | exact bE _ _ _ _ h2 | exact(bE _ _ _ _ h2).trans (bE _ _ _ _ h1) | exact(bE _ _ _ _ h1).trans (bE _ _ _ _ h2))) (fail)
   all_goals(
    go_wp2_with fail
    (try go_step3)
    first
    | exact⟨rfl,cntF kn,hcnt,_,_,_,_,_,_,_,_,_,_,_,_,_,_,_,_,_,_,_,_,_,_,_,_,_,_,_,_,_,_,_,_,_,_,_,_,_,_,⟨HCT.out,ae ⟨HPn1.out 1,HCn.out,HBn1.out 1,HLn1.out 1⟩⟩,rfl⟩
    | exact⟨rfl,cntF kn,hcnt,_,_,_,_,_,_,_,_,_,_,_,_,_,_,_,_,_,_,_,_,_,_,_,_,_,_,_,_,_,_,_,_,_,_,_,_,_,_,⟨HCT.out,ae ⟨HPn2.out 1,HCn.out,HBn2.out 1,HLn2.out 1⟩⟩,rfl⟩)
def O5(l:List Nat):Prop:=∀i,i+1<l.length->l.getD i 0<l.getD (i+1) 0
theorem DC(n N Z:Nat)(al:Option Addr)(cl:Nat)(F:Nat->Prop)(L:List (List Nat×List Nat))(w:World)
 (hL:(fG L).ok w F [slice al N cl])(hN:L.length=N)(hNb:N<=1000)(hn:n<=64)
 (hcn:∀x∈L,x.1.length<=1000/\(∀c∈x.1,c<n)/\O5 x.1/\x.2.length=Z):
 Calls prog 291 #[int i64 n,slice al N cl] w fun e w'=>e=returned (bool true)/\Below w.heap.size w w':=by
 have S0:=ae ((Sx.nil w).add (eR F (slice al N cl) (fG L)) hL);have HB0:=ae (az w.heap.size w);have HN:=ae hN;have HCN:=ae hcn;clear hL hN hcn;go_enter func291,ntmps291;have hn1:¬(n:Int)<0:=by omega
 have hn2:¬64<(n:Int):=by omega
 go_wp2_with fail;clear hn1 hn2;go_loopw [17] (fun i wr=>∃k:Nat,k<=N/\i=int i64 k/\Hid (Below w.heap.size w wr)) (fun i _=>N-(intOf i).toNat)
 case atStart=>exact⟨0,by omega,rfl,HB0⟩
 case round=>
  clear HB0;obtain⟨k,hkN,rfl,HB⟩:=hrel;have S1:=ae (S0.out.step HB.out);by_cases hlt:k<N
  ·have hltI:(k:Int)<(N:Int):=by omega
   have h0lt:0<N:=(by omega);have hLk:L.getD k ([],[])∈L:=(by rw[af,ag (by rw[HN.out];exact hlt)];exact aP _);have hL0:L.getD 0 ([],[])∈L:=(by rw[af,ag (by rw[HN.out];exact h0lt)];exact aP _);obtain⟨hq,hcx,hup,hz⟩:=HCN.out _ hLk;obtain⟨-,-,-,hz0⟩:=HCN.out _ hL0;obtain⟨b,o,a1,q1,c1,a2,q2,c2,rfl,_,hb,he0,he1,hR1,hR2,hq1,hq2⟩:=mK (S1.out.rep 0 rfl) HN.out hlt;obtain⟨b',o',a3,q3,c3,a4,q4,c4,hbo,_,_,hf0,hf1,_,_,_,hq4⟩:=mK (S1.out.rep 0 rfl) HN.out h0lt;injection hbo with hbo;injection hbo with hb1 hb2 _;subst hb1 hb2;rw[Nat.zero_mul,Nat.add_zero] at hf1;clear hf0;obtain⟨a1',c1',e1,hRd,-⟩:=dA hR1 hq1.symm;injection e1 with e1 _ e3;subst e1 e3;have HRD:=ae hRd;have HCX:=ae hcx;have HUP:=ae hup;have HQ1:=ae hq1;have hwr:=HB.out.size;have hlq:q1<=1000:=(by omega);obtain rfl:q2=Z:=(by omega);obtain rfl:q4=q2:=(by omega);clear hLk hR1 hR2 hRd hq2 hcx hq hup hz hz0 hL0 hq4;generalize L.getD k ([],[])=x at*;clear hq1;have hba:=(az wr.heap.size wr).alloc (ah _) (cells #[slice a1 q1 c1,slice a2 q4 c2] 286);have HBA:=ae hba;have HB2:=ae (HB.out.trans (hba.mono hwr));have HRD2:=ae (HRD.out.below hba (ah _));have hf1':=(hba.cell (p:=⟨b,o+1,none⟩) hb).trans hf1;have hK:=Blk.new wr 286 #[slice a1 q1 c1,slice a2 q4 c2];clear hba S1 HB HRD;go_wp2_with fail;clear hf1 he0 he1;generalize wr.alloc (cells #[slice a1 q1 c1,slice a2 q4 c2] 286)=w1 at*;generalize wr.heap.size=g1 at*;have k0:=hK.cell 0;have k1:=hK.cell 1;clear hK;go_loopw [24] (fun i wq=>∃j:Nat,j<=q1/\i=int i64 j/\wq=w1) (fun i _=>q1-(intOf i).toNat)
   case atStart=>exact⟨0,by omega,rfl,rfl⟩
   case round=>
    obtain⟨j,hjq,rfl,hw⟩:=hrel;have HW:=ae hw;clear hw;rw[<-HW.out] at k0 k1 hf1';by_cases hlj:j<q1
    ·have hljI:(j:Int)<(q1:Int):=by omega
     have hjl:j<x.1.length:=(by rw[<-HQ1.out];exact hlj);obtain⟨bc,oc,rfl,hbc,hcc⟩:=iz HRD2.out hlj;have hcx:x.1.getD j 0<n:=HCX.out _ (by rw[getD_at hjl];exact aP hjl);have hcx1:¬((x.1.getD j 0:Nat):Int)<0:=(by omega);have hcx2:¬(n:Int)<=((x.1.getD j 0:Nat):Int):=(by omega);rw[<-HW.out] at hcc;by_cases hj0:j=0
     ·subst hj0
      clear hjl;generalize x.1.getD 0 0=y at*;rw[Nat.add_zero] at hcc;go_wp2_with fail;go_roundw
      case rel=>(try((repeat apply Exists.intro);refine⟨?_,rfl⟩));exact⟨0+1,by omega,by go_num,HW.out⟩
      case measure=>simp[intOf];omega
     ·obtain⟨_,_,e,hbc',hcc'⟩:=iz HRD2.out (show j-1<q1 by omega)
      injection e with e;injection e with e1 e2 _;subst e1 e2;rw[<-HW.out] at hcc';have hu:=HUP.out (j-1) (by omega);rw[show j-1+1=j by omega] at hu;have huI:¬((x.1.getD j 0:Nat):Int)<=((x.1.getD (j-1) 0:Nat):Int):=(by omega);have hj0I:(0:Int)<(j:Int):=(by omega);have hj1:IntKind.i64.wrap ((j:Int)-1)=((j-1:Nat):Int):=(by rw[IntKind.wrap_i64];omega);have hj2:((j:Int)-1)=((j-1:Nat):Int):=(by omega);have hj3:((j-1:Nat):Int)<(q1:Int):=(by omega);have HJ:Hid (j+1<=q1/\q1-(j+1)<q1-j):=ae (by omega);clear hjl hu;generalize x.1.getD j 0=y at*;generalize hj1e:j-1=j1 at*;generalize x.1.getD j1 0=z at*;clear hj1e;go_wp2_with fail;go_roundw
      case rel=>(try((repeat apply Exists.intro);refine⟨?_,rfl⟩));exact⟨j+1,by omega,by go_num,HW.out⟩
      case measure=>simp[intOf];omega
    ·obtain rfl:j=q1:=by omega
     have HB3:Hid (Below w.heap.size w wr):=ae (by rw[HW.out];exact HB2.out);have h0I:(0:Int)<(N:Int):=(by omega);go_wp2_with fail
     go_quiet (fail)
     go_wp2_with fail;go_roundw
     case rel=>first | exact⟨k+1,by omega,by go_num,ae (below_drewN HB3.out _)⟩ | ((repeat apply Exists.intro);exact⟨⟨k+1,by omega,by go_num,ae (below_drewN HB3.out _)⟩,rfl⟩) | exact⟨k+1,by omega,by go_num,HB3⟩ | ((repeat apply Exists.intro);exact⟨⟨k+1,by omega,by go_num,HB3⟩,rfl⟩)
     case measure=>simp[intOf];omega
  ·obtain rfl:k=N:=by omega
   go_wp2_with fail;go_ret;exact⟨rfl,HB.out⟩
