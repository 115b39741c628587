import Derived.Test.YtgccllbnfngpcaaGreatDoorW14
set_option linter.unusedVariables false
set_option maxRecDepth 100000
set_option maxHeartbeats 400000000
namespace Go.Proofs.YtgccllbnfngpcaaGreatDoor
open Go.RowKit _root_.Go.Proofs.Tryz List
open Value (int slice pointer bool)
open IntKind (i64)
open Ending (returned)
open Obj (cells)
def Kept2(w w':World)(g1 g2:Nat):Prop:=Below 0 w w'/\∀b,b<w.heap.size->b≠g1->b≠g2->w'.heap[b]? =w.heap[b]?
theorem Kept2.refl(w:World)(g1 g2:Nat):Kept2 w w g1 g2:=⟨az _ _,fun _ _ _ _=>rfl⟩
theorem Kept2.trans{w w1 w2:World}{g1 g2:Nat}(h:Kept2 w w1 g1 g2)(h':Kept2 w1 w2 g1 g2):Kept2 w w2 g1 g2:=⟨h.1.trans h'.1,fun b hb n1 n2=>(h'.2 b (aU hb h.1.size) n1 n2).trans (h.2 b hb n1 n2)⟩
theorem Kept2.below{w w':World}{g1 g2:Nat}(h:Below w.heap.size w w'):Kept2 w w' g1 g2:=⟨h.mono (bu _),fun b hb _ _=>h.block b hb⟩
def gS(V:Nat->List Nat)(X W:Nat->List Nat)(k:Nat):Nat->List Nat:=fun c=>if c<k/\V c≠[] then X c else W c
theorem wh{V X W:Nat->List Nat}{k:Nat}(h:V k≠[]):gS V X W (k+1)=jC (gS V X W k) k (X k):=funext fun c=>by
 unfold gS jC;by_cases hc:c=k
 ·subst hc;rw[bf rfl,bf ⟨by omega,h⟩]
 ·rw[bg hc]
  show(if c<k+1/\V c≠[] then X c else W c)=if c<k/\V c≠[] then X c else W c;by_cases h2:c<k/\V c≠[]
  ·rw[bf h2,bf ⟨by omega,h2.2⟩]
  ·rw[bg h2,bg (fun h=>h2 ⟨by omega,h.2⟩)]
theorem SvSt.new{w w':World}{g gf K H Z n gv gw gm:Nat}{rest vS vD vL:Value}{F:Nat->Prop}{V W M:Nat->List Nat}(h:SvSt w g gf K H Z n gv gw gm rest vS vD vL F V W M)(hb:Below w.heap.size w w'):SvSt w' g gf K H Z n gv gw gm rest vS vD vL F V W M:=by
 obtain⟨hs,a1,a2,a3⟩:=h.vls;exact⟨h.blk.below hb h.blk.lt,Blk.below (t:=337) h.fld hb (Blk.lt (t:=337) h.fld),⟨hs,a1.below hb a1.lt,a2,fun c hc=>(rN _).new (a3 c hc) hb⟩,h.way.new hb,h.mor.new hb,h.ne,h.off⟩
theorem SvSt.put2{w wa w':World}{g gf K H Z n gv gw gm k:Nat}{rest vS vD vL u1 u2:Value}{F:Nat->Prop}{V W M:Nat->List Nat}{d1 d2:List Nat}(h:SvSt w g gf K H Z n gv gw gm rest vS vD vL F V W M)(hb:Below w.heap.size w wa)
 (hw:w'=(wa.setCell ⟨gw,k,none⟩ u1).setCell ⟨gm,k,none⟩ u2)(h1:(rB d1).ok wa F [u1])(h2:(rB d2).ok wa F [u2]):SvSt w' g gf K H Z n gv gw gm rest vS vD vL F V (jC W k d1) (jC M k d2)/\Kept2 w w' gw gm:=by
 subst hw;obtain⟨n1,n2,n3⟩:=h.ne;have hfar:∀b,b≠gw->b≠gm->((wa.setCell ⟨gw,k,none⟩ u1).setCell ⟨gm,k,none⟩ u2).heap[b]? =wa.heap[b]? :=fun b a1 a2=>(bE _ _ _ _ a2).trans (bE _ _ _ _ a1);have hF:∀b,F b->b≠gw/\b≠gm:=fun b hb=>⟨(h.off b hb).2.2.1,(h.off b hb).2.2.2⟩;have hrow:∀ {d u},(rB d).ok wa F [u]->(rB d).ok ((wa.setCell ⟨gw,k,none⟩ u1).setCell ⟨gm,k,none⟩ u2) F [u]:=fun hd=>(rB _).keep hd fun b hb _=>⟨hfar b (hF b hb).1 (hF b hb).2,hb⟩;have hlow:∀b,b<w.heap.size->b≠gw->b≠gm->((wa.setCell ⟨gw,k,none⟩ u1).setCell ⟨gm,k,none⟩ u2).heap[b]? =w.heap[b]? :=fun b hb' a1 a2=>(hfar b a1 a2).trans (hb.block b hb');obtain⟨w1,w2,-⟩:=h.way.ex;obtain⟨m1,m2,-⟩:=h.mor.ex;have hkeepF:∀b,F b->b<w.heap.size->((wa.setCell ⟨gw,k,none⟩ u1).setCell ⟨gm,k,none⟩ u2).heap[b]? =w.heap[b]? :=fun b hb hlt=>hlow b hlt (hF b hb).1 (hF b hb).2;refine⟨⟨?_,?_,?_,?_,?_,h.ne,h.off⟩,?_,hlow⟩
 ·exact(hlow g h.blk.lt (Blk.ne h.blk w2 (by decide)) (Blk.ne h.blk m2 (by decide))).trans h.blk
 ·exact(hlow gf (Blk.lt (t:=337) h.fld) (Blk.ne (t:=337) h.fld w2 (by decide)) (Blk.ne (t:=337) h.fld m2 (by decide))).trans h.fld
 ·obtain⟨hs,a1,a2,a3⟩:=h.vls
  exact⟨hs,(hlow gv a1.lt n1 n2).trans a1,a2,fun c hc=>(rN _).keep (a3 c hc) fun b hb hlt=>⟨hkeepF b hb hlt,hb⟩⟩
 ·exact h.way.put (hrow h1) hkeepF fun hs hh=>Blk.far (p:=⟨gm,k,none⟩) (Blk.set (hh.below hb hh.lt) k u1) n3 _
 ·exact h.mor.put (hrow h2) hkeepF fun hs hh=>Blk.set (Blk.far (p:=⟨gw,k,none⟩) (hh.below hb hh.lt) (fun e=>n3 e.symm) _) k u2
 ·exact((hb.mono (bu _)).setCell (bu _) _).setCell (bu _) _
theorem Lc(g gf K H Z n gv gw gm D cD:Nat)(aD:Option Addr)(rest vS vL:Value)(F:Nat->Prop)(V W M:Nat->List Nat)(w:World)(hS:SvSt w g gf K H Z n gv gw gm rest vS (slice aD D cD) vL F V W M)(hn:n<=1000)(hD:D<=1000)(hFn:∀b,w.heap.size<=b->F b):
 Calls prog 236 #[pointer (some ⟨g,0,none⟩)] w fun e w'=>e=returned (.tuple #[])/\SvSt w' g gf K H Z n gv gw gm rest vS (slice aD D cD) vL F V (gS V (fun _=>replicate D 0) W n) (gS V V M n)/\Kept2 w w' gw gm:=by
 have HQ0:Hid (SvSt w g gf K H Z n gv gw gm rest vS (slice aD D cD) vL F V (gS V (fun _=>replicate D 0) W 0) (gS V V M 0)/\Kept2 w w gw gm):=ae ⟨by
  have e1:gS V (fun _=>replicate D 0) W 0=W:=funext fun c=>bg (fun h=>absurd h.1 (Nat.not_lt_zero c));have e2:gS V V M 0=M:=funext fun c=>bg (fun h=>absurd h.1 (Nat.not_lt_zero c));rw[e1,e2];exact hS,Kept2.refl _ _ _⟩
 have p4:=hS.blk.cell 4;have hmk:∀w:World,(Instr.makeSlice 30 (int i64 (D:Int)) (int i64 (D:Int))).run prog w=.ok (slice (some ⟨w.heap.size,0,none⟩) D D) (w.alloc (cells (bJ (replicate D 0)) 5)):=fun w=>dD (n:=D) (by omega) w;have HF:=ae hFn;clear hS hFn;go_enter func236,ntmps236;unfold svC at p4;go_wp2_with fail;clear p4;go_loopw [9] (fun i wr=>∃k:Nat,k<=n/\i=int i64 k/\Hid (SvSt wr g gf K H Z n gv gw gm rest vS (slice aD D cD) vL F V (gS V (fun _=>replicate D 0) W k) (gS V V M k)/\Kept2 w wr gw gm)) (fun i _=>n-(intOf i).toNat)
 case atStart=>exact⟨0,by omega,rfl,HQ0⟩
 case round=>
  clear HQ0;obtain⟨k,hkn,rfl,HQ⟩:=hrel;obtain⟨hS,hk⟩:=HQ.out;by_cases hlt:k<n
  ·have hltI:(k:Int)<(n:Int):=by omega
   obtain⟨hs1,v1,v2,v3⟩:=hS.vls;have h3:=v3 k hlt;obtain⟨a,c,e,hr1,hr2,hr3,hr4,hr5,hr6⟩:=K3 h3;have cv:wr.cell? ⟨gv,k,none⟩=some (slice a (V k).length c):=(v1.cell k).trans (by rw[<-e];simpa using rK (hs:=hs1) (by omega));by_cases hV:V k=[]
   ·obtain⟨rfl,rfl⟩:=hr5 hV
    have hn0:(V k).length=0:=(by rw[hV];rfl);rw[hn0] at cv
    have HQn:Hid (SvSt wr g gf K H Z n gv gw gm rest vS (slice aD D cD) vL F V (gS V (fun _=>replicate D 0) W (k+1)) (gS V V M (k+1))/\Kept2 w wr gw gm):=ae ⟨by
     have e1:∀X W:Nat->List Nat,gS V X W (k+1)=gS V X W k:=fun X W=>funext fun c=>by
      unfold gS;by_cases hc:c=k
      ·subst hc;rw[bg (fun h=>h.2 hV),bg (fun h=>h.2 hV)]
      ·by_cases h2:c<k/\V c≠[]
       ·rw[bf h2,bf ⟨by omega,h2.2⟩]
       ·rw[bg h2,bg (fun h=>h2 ⟨by omega,h.2⟩)]
     rw[e1,e1];exact hS,hk⟩
    clear hS hk v1 v2 v3 h3 hr1 hr2 hr3 hr4 hr5 hr6 e HQ hV hn0;have hq:=fun W a l c=>run_neq_slice_nil (P:=prog) W 30 5 a l c underlying30
    go_wp2_with (simp only[hq])
    go_roundw
    case rel=>exact⟨k+1,by omega,by go_num,HQn⟩
    case measure=>simp[intOf];omega
   ·obtain⟨p,rfl⟩:∃p,a=some p:=by
     cases a with
     | none=>exact absurd rfl (hr6 hV)
     | some p=>exact⟨p,rfl⟩
    have hq:=fun W a l c=>run_neq_slice_nil (P:=prog) W 30 5 a l c underlying30;obtain⟨aw,qw,dw,cw,-,-,-,-,-,-,fw⟩:=hS.way.at hlt;obtain⟨am,qm,dm,cm,-,-,-,-,-,-,fm'⟩:=hS.mor.at hlt;have p9:=hS.blk.cell 9;have p10:=hS.blk.cell 10;have p7:=hS.blk.cell 7;unfold svC at p9 p10 p7;have HS:=ae hS;have HK:=ae hk;have HV:=ae hV;have HR:=ae h3
    have HRV:Hid ((rB (V k)).ok (wr.alloc (cells (bJ (replicate D 0)) 5)) F [slice (some p) (V k).length c]):=ae (by
     have h4:=h3;rw[e] at h4;unfold rN at h4;rw[bg hV] at h4;exact(rB _).new h4 ((az wr.heap.size wr).alloc (ah _) _))
    obtain⟨n1,n2,n3⟩:=hS.ne;have hd1:¬gw=gm:=n3;have hd2:¬gm=gw:=fun e=>n3 e.symm;clear hS hk hV v1 v2 v3 h3 hr1 hr2 hr3 hr4 hr5 hr6 e HQ;generalize (V k).length=q at*;have hba:∀m,Below wr.heap.size wr ((wr.alloc (cells (bJ (replicate D 0)) 5)).drewN m):=fun m=>below_drewN ((az wr.heap.size wr).alloc (ah _) _) m;have fw1:(wr.alloc (cells (bJ (replicate D 0)) 5)).drew.frozen? ⟨gw,k,none⟩=false:=(World.frozen?_of_block (w:=wr) (a:=⟨gw,k,none⟩) ((hba 1).block gw HS.out.way.lt)).trans fw;have fm1:(wr.alloc (cells (bJ (replicate D 0)) 5)).drew.frozen? ⟨gm,k,none⟩=false:=(World.frozen?_of_block (w:=wr) (a:=⟨gm,k,none⟩) ((hba 1).block gm HS.out.mor.lt)).trans fm';have cw1:(wr.alloc (cells (bJ (replicate D 0)) 5)).drew.cell? ⟨gw,k,none⟩=some (slice aw qw dw):=((hba 1).cell (p:=⟨gw,k,none⟩) HS.out.way.lt).trans cw;have cm1:(wr.alloc (cells (bJ (replicate D 0)) 5)).drew.cell? ⟨gm,k,none⟩=some (slice am qm dm):=((hba 1).cell (p:=⟨gm,k,none⟩) HS.out.mor.lt).trans cm;have fw2:(wr.alloc (cells (bJ (replicate D 0)) 5)).frozen? ⟨gw,k,none⟩=false:=(World.frozen?_of_block (w:=wr) (a:=⟨gw,k,none⟩) ((hba 0).block gw HS.out.way.lt)).trans fw;have fm2:(wr.alloc (cells (bJ (replicate D 0)) 5)).frozen? ⟨gm,k,none⟩=false:=(World.frozen?_of_block (w:=wr) (a:=⟨gm,k,none⟩) ((hba 0).block gm HS.out.mor.lt)).trans fm';have cw2:(wr.alloc (cells (bJ (replicate D 0)) 5)).cell? ⟨gw,k,none⟩=some (slice aw qw dw):=((hba 0).cell (p:=⟨gw,k,none⟩) HS.out.way.lt).trans cw;have cm2:(wr.alloc (cells (bJ (replicate D 0)) 5)).cell? ⟨gm,k,none⟩=some (slice am qm dm):=((hba 0).cell (p:=⟨gm,k,none⟩) HS.out.mor.lt).trans cm;have p9a:=((HS.out.blk.below (hba 1) HS.out.blk.lt).cell 9);have p10a:=((HS.out.blk.below (hba 1) HS.out.blk.lt).cell 10);have p9b:=((HS.out.blk.below (hba 0) HS.out.blk.lt).cell 9);have p10b:=((HS.out.blk.below (hba 0) HS.out.blk.lt).cell 10);unfold svC at p9a p10a p9b p10b;change (wr.alloc (cells (bJ (replicate D 0)) 5)).drew.cell? _=_ at p9a p10a;change (wr.alloc (cells (bJ (replicate D 0)) 5)).cell? _=_ at p9b p10b;have HBA:=ae hba;clear hba;go_upto_region 4 with(simp only[hq]);go_region_law (simp only[hmk])
    all_goals(
     go_wp2_with fail;refine⟨⟨k+1,by omega,by go_num,ae ?_⟩,by simp[intOf];omega⟩
     have hz:(rB (replicate D 0)).ok (wr.alloc (cells (bJ (replicate D 0)) 5)) F [slice (some ⟨wr.heap.size,0,none⟩) D D]:=by
      have h:=lQ (F:=F) (Blk.new wr 5 (bJ (replicate D 0))) (HF.out _ HK.out.1.size) (by rw[aI];unfold maxLen;omega)
      rwa [aI] at h
     have hv:(rB (V k)).ok (wr.alloc (cells (bJ (replicate D 0)) 5)) F [slice (some p) q c]:=HRV.out;obtain⟨h1,h2⟩:=SvSt.put2 (wa:=wr.alloc (cells (bJ (replicate D 0)) 5)) HS.out (HBA.out 0) rfl hz hv;rw[wh HV.out,wh HV.out];exact⟨h1.new (below_drewN (az _ _) 1),HK.out.trans (h2.trans (Kept2.below (below_drewN (az _ _) 1)))⟩)
  ·obtain rfl:k=n:=by omega
   go_wp2_with fail
   go_end0
   exact⟨rfl,hS,hk⟩
theorem DY{c:Nat}{a b:List Nat}(h:a.length=b.length):kS c a b=xr b (jS c a):=by
 have hs:b.length=(jS c a).length:=by rw[lV,h]
 refine jh (by rw[fP h,jQ hs]) fun j=> ?_;rw[kE h,mb hs,jk]
def gF(f:Nat->List Nat)(De:List Nat):Nat->Nat->List Nat
 | 0=>fun _=>[]
 | k+1=>jC (gF f De k) (De.getD k 0) (f k)
theorem DZ{l:List Nat}(h:l.Nodup){i j:Nat}(hij:i<j)(hj:j<l.length):l.getD i 0≠l.getD j 0:=by
 rw[af,af,ag (by omega),ag hj];exact(pairwise_iff_getElem.1 h) i j (by omega) hj hij
theorem EZ{f:Nat->List Nat}{De:List Nat}(h:De.Nodup):∀k,k<=De.length->∀i,i<k->gF f De k (De.getD i 0)=f i:=by
 intro k
 induction k with
 | zero=>intro _ i hi;omega
 | succ k ih=>
   intro hk i hi;show jC (gF f De k) (De.getD k 0) (f k) (De.getD i 0)=f i;by_cases e:i=k
   ·subst e;exact lL _ _ _
   ·rw[kF _ _ (DZ h (by omega) (by omega))]
    exact ih (by omega) i (by omega)
theorem Bn{D:Nat}{l:List (List Nat)}{St:List (Nat×Nat)}{De:List Nat}
 (P:∀(k r c:Nat),St[k]? =some (r,c)->r<l.length/\c∈l.getD r []/\∀d∈l.getD r [],d≠c->d∈De\/∃k' r',k'<k/\St[k']? =some (r',d)){W0 z:Nat->List Nat}(hz:∀r,r<l.length->Byt D (z r))(h0:∀c∈De,Byt D (W0 c)):
 ∀k,k<=St.length->∀c,c∈De\/c∈(St.take k).map Prod.snd->Byt D (df l z W0 (St.take k) c):=by
 intro k
 induction k with
 | zero=>
   intro _ c hc;rcases hc with hc | hc
   ·exact h0 c hc
   ·simp at hc
 | succ k ih=>
   intro hk c hc;have hkl:k<St.length:=(by omega);obtain⟨r,d,hrd⟩:∃r d,St[k]=(r,d):=⟨_,_,rfl⟩;have hs:St[k]? =some (r,d):=(by rw[ag hkl,hrd]);have htk:St.take (k+1)=St.take k++[(r,d)]:=(by rw[aN hkl,hrd]);obtain⟨p1,p2,p3⟩:=P k r d hs;have ih:=ih (by omega);rw[htk,kZ];by_cases hcd:c=d
   ·subst hcd
    rw[lL];refine dF (hz r p1) fun e he=>ih e ?_;obtain⟨h1,h2⟩:=mem_filter.1 he;have hne:e≠c:=(by simpa using h2);rcases p3 e h1 hne with h | ⟨k',r',h3,h4⟩
    ·exact .inl h
    ·right
     refine aW.2 ⟨(r',e),?_,rfl⟩;refine mem_of_getElem? (i:=k') ?_;rw[List.getElem?_take,bf h3];exact h4
   ·rw[kF _ _ hcd]
    refine ih c ?_;rcases hc with hc | hc
    ·exact .inl hc
    ·right
     rw[htk,aQ] at hc;rcases bz.1 hc with hc | hc
     ·exact hc
     ·exact absurd (by simpa using hc) hcd
theorem Bo{cols:List Nat}{j x:Nat}(hj:j<cols.length):(cols.take (j+1)).filter (fun d=> !(d == x))=(cols.take j).filter (fun d=> !(d == x))++if cols.getD j 0=x then [] else [cols.getD j 0]:=by
 have e:cols.getD j 0=cols[j]:=by rw[af,ag hj];rfl
 rw[aN hj,filter_append,e];congr 1;by_cases h:cols[j]=x
 ·rw[bf h];simp[h]
 ·rw[bg h];simp[h]
theorem xW(m:Nat->List Nat)(L:List Nat)(c:Nat)(z:List Nat):bP m (L++[c]) z=xr (bP m L z) (m c):=by unfold bP;rw[foldl_append];rfl
theorem SvSt.putG{w w':World}{g gf K H Z n gv gw gm k:Nat}{rest vS vD vL u1 u2:Value}{F:Nat->Prop}{V W M:Nat->List Nat}{d1 d2:List Nat}(h:SvSt w g gf K H Z n gv gw gm rest vS vD vL F V W M)(hsz:Below 0 w w')
 (hoth:∀b,b<w.heap.size->b≠gw->b≠gm->w'.heap[b]? =w.heap[b]?)(hgw:∀hs:Array Value,Blk w gw 30 hs->Blk w' gw 30 (hs.setIfInBounds k u1))(hgm:∀hs:Array Value,Blk w gm 30 hs->Blk w' gm 30 (hs.setIfInBounds k u2))
 (h1:(rB d1).ok w' F [u1])(h2:(rB d2).ok w' F [u2]):SvSt w' g gf K H Z n gv gw gm rest vS vD vL F V (jC W k d1) (jC M k d2)/\Kept2 w w' gw gm:=by
 obtain⟨n1,n2,n3⟩:=h.ne;have hF:∀b,F b->b≠gw/\b≠gm:=fun b hb=>⟨(h.off b hb).2.2.1,(h.off b hb).2.2.2⟩;obtain⟨w1,w2,-⟩:=h.way.ex;obtain⟨m1,m2,-⟩:=h.mor.ex;have hkeepF:∀b,F b->b<w.heap.size->w'.heap[b]? =w.heap[b]? :=fun b hb hlt=>hoth b hlt (hF b hb).1 (hF b hb).2;refine⟨⟨?_,?_,?_,?_,?_,h.ne,h.off⟩,hsz,hoth⟩
 ·exact(hoth g h.blk.lt (Blk.ne h.blk w2 (by decide)) (Blk.ne h.blk m2 (by decide))).trans h.blk
 ·exact(hoth gf (Blk.lt (t:=337) h.fld) (Blk.ne (t:=337) h.fld w2 (by decide)) (Blk.ne (t:=337) h.fld m2 (by decide))).trans h.fld
 ·obtain⟨hs,a1,a2,a3⟩:=h.vls
  exact⟨hs,(hoth gv a1.lt n1 n2).trans a1,a2,fun c hc=>(rN _).keep (a3 c hc) fun b hb hlt=>⟨hkeepF b hb hlt,hb⟩⟩
 ·exact h.way.put h1 hkeepF fun hs hh=>hgw hs hh
 ·exact h.mor.put h2 hkeepF fun hs hh=>hgm hs hh
theorem Jz{w:World}{C:Nat}{v:Value}{ys:List (Nat×Nat)}(h:OwnT w C v ys):(rS 2 (ys.map iD)).ok w (Fr C) [v]:=by
 obtain⟨a,c,rfl,r1,r2,r3,r4,r5⟩:=dB h;refine⟨a,ys.length,c,rfl,r2,r3,r1,by rw[aC],iY ys,jg ys,fun hn=> ?_,fun i R hR=> ?_⟩
 ·obtain⟨b,o,e1,⟨hb,_⟩,_,hc⟩:=r5 hn
  exact⟨b,o,e1,hb,hc⟩
 ·rw[List.getElem?_map] at hR
  obtain⟨x,hx,rfl⟩:=Option.map_eq_some_iff.1 hR;have hi:=(List.getElem?_eq_some_iff.1 hx).1;have ex:ys.getD i (0,0)=x:=(by rw[af,hx];rfl);obtain⟨s0,s1⟩:=nR hi;rw[ex] at s0 s1;have hl:=jg ys;obtain⟨l0,e0⟩:=List.getElem?_eq_some_iff.1 s0;obtain⟨l1,e1⟩:=List.getElem?_eq_some_iff.1 s1
  have e:((iY ys).drop (i*2)).take 2=[int i64 (x.1:Nat)]++[int i64 (x.2:Nat)]:=by
   rw[drop_eq_getElem_cons l0,drop_eq_getElem_cons l1,e0,e1];rfl
  rw[e];exact rX (uW rfl) (uW rfl)
theorem JA{L:List (Nat×Nat)}{w:World}{F:Nat->Prop}{a:Option Addr}{n c i:Nat}(h:(rS 2 (L.map iD)).ok w F [slice a n c])(hl:L.length=n)(hi:i<n):
 ∃b o,a=some ⟨b,o,none⟩/\F b/\b<w.heap.size/\w.cell? ⟨b,o+i*2,none⟩=some (int i64 ((L.getD i (0,0)).1:Nat))/\w.cell? ⟨b,o+i*2+1,none⟩=some (int i64 ((L.getD i (0,0)).2:Nat)):=by
 have hiL:i<L.length:=by omega
 have hR:(L.map iD)[i]? =some (iD (L.getD i (0,0))):=by rw[List.getElem?_map,af,ag hiL];rfl
 obtain⟨b,o,ds,rfl,hF,hb,hok,hlen,hc⟩:=rY h (by decide) hi hR;obtain⟨x,y,rfl,h1,h2⟩:=hok;have hx:x=[int i64 ((L.getD i (0,0)).1:Nat)]:=h1.1;have hy:y=[int i64 ((L.getD i (0,0)).2:Nat)]:=h2.1;subst hx hy;exact⟨b,o,rfl,hF,hb,hc 0 _ rfl,hc 1 _ rfl⟩
theorem qf(w:World)(X Y:Array Value)(tX tY:TypeId):Blk ((w.alloc (.cells X tX)).alloc (.cells Y tY)) w.heap.size tX X/\Blk ((w.alloc (.cells X tX)).alloc (.cells Y tY)) (w.heap.size+1) tY Y/\Below w.heap.size w ((w.alloc (.cells X tX)).alloc (.cells Y tY)):=by
 have e1:(w.alloc (.cells X tX)).heap.size=w.heap.size+1:=by simp
 have b1:=(az w.heap.size w).alloc (ah _) (.cells X tX);have b2:=(az (w.alloc (.cells X tX)).heap.size (w.alloc (.cells X tX))).alloc (ah _) (.cells Y tY);have k1:=Blk.new w tX X;have k2:=Blk.new (w.alloc (.cells X tX)) tY Y;have k1':=k1.below b2 k1.lt;rw[e1] at k2;exact⟨k1',k2,b1.trans (b2.mono (by rw[e1];omega))⟩
theorem SvSt.begin{w w':World}{g gf K H Z n gv gw gm:Nat}{rest vS vD vL wy mo:Value}{F:Nat->Prop}{V:Nat->List Nat}
 (hg:Blk w g 292 (svC gf K H Z (slice (some ⟨gv,0,none⟩) n n) rest vS vD vL wy mo))(hF:Fld w gf)
 (hv:∃hs:List Value,Blk w gv 30 hs.toArray/\hs.length=n/\∀c,c<n->(rN (V c)).ok w F [hs.getD c undef])(hoff:∀b,F b->b≠g/\b≠gv){C1:Nat}
 (hg':Blk w' g 292 (svC gf K H Z (slice (some ⟨gv,0,none⟩) n n) rest vS vD vL (slice (some ⟨gw,0,none⟩) n n) (slice (some ⟨gm,0,none⟩) n n)))
 (hw':Blk w' gw 30 (replicate n (Value.slice none 0 0)).toArray)(hm':Blk w' gm 30 (replicate n (Value.slice none 0 0)).toArray)(hk:∀b,b<w.heap.size->b≠g->w'.heap[b]? =w.heap[b]?)
 (h1:w.heap.size<=gw/\gw<C1)(h2:w.heap.size<=gm/\gm<C1)(h3:gw≠gm):
 SvSt w' g gf K H Z n gv gw gm rest vS vD vL (fun b=>(F b/\b<w.heap.size)\/C1<=b) V (fun _=>[]) (fun _=>[]):=by
 obtain⟨hs,v1,v2,v3⟩:=hv;have hgg:g<w.heap.size:=hg.lt;have hgv:gv<w.heap.size:=v1.lt;have hgfg:gf≠g:=Blk.ne (t:=337) hF hg (by decide);have hvg:gv≠g:=Blk.ne v1 hg (by decide);refine⟨hg',(hk gf (Blk.lt (t:=337) hF) hgfg).trans hF,⟨hs,(hk gv hgv hvg).trans v1,v2,fun c hc=>(rN _).keep (v3 c hc) fun b hb hlt=>⟨hk b hlt (hoff b hb).1,.inl ⟨hb,hlt⟩⟩⟩,Hs.begin hw',Hs.begin hm',⟨by omega,by omega,h3⟩,fun b hb=> ?_⟩;rcases hb with⟨hb,hlt⟩ | hb
 ·have:=hoff b hb
  exact⟨this.1,this.2,by omega,by omega⟩
 ·exact⟨by omega,by omega,by omega,by omega⟩
theorem SvSt.begin2{w:World}{g gf K H Z n gv gw gm:Nat}{rest vS vD vL wy mo:Value}{F:Nat->Prop}{V:Nat->List Nat}{ch:Array Value}(hch:(replicate n (Value.slice none 0 0)).toArray=ch)
 (hg:Blk w g 292 (svC gf K H Z (slice (some ⟨gv,0,none⟩) n n) rest vS vD vL wy mo))(hF:Fld w gf)
 (hv:∃hs:List Value,Blk w gv 30 hs.toArray/\hs.length=n/\∀c,c<n->(rN (V c)).ok w F [hs.getD c undef])(hoff:∀b,F b->b≠g/\b≠gv)
 (h:gw=w.heap.size/\gm=w.heap.size+1\/gw=w.heap.size+1/\gm=w.heap.size){w':World}(hw':w'=(((w.setCell ⟨g,9,none⟩ (slice (some ⟨gw,0,none⟩) n n)).setCell ⟨g,10,none⟩ (slice (some ⟨gm,0,none⟩) n n)).alloc (.cells ch 30)).alloc (.cells ch 30)):
 (w.heap.size<=gw/\w.heap.size<=gm)/\SvSt w' g gf K H Z n gv gw gm rest vS vD vL (fun b=>(F b/\b<w.heap.size)\/w.heap.size+2<=b) V (fun _=>[]) (fun _=>[])/\w'.heap.size=w.heap.size+2/\(∀b,b<w.heap.size->b≠g->w'.heap[b]? =w.heap[b]?)/\Below 0 w w':=by
 have hb0:Below 0 w w':=by rw[hw'];exact((((az 0 w).setCell (bu _) _).setCell (bu _) _).alloc (bu _) _).alloc (bu _) _
 have hs2:((w.setCell ⟨g,9,none⟩ (slice (some ⟨gw,0,none⟩) n n)).setCell ⟨g,10,none⟩ (slice (some ⟨gm,0,none⟩) n n)).heap.size=w.heap.size:=by simp
 have h2:Blk ((w.setCell ⟨g,9,none⟩ (slice (some ⟨gw,0,none⟩) n n)).setCell ⟨g,10,none⟩ (slice (some ⟨gm,0,none⟩) n n)) g 292 (svC gf K H Z (slice (some ⟨gv,0,none⟩) n n) rest vS vD vL (slice (some ⟨gw,0,none⟩) n n) (slice (some ⟨gm,0,none⟩) n n)):=(hg.set 9 _).set 10 _;have hfar:∀b,b≠g->((w.setCell ⟨g,9,none⟩ (slice (some ⟨gw,0,none⟩) n n)).setCell ⟨g,10,none⟩ (slice (some ⟨gm,0,none⟩) n n)).heap[b]? =w.heap[b]? :=fun b hb=>(bE _ _ _ _ hb).trans (bE _ _ _ _ hb);generalize (w.setCell ⟨g,9,none⟩ (slice (some ⟨gw,0,none⟩) n n)).setCell ⟨g,10,none⟩ (slice (some ⟨gm,0,none⟩) n n)=w2 at*;obtain⟨k1,k2,kb⟩:=qf w2 ch ch 30 30;have hsz:w'.heap.size=w.heap.size+2:=by rw[hw'];simp[hs2]
 rw[<-hw',hs2] at k1 k2 kb;have hlow:∀b,b<w.heap.size->b≠g->w'.heap[b]? =w.heap[b]? :=fun b hb hne=>(kb.block b hb).trans (hfar b hne);refine⟨by omega,SvSt.begin hg hF hv hoff (h2.below kb hg.lt) ?_ ?_ hlow (by omega) (by omega) (by omega),hsz,hlow,hb0⟩
 ·rw[hch]
  rcases h with⟨rfl,rfl⟩ | ⟨rfl,rfl⟩
  ·exact k1
  ·exact k2
 ·rw[hch]
  rcases h with⟨rfl,rfl⟩ | ⟨rfl,rfl⟩
  ·exact k2
  ·exact k1
theorem uF{wo w':World}{gw gm c:Nat}{u1 u2:Value}{X Y:Array Value}{tX tY:TypeId}(hgw:gw<wo.heap.size)(hgm:gm<wo.heap.size)(hne:gw≠gm)(hw':w'=(((wo.setCell ⟨gw,c,none⟩ u1).setCell ⟨gm,c,none⟩ u2).alloc (.cells X tX)).alloc (.cells Y tY)):
 Blk w' wo.heap.size tX X/\Blk w' (wo.heap.size+1) tY Y/\Below 0 wo w'/\(∀b,b<wo.heap.size->b≠gw->b≠gm->w'.heap[b]? =wo.heap[b]?)/\
 (∀hs:Array Value,Blk wo gw 30 hs->Blk w' gw 30 (hs.setIfInBounds c u1))/\(∀hs:Array Value,Blk wo gm 30 hs->Blk w' gm 30 (hs.setIfInBounds c u2)):=by
 have hs2:((wo.setCell ⟨gw,c,none⟩ u1).setCell ⟨gm,c,none⟩ u2).heap.size=wo.heap.size:=by simp
 have hb0:Below 0 wo w':=by rw[hw'];exact((((az 0 wo).setCell (bu _) _).setCell (bu _) _).alloc (bu _) _).alloc (bu _) _
 have hfar:∀b,b≠gw->b≠gm->((wo.setCell ⟨gw,c,none⟩ u1).setCell ⟨gm,c,none⟩ u2).heap[b]? =wo.heap[b]? :=fun b h1 h2=>(bE _ _ _ _ h2).trans (bE _ _ _ _ h1);have h1:∀hs:Array Value,Blk wo gw 30 hs->Blk ((wo.setCell ⟨gw,c,none⟩ u1).setCell ⟨gm,c,none⟩ u2) gw 30 (hs.setIfInBounds c u1):=fun hs hh=>Blk.far (p:=⟨gm,c,none⟩) (Blk.set hh c u1) hne _;have h2:∀hs:Array Value,Blk wo gm 30 hs->Blk ((wo.setCell ⟨gw,c,none⟩ u1).setCell ⟨gm,c,none⟩ u2) gm 30 (hs.setIfInBounds c u2):=fun hs hh=>Blk.set (Blk.far (p:=⟨gw,c,none⟩) hh (fun e=>hne e.symm) _) c u2;generalize (wo.setCell ⟨gw,c,none⟩ u1).setCell ⟨gm,c,none⟩ u2=w2 at*;obtain⟨k1,k2,kb⟩:=qf w2 X Y tX tY;rw[<-hw',hs2] at k1 k2 kb;exact⟨k1,k2,hb0,fun b hb n1 n2=>(kb.block b hb).trans (hfar b n1 n2),fun hs hh=>(h1 hs hh).below kb hgw,fun hs hh=>(h2 hs hh).below kb hgm⟩
def zm(K H Z:Nat)(s:Int)(L:List (Nat×List Nat)):List (List Nat×List Nat):=L.map fun x=>(ib K H Z s (x.1:Nat),x.2)
theorem xX{n Z:Nat}{m:Nat->List Nat}{kn:List Bool}{vl:List (List Nat)}(h:ConsP n m kn vl)(hm:∀c,c<n->(m c).length=Z)(hZ:1<=Z)(X W:Nat->List Nat){c:Nat}(hc:c<n):
 gS (fun c=>vl.getD c []) X W n c=zr (fun c=>kn.getD c false) W X c:=by
 unfold gS zr;cases hk:kn.getD c false with
 | true=>
   have e:=(h c hc).1 hk;have h1:=hm c hc
   rw[bf ⟨hc,fun e2=>by
    have e3:vl.getD c []=[]:=e2;rw[e] at e3;rw[e3] at h1;simp at h1;omega⟩,bf (show(fun c=>kn.getD c false) c=true from hk)]
 | false=>
   have e:=(h c hc).2 hk;rw[bg (fun h2=>h2.2 e),bg (fun h2:(fun c=>kn.getD c false) c=true=>absurd (hk.symm.trans h2) (by decide))]
theorem KV{n Z:Nat}{m:Nat->List Nat}{kn:List Bool}{L:List (List Nat×List Nat)}(hR:vV n Z m L)(hN:∀x∈L,x.1.Nodup){r:Nat}(hr:r<(fT kn m Z L).length):
 ∃x∈L,(fT kn m Z L).getD r ([],[])=wu kn m Z x:=by
 have hm:(fT kn m Z L).getD r ([],[])∈fT kn m Z L:=by rw[af,ag hr];exact aP _
 unfold fT at hm;obtain⟨h1,_⟩:=mem_filter.1 hm;obtain⟨x,hx,e⟩:=aW.1 h1;exact⟨x,hx,e.symm⟩
theorem eO(l:List (List Nat×List Nat))(r:Nat):(l.map Prod.fst).getD r []=(l.getD r ([],[])).1:=by
 rw[af,af,List.getElem?_map];cases l[r]? <;> rfl
theorem Ib{K H:Nat}{row:List Nat}(h:row∈bS K H H):∃i,i<H/\row=kC (K+H) (K+i) i K:=by
 obtain⟨i,hi,rfl⟩:=bC h;have hi2:=hi;rw[dL] at hi2;have e:=tJ K H H hi2;rw[af,ag hi] at e;exact⟨i,hi2,e⟩
theorem Bp(a b:Nat):decide (a<b)= !decide (b<=a):=by
 rcases bq a b with h | h
 ·rw[ba h,decide_eq_false (by omega)];rfl
 ·rw[decide_eq_false (by omega),ba h];rfl
def sJ(K H D:Nat)(R:List (List Nat))(W:Nat->List Nat)(Le:List Nat):List (List Nat):=Le.map (fun r=>bP W (R.getD r []) (replicate D 0))++(bS K H H).map fun row=>dH W row (replicate D 0) (K+H)
def wU(K H Z:Nat)(R:List (List Nat))(z M:Nat->List Nat)(Le:List Nat):List (List Nat):=Le.map (fun r=>bP M (R.getD r []) (z r))++(bS K H H).map fun row=>dH M row (replicate Z 0) (K+H)
theorem Ny{K H Z:Nat}{s:Int}{mm:List (List Nat)}{L:List (Nat×List Nat)}{kn:List Bool}{vl:List (List Nat)}{St0:List (Nat×Nat)}{De Le0:List Nat}{rest:List (List Nat×List Nat)}
 (hk:eD K H Z=true)(hm:MidOK K H Z s mm)(hL:∀x∈L,x.1<=65535/\x.2=gY K H Z s mm x.1)
 (hc:ConsP (K+H) (fun c=>mm.getD c []) kn vl)(hr:rest=fT kn (fun c=>mm.getD c []) Z (zm K H Z s L))
 (hP:oM (K+H) (rest.map Prod.fst++cJ (K+H) fun c=>kn.getD c false) St0 De Le0)(hf:dc K H Z s (L.map Prod.fst)=true)
 (D:Nat)(hD:De.length=D)(W M V z:Nat->List Nat)(St:List (Nat×Nat))(Le:List Nat)(hSt:St=St0.filter fun s=> !decide (rest.length<=s.1))(hLe:Le=Le0.filter fun i=> !decide (rest.length<=i))
 (hV:V=fun c=>vl.getD c [])(hz:z=fun r=>(rest.getD r ([],[])).2)
 (hW:W=gS V (fun _=>replicate D 0) (df (rest.map Prod.fst) (fun _=>replicate D 0) (gF (dS D) De D) St) (K+H))
 (hM:M=gS V V (df (rest.map Prod.fst) z (gF (fun _=>replicate Z 0) De D) St) (K+H)):
 (∀(k r c:Nat),St[k]? =some (r,c)->r<(rest.map Prod.fst).length/\c∈(rest.map Prod.fst).getD r []/\∀d∈(rest.map Prod.fst).getD r [],d≠c->d∈De\/∃k' r',k'<k/\St[k']? =some (r',d))/\
 (∀c∈De,c<K+H)/\De.Nodup/\(∀i∈Le,i<rest.length)/\(∀r,∀c∈(rest.map Prod.fst).getD r [],c<K+H)/\(∀r,r<rest.length->Byt Z (z r))/\
 (∀c,c<K+H->Byt D (W c)/\Byt Z (M c))/\
 (0<D->jV D (sJ K H D (rest.map Prod.fst) W Le) (wU K H Z (rest.map Prod.fst) z M Le)=0/\jW D (sJ K H D (rest.map Prod.fst) W Le) (wU K H Z (rest.map Prod.fst) z M Le)=De.map fun c=>mm.getD c [])/\
 (D=0->∀b∈wU K H Z (rest.map Prod.fst) z M Le,b=replicate Z 0)/\
 ∀c,c<K+H->V c=[]->dH (fun i=>(De.map fun c=>mm.getD c []).getD i []) (W c) (M c) D=mm.getD c []:=by
 have hok:=aZ hk;have hZ:1<=Z:=by omega
 have hmm:∀c,c<K+H->Byt Z (mm.getD c []):=fun c h=>hm.row h
 have hE:vV (K+H) Z (fun c=>mm.getD c []) (zm K H Z s L):=by
  intro x hx;obtain⟨y,hy,rfl⟩:=aW.1 hx;obtain⟨c1,c2⟩:=kQ (s:=s) (id:=(y.1:Nat)) hk;refine⟨?_,c1,(hL y hy).2⟩;have:=jB (mr c2) c1;show(ib K H Z s (y.1:Nat)).length<=64;omega
 have hEn:∀x∈zm K H Z s L,x.1.Nodup:=by
  intro x hx;obtain⟨y,hy,rfl⟩:=aW.1 hx;exact mr (kQ (s:=s) (id:=(y.1:Nat)) hk).2
 have hrow:∀r,r<rest.length->∃x∈zm K H Z s L,rest.getD r ([],[])=wu kn (fun c=>mm.getD c []) Z x:=by
  subst hr;exact fun r h=>KV hE hEn h
 have hRn:∀r,((rest.map Prod.fst).getD r []).Nodup:=fun r=>by
  rw[eO];rcases bq r rest.length with h | h
  ·obtain⟨x,hx,e⟩:=hrow r h
   rw[e];exact(hEn x hx).filter _
  ·rw[af,List.getElem?_eq_none h];exact nodup_nil
 have hRk:∀r,∀c∈(rest.map Prod.fst).getD r [],c<K+H/\kn.getD c false=false:=fun r c h=>by
  rw[eO] at h;rcases bq r rest.length with h1 | h1
  ·obtain⟨x,hx,e⟩:=hrow r h1
   rw[e] at h;obtain⟨h2,h3⟩:=mem_filter.1 h;exact⟨(hE x hx).2.1 c h2,by simpa using h3⟩
  ·rw[af,List.getElem?_eq_none h1] at h;simp at h
 have hzr:∀r,r<rest.length->Byt Z (z r)/\∀j,sX (fun c j=>(mm.getD c []).getD j 0) j ((rest.map Prod.fst).getD r [])=(z r).getD j 0:=fun r h=>by
  obtain⟨x,hx,e⟩:=hrow r h;have hb:∀c∈dJ kn x.1,c<K+H:=fun c hc=>(hE x hx).2.1 c (mem_filter.1 hc).1;have hz2:z r=(rest.getD r ([],[])).2:=(by rw[hz]);rw[eO,hz2,e];refine⟨dF (Byt.zero Z) fun c hc=>hmm c (hb c hc),fun j=> ?_⟩;show sX (fun c j=>(mm.getD c []).getD j 0) j (dJ kn x.1)=(bP (fun c=>mm.getD c []) (dJ kn x.1) (replicate Z 0)).getD j 0;rw[jo j aI fun c hc=>(hmm c (hb c hc)).1,qM,Nat.zero_xor]
 have hRl:(rest.map Prod.fst).length=rest.length:=aC _;have PR:=Fj hP hRk;rw[hRl] at PR;have e1:(St0.filter fun s=>decide (s.1<rest.length))=St:=by rw[hSt];exact filter_congr fun s _=>Bp _ _
 have e2:(Le0.filter fun i=>decide (i<rest.length))=Le:=by rw[hLe];exact filter_congr fun i _=>Bp _ _
 rw[e1,e2] at PR;have hDn:De.Nodup:=(nodup_append.1 PR.cols).2.1
 have hg:∀i,i<D->gF (dS D) De D (De.getD i 0)=dS D i/\gF (fun _=>replicate Z 0) De D (De.getD i 0)=replicate Z 0:=fun i hi=>
  ⟨EZ hDn D (by omega) i hi,EZ (f:=fun _=>replicate Z 0) hDn D (by omega) i hi⟩
 have hvl:∀c,c<K+H->kn.getD c false=true->V c=mm.getD c []:=fun c h1 h2=>by rw[hV];exact(hc c h1).1 h2
 have hWw:∀c,c<K+H->W c=zr (fun c=>kn.getD c false) (df (rest.map Prod.fst) (fun _=>replicate D 0) (gF (dS D) De D) St) (fun _=>replicate D 0) c:=fun c h=>by
  rw[hW,hV];exact xX hc (fun c h=>(hmm c h).1) hZ _ _ h
 have hMw:∀c,c<K+H->M c=zr (fun c=>kn.getD c false) (df (rest.map Prod.fst) z (gF (fun _=>replicate Z 0) De D) St) V c:=fun c h=>by
  rw[hM,hV];exact xX hc (fun c h=>(hmm c h).1) hZ _ _ h
 obtain⟨X,hX⟩:∃X,X=De.map fun c=>mm.getD c []:=⟨_,rfl⟩;have hcom:=Io (Z:=Z) PR hD hRn (m:=fun c=>mm.getD c []) hmm (z:=z) (vl:=V) (fun r h=>hzr r (by rwa [hRl] at h)) hvl hg hX
 have hWM:∀c,c<K+H->Byt D (W c)/\Byt Z (M c)/\∀j,(mm.getD c []).getD j 0=comes D (fun i j=>(X.getD i []).getD j 0) (W c) j ^^^ (M c).getD j 0:=fun c h=>by
  rw[hWw c h,hMw c h];exact hcom c h
 clear hcom;have hLr:∀i∈Le,i<rest.length:=fun i hi=>by have:=((PR.left i).1 hi).1;rwa [hRl] at this
 have hAwf:=qO K H H
 have hpre:∀row∈bS K H H,∀j,dO (vO row) (fun c=>(mm.getD c []).getD j 0) (K+H)=0:=fun row h j=>by
  obtain⟨i,hi,rfl⟩:=Ib h;exact hm.pre i hi j
 have hXwf:Wf Z X:=by
  intro r hr;rw[hX] at hr;obtain⟨c,hc,rfl⟩:=aW.1 hr;exact hmm c (PR.bd c (.inr hc))
 have hXl:X.length=D:=by rw[hX,aC];exact hD
 refine⟨fun k r c h=>PR.step k r c h,fun c h=>PR.bd c (.inr h),hDn,hLr,fun r c h=>(hRk r c h).1,fun r h=>(hzr r h).1,fun c h=>⟨(hWM c h).1,(hWM c h).2.1⟩,?_,?_,?_⟩
 ·intro hD0
  have hX0:X≠[]:=fun e=>by rw[e] at hXl;simp at hXl;omega
  have hmul:jD (sJ K H D (rest.map Prod.fst) W Le) X=wU K H Z (rest.map Prod.fst) z M Le:=
   Dr (fun c j=>(mm.getD c []).getD j 0) hXwf hXl hX0 (fun c h=>(hWM c h).1) (fun c h=>(hWM c h).2.1) (fun c h=>(hWM c h).2.2) (fun r hr c h=>(hRk r c h).1) (fun r hr=>(hzr r (hLr r hr)).1) (fun r hr=>(hzr r (hLr r hr)).2) hAwf hpre
  have hids:∀i∈L.map Prod.fst,i<=65535:=fun i hi=>by obtain⟨x,hx,rfl⟩:=aW.1 hi;exact(hL x hx).1
  have hrank:(dE (sJ K H D (rest.map Prod.fst) W Le)).length=D:=by
   refine Cw (W0:=gF (dS D) De D) PR hD hRn hRk (fun i hi=>(hg i hi).1) (fun c h=>hWw c h) (fun c h=>(hWM c h).1) hAwf (E:=(L.map Prod.fst).map fun i=>ib K H Z s (i:Nat)) (F:=dV K H Z s (L.map Prod.fst)) ?_ (qp hk hids) ?_ (aZ hf)
   ·intro cols hcols
    obtain⟨i,hi,rfl⟩:=aW.1 hcols;obtain⟨x,hx,rfl⟩:=aW.1 hi;obtain⟨c1,c2⟩:=kQ (s:=s) (id:=(x.1:Nat)) hk;refine⟨mr c2,c1,?_⟩;by_cases h0:dJ kn (ib K H Z s (x.1:Nat))=[]
    ·exact .inl h0
    ·right
     have hmem:wu kn (fun c=>mm.getD c []) Z (ib K H Z s (x.1:Nat),x.2)∈rest:=by
      rw[hr];unfold fT;refine mem_filter.2 ⟨aW.2 ⟨_,aW.2 ⟨x,hx,rfl⟩,rfl⟩,?_⟩;have:(dJ kn (ib K H Z s (x.1:Nat))).length≠0:=fun e=>h0 (eq_nil_of_length_eq_zero e);show((dJ kn (ib K H Z s (x.1:Nat))).length != 0)=true;simpa using this
     obtain⟨r,hr1,hr2⟩:=bC hmem;refine⟨r,by rw[hRl];exact hr1,?_⟩;rw[eO,af,ag hr1,Option.getD_some,hr2];rfl
   ·intro row hrow
    rcases bz.1 hrow with h | h
    ·exact .inl h
    ·right
     obtain⟨i,hi,rfl⟩:=aW.1 h;have hi2:=hids i hi;exact⟨_,aW.2 ⟨i,hi,rfl⟩,(ql (s:=s) (id:=(i:Nat)) hk (by omega) (by omega)).2.2.1⟩
  have hA:Wf D (sJ K H D (rest.map Prod.fst) W Le):=by
   intro r hr;rcases bz.1 hr with h | h
   ·obtain⟨i,_,rfl⟩:=aW.1 h
    exact dF (Byt.zero D) fun c hc=>(hWM c (hRk i c hc).1).1
   ·obtain⟨row,_,rfl⟩:=aW.1 h
    exact fH (Byt.zero D) (K+H) fun c hc=>(hWM c hc).1.1
  have hA0:sJ K H D (rest.map Prod.fst) W Le≠[]:=fun e=>by
   have:=congrArg List.length e;unfold sJ at this;rw[aH,aC,aC,dL] at this;simp at this;omega
  rw[<-hmul,<-hX];exact FH hA hXwf hXl hX0 hA0 hrank
 ·intro hD0 b hb
  refine Ea (M:=M) (z:=z) (m:=fun c j=>(mm.getD c []).getD j 0) (fun c h=>(hWM c h).2.1) (fun c h j=> ?_) (fun r hr c h=>(hRk r c h).1) (fun r hr=>(hzr r (hLr r hr)).1) (fun r hr=>(hzr r (hLr r hr)).2) hAwf hpre b hb;have:=(hWM c h).2.2 j;rw[this,hD0];show 0 ^^^ _=_;rw[Nat.zero_xor]
 ·intro c h hv
  rw[<-hX];exact La hXwf hXl (hWM c h).2.1.1 (hmm c h).1 (hWM c h).2.2
theorem sZ{w:List Nat}(h:By w):jS 1 w=w:=by
 refine jh (lV 1 w) fun j=> ?_;rw[jk,jm _ (getD_lt h j)]
theorem vq(g gf K H Z n gv gw gm t c D cx cy:Nat)(ax ay:Option Addr)(vR vS vD vL:Value)(F:Nat->Prop)(V W M:Nat->List Nat)(xl yl:List Nat)(w6 wq:World)
 (hS:SvSt w6 g gf K H Z n gv gw gm vR vS vD vL F V W M)(hB:Below w6.heap.size w6 wq)(ht:t<256)(hc:c<n)(hW:Byt D (W c))(hM:Byt Z (M c))
 (hx:OwnB wq w6.heap.size (slice ax D cx) xl)(hy:OwnB wq w6.heap.size (slice ay Z cy) yl)(hxl:Byt D xl)(hyl:Byt Z yl)(hap:∀b,(Value.slice ax D cx).ownBlock=some b->(Value.slice ay Z cy).ownBlock≠some b)(hD:D<=1000000)(hZ:Z<=1000000):
 Calls prog 299 #[pointer (some ⟨g,0,none⟩),.int .u8 t,int i64 c,slice ax D cx,slice ay Z cy] wq fun e w'=>e=returned (.tuple #[])/\OwnB w' w6.heap.size (slice ax D cx) (xr xl (jS t (W c)))/\OwnB w' w6.heap.size (slice ay Z cy) (xr yl (jS t (M c)))/\Below w6.heap.size wq w':=by
 obtain⟨aw,qw,dw,cw,ew,-,rw1,-,-,-,-⟩:=hS.way.at hc;obtain⟨am,qm,dm,cm,em,-,rm1,-,-,-,-⟩:=hS.mor.at hc;obtain rfl:qw=D:=by rw[ew];exact hW.1
 obtain rfl:qm=Z:=by rw[em];exact hM.1
 have:=Mj g gf K H qm n t c w6.heap.size qw gw gm dw dm _ vR vS vD vL aw am ax ay cx cy (W c) (M c) xl yl wq (hS.blk.below hB hS.blk.lt) (Fld.belowC hS.fld hB (Blk.lt (t:=337) hS.fld)) ⟨hS.blk.lt,Blk.lt (t:=337) hS.fld,hS.way.lt,hS.mor.lt⟩ ht hc
  ((hB.cell (p:=⟨gw,c,none⟩) hS.way.lt).trans cw) ((hB.cell (p:=⟨gm,c,none⟩) hS.mor.lt).trans cm) (rw1.below hB (ah _)) (rm1.below hB (ah _)) hW.2 hM.2 hx hy hxl.1 hyl.1 hxl.2 hyl.2 hap hD hZ
 rw[DY (by rw[hW.1,hxl.1]),DY (by rw[hM.1,hyl.1])] at this;exact this
theorem nE{wr wx:World}{D Z gz:Nat}{x:List Nat}{v:Value}(hx:x.length=Z)(hD:D<=maxLen)(hov:OwnB wx wr.heap.size v x)(hz:Blk wx gz 5 (bJ (replicate D 0)))(hgz:wr.heap.size<=gz)(hne:v.ownBlock≠some gz)(hB:Below wr.heap.size wr wx):
 ∃ax cx ay cy,Value.slice (some ⟨gz,0,none⟩) D D=slice ax D cx/\v=slice ay Z cy/\Hid (OwnB wx wr.heap.size (slice ax D cx) (replicate D 0))/\Hid (OwnB wx wr.heap.size (slice ay Z cy) x)/\Hid (∀b,(Value.slice ax D cx).ownBlock=some b->(Value.slice ay Z cy).ownBlock≠some b)/\Hid (Below wr.heap.size wr wx):=by
 obtain⟨ay,ny,cy,rfl,hl⟩:=OwnB.sl hov;obtain rfl:ny=Z:=by omega
 have ho:=kK (C:=wr.heap.size) hz hgz (by rw[aI];exact hD);rw[aI] at ho;refine⟨_,_,_,_,rfl,rfl,ae ho,ae hov,ae fun b h1 h2=>hne (h2.trans ?_),ae hB⟩;simp[Value.ownBlock] at h1;rw[h1]
structure Two (w:World) (C:Nat) (va:Value) (A:List (List Nat)) (vb:Value) (B:List (List Nat)):Prop where
 oa:OwnS w C 30 1 (fun b=>Fr C b/\some b≠vb.ownBlock) va (A.map rB)
 ob:OwnS w C 30 1 (fun b=>Fr C b/\some b≠va.ownBlock) vb (B.map rB)
 ap:∀b,va.ownBlock=some b->vb.ownBlock≠some b
theorem Two.swap{w:World}{C:Nat}{va vb:Value}{A B:List (List Nat)}(h:Two w C va A vb B):Two w C vb B va A:=⟨h.ob,h.oa,fun b h1 h2=>h.ap b h2 h1⟩
theorem Two.begin(w:World)(C:Nat):Two w C (slice none 0 0) [] (slice none 0 0) []:=⟨OwnS.nil _ _ _ _ _,OwnS.nil _ _ _ _ _,fun b h=>by simp[Value.ownBlock] at h⟩
theorem Two.new{w w':World}{C:Nat}{va vb:Value}{A B:List (List Nat)}(h:Two w C va A vb B)(hb:Below w.heap.size w w'):Two w' C va A vb B:=⟨h.oa.new hb,h.ob.new hb,h.ap⟩
theorem Two.one{w w2:World}{C:Nat}{va va' vb:Value}{A B:List (List Nat)}{d:List Nat}(h:Two w C va A vb B)(ho:OwnS w2 C 30 1 (fun b=>Fr C b/\some b≠vb.ownBlock) va' ((A++[d]).map rB))
 (hk:∀b,b<w.heap.size->some b≠va.ownBlock->w2.heap[b]? =w.heap[b]?)(hat:va'.ownBlock=va.ownBlock\/∃b,va'.ownBlock=some b/\w.heap.size<=b):Two w2 C va' (A++[d]) vb B:=by
 have hlb:=h.ob.lt;refine⟨ho,?_,fun b h1 h2=> ?_⟩
 ·obtain⟨cs,h1,h2⟩:=h.ob
  refine⟨cs,jK h1 fun b hb=>hk b (hlb b hb).2 fun e=>h.ap b e.symm hb,fun i R hR=>R.keep (h2 i R hR) fun b hb hlt=>⟨hk b hlt hb.1.2,⟨hb.1.1,?_⟩,hb.2⟩⟩;rcases hat with e | ⟨b',e,hb'⟩
  ·rw[e];exact hb.1.2
  ·rw[e];intro e2;injection e2 with e2;omega
 ·rcases hat with e | ⟨b',e,hb'⟩
  ·rw[e] at h1;exact h.ap b h1 h2
  ·rw[e] at h1;injection h1 with h1;have:=(hlb b h2).2;omega
theorem Two.row{w0 w:World}{C:Nat}{va vb:Value}{A B:List (List Nat)}{R:Rp}{us:List Value}(h:Two w0 C va A vb B)(hC:C<=w0.heap.size)(hR:R.ok w (Fr w0.heap.size) us):R.ok w (fun b=>(Fr C b/\some b≠vb.ownBlock)/\some b≠va.ownBlock) us:=
 R.more hR fun b hb _=>⟨⟨aO hC hb,fun e=>by have:=(h.ob.lt b e.symm).2;have:w0.heap.size<=b:=hb;omega⟩,fun e=>by have:=(h.oa.lt b e.symm).2;have:w0.heap.size<=b:=hb;omega⟩
theorem nG{w w2:World}{P:Nat->Prop}{va va' vb:Value}{R:Rp}{us:List Value}(hR:R.ok w (fun b=>(P b/\some b≠vb.ownBlock)/\some b≠va.ownBlock) us)(hk:∀b,b<w.heap.size->some b≠va.ownBlock->w2.heap[b]? =w.heap[b]?)
 (hat:va'.ownBlock=va.ownBlock\/∃b,va'.ownBlock=some b/\w.heap.size<=b):R.ok w2 (fun b=>(P b/\some b≠va'.ownBlock)/\some b≠vb.ownBlock) us:=
 R.keep hR fun b hb hlt=>⟨hk b hlt hb.2,⟨hb.1.1,by
  rcases hat with e | ⟨b',e,hb'⟩
  ·rw[e];exact hb.2
  ·rw[e];intro e2;injection e2 with e2;omega⟩,hb.1.2⟩
theorem zU{P:Program}{Q:Exit->Act->World->Prop}{a:Act}{w:World}{body r1 r2:Code}(l1 l2:Nat)(hf1:findLabel body l1=some (Code.skip.seq r1))(hf2:findLabel body l2=some (Code.skip.seq r2))
 (h:∀X:Nat->Act->World->Prop,(∀a w,r1.wp P (dn (fun l' a' w'=>l'=l2/\r2.wp P (dn (fun _ _ _=>False) Q) a' w') Q) a w->X l1 a w)->(∀a w,r2.wp P (dn (fun _ _ _=>False) Q) a w->X l2 a w)->body.wp P (dn X Q) a w):(Code.scope body).wp P Q a w:=by
 refine iZ (fun l' n a w=>(l'=l1/\n=1/\r1.wp P (dn (fun l' a' w'=>l'=l2/\r2.wp P (dn (fun _ _ _=>False) Q) a' w') Q) a w)\/(l'=l2/\n=0/\r2.wp P (dn (fun _ _ _=>False) Q) a w)) ?_ ?_
 ·exact h _ (fun a w h1=>⟨1,.inl ⟨rfl,rfl,h1⟩⟩) (fun a w h2=>⟨0,.inr ⟨rfl,rfl,h2⟩⟩)
 ·intro l' n a w hJ
  rcases hJ with⟨rfl,rfl,hJ⟩ | ⟨rfl,rfl,hJ⟩
  ·refine⟨_,hf1,wp_seq (wp_skip (wp_mono hJ ?_))⟩
   intro e a' w' hq;cases e with
   | goto l'=>exact⟨0,by omega,.inr ⟨hq.1,rfl,hq.2⟩⟩
   | normal=>exact hq
   | exit id=>exact hq
   | ret=>exact hq
   | panic ch=>exact hq
   | outgrown=>exact hq
  ·refine⟨_,hf2,wp_seq (wp_skip (wp_mono hJ ?_))⟩
   intro e a' w' hq;cases e with
   | goto l'=>exact hq.elim
   | normal=>exact hq
   | exit id=>exact hq
   | ret=>exact hq
   | panic ch=>exact hq
   | outgrown=>exact hq
theorem mW{P:Program}{w:World}{ops:Array Oper}{o:Oper}{a:Act}{K:Act->World->Prop}{Q:Exit->Act->World->Prop}{E:Prop}(hgd:o.guard=none)(s x:Operand){T e:TypeId}{z:Value}{k bytes:Nat}
 (ho:o.op=.call { callee:=.builtin .append,args:=#[s,x],argTypes:=#[T,T] })(hT:P.underlying T=some (.slice e))(hi:(P.info? e).map (fun i=>(i.zero,i.size,i.bytes))=some (some z,k,bytes))(hzs:z.cells.size=k)(hk:0<k)(hby:bytes<=1000)
 {C:Nat}{v:Value}{L:List Rp}{F:Nat->Prop}{R:Rp}{us:Array Value}(h:OwnS w C e k F v L)(hC:C<=w.heap.size)(hl:L.length<=1000000)
 (hR:R.ok w (fun b=>F b/\some b≠v.ownBlock) us.toList)(hsz:R.sz=k)
 (hs:a.eval s=v)(hx:a.eval x=slice (some ⟨w.heap.size,0,none⟩) 1 1)
 (K':∀v' w2,OwnS w2 C e k F v' (L++[R])->Below C w w2->w.heap.size<=w2.heap.size->(∀b,b<w.heap.size->some b≠v.ownBlock->w2.heap[b]? =w.heap[b]?)->(v'.ownBlock=v.ownBlock\/∃b,v'.ownBlock=some b/\w.heap.size<=b)->K (a.put o.dst v') w2):
 if Region.wanted o (yielded ops a.tmps)=true then Oper.wp P o a (w.alloc (.cells us e)) K Q else E:=by
 have hba:=(az w.heap.size w).alloc (ah _) (.cells us e);have hlt:=h.lt;have h':=h.new hba;obtain⟨cs,h1,h2⟩:=h';obtain⟨i,hi1,hi2,hi3,hi4⟩:=info_parts hi;have hus:us.toList.length=k:=by rw[R.len hR];exact hsz
 have hRn:=R.new hR hba;have hw:Region.wanted o (yielded ops a.tmps)=true:=by simp[Region.wanted,hgd]
 rw[bf hw]
 have hnews:∀(j:Nat) (u:Value),us.toList[j]? =some u->(w.alloc (.cells us e)).cell? ((⟨w.heap.size,0,none⟩:Addr).add j)=some u:=by
  intro j u hj;rw[Addr.add_lit,Nat.zero_add,dZ];simpa using hj
 have hb:(L.length+1)*bytes<=140737488355328:=by
  have:=bn (show L.length+1<=1000001 by omega) hby;omega
 obtain⟨v',w',hrun,hown,hg,_,hat⟩:=run_append_own_at (P:=P) (w.alloc (.cells us e)) C T o.type e i z k bytes hT hi1 hi2 hi3 hi4 hzs hk v L.length cs h1 ⟨w.heap.size,0,none⟩ 1 1 us.toList (by rw[hus,Nat.one_mul]) hnews (R.one hR) (by unfold maxLen;omega) hb (aO hC hba.size);unfold Oper.wp execOp;simp only[ho,resolve,invoke,builtin,Sem.run_bind,Sem.run_pure,Result.andThen_ok,map_toArray,map_cons,map_nil,hs,hx,hrun];refine K' v' w' (OwnS.app h1 h2 (fun i R' hR'=> ?_) hown hg hat) (((hba.mono hC).grown hg (aO hC hba.size) fun b hb'=>(hlt b hb').1)) (aO hba.size hg.size) (fun b hb hne=>(hg.block b (aU hb hba.size) hne).trans (hba.block b hb)) (hat.elim .inl fun e=>.inr ⟨_,e,hba.size⟩);cases i with
 | succ i=>simp at hR'
 | zero=>
   obtain rfl:R=R':=(by simpa using hR');rw[Nat.zero_mul,drop_zero,aJ (by omega)];exact hRn
def Ty(t:TypeId)(w:World)(b:Nat):Prop:=∃cs fr,w.heap[b]? =some (.cells cs t fr)
theorem Ty.lt{t:TypeId}{w:World}{b:Nat}(h:Ty t w b):b<w.heap.size:=by obtain⟨cs,fr,h⟩:=h;exact(Array.getElem?_eq_some_iff.1 h).1
theorem Ty.ne{t u:TypeId}{w:World}{b:Nat}(h:Ty t w b)(k:Ty u w b)(hne:t≠u):False:=by
 obtain⟨cs,fr,h⟩:=h;obtain⟨ds,fs,k⟩:=k;rw[h] at k;injection k with k;injection k with _ k _;exact hne k
theorem Ty.ne2{t u:TypeId}{w:World}{b g:Nat}(e:b=g)(h:Ty t w b)(k:Ty u w g)(hne:t≠u):False:=by subst e;exact h.ne k hne
theorem Ty.keep{t:TypeId}{w w':World}{b:Nat}(h:Ty t w b)(hk:w'.heap[b]? =w.heap[b]?):Ty t w' b:=by obtain⟨cs,fr,h⟩:=h;exact⟨cs,fr,hk.trans h⟩
theorem Blk.ty{w:World}{g:Nat}{t:TypeId}{cs:Array Value}(h:Blk w g t cs):Ty t w g:=⟨cs,_,h⟩
theorem OwnS.ownTy{w:World}{C:Nat}{e:TypeId}{k:Nat}{F:Nat->Prop}{v:Value}{L:List Rp}(h:OwnS w C e k F v L):∀b,v.ownBlock=some b->Ty e w b:=by
 intro b hb;obtain⟨cs,h1,_⟩:=h;rcases h1.2 with⟨rfl,_⟩ | ⟨g,cap,cur,rfl,_,hh,_⟩
 ·simp[Value.ownBlock] at hb
 ·simp[Value.ownBlock] at hb
  subst hb;exact⟨_,_,hh⟩
theorem Gi{w w':World}{C e k n:Nat}{v:Value}{xs:List Value}(h:w.ownsRow C e k v n xs)(hk:∀b,v.ownBlock=some b->w'.heap[b]? =w.heap[b]?):w'.ownsRow C e k v n xs:=by
 refine⟨h.1,?_⟩;rcases h.2 with h2 | ⟨g,cap,cur,rfl,hg,hh,r⟩
 ·exact .inl h2
 ·exact .inr ⟨g,cap,cur,rfl,hg,(hk g rfl).trans hh,r⟩
theorem OwnS.chg{w w':World}{C:Nat}{e t:TypeId}{k:Nat}{v:Value}{L:List Rp}{M:Nat->Prop}(h:OwnS w C e k (Ty t w) v L)(hc:Chg M w w')(hv:∀b,v.ownBlock=some b->¬M b)(hM:∀b,M b->¬Ty t w b):OwnS w' C e k (Ty t w') v L:=by
 have hlt:=h.lt;obtain⟨cs,h1,h2⟩:=h;exact⟨cs,Gi h1 fun b hb=>hc.block b (hlt b hb).2 (hv b hb),fun i R hR=>R.keep (h2 i R hR) fun b hb hl=>⟨hc.block b hl fun hm=>hM b hm hb.1,hb.1.keep (hc.block b hl fun hm=>hM b hm hb.1),hb.2⟩⟩
theorem OI(R:List (List Nat))(F:Nat->Prop)(a:Option Addr)(n c:Nat)(w:World)(hx:(rM R).ok w F [slice a n c])(hl:R.length=n)(hn:n<=1000)(hR:∀x∈R,x.length<=1000):
 Calls prog 39 #[slice a n c] w fun e w'=>∃v,e=returned v/\OwnS w' w.heap.size 30 1 (Fr w.heap.size) v (R.map rB)/\Below w.heap.size w w':=by
 have S0:Hid (Sx w w [eR F (slice a n c) (rM R)]):=ae ((Sx.nil w).add (eR F _ _) hx);have HL:=ae hl;have HR:=ae hR;have HO1:Hid (OwnS w w.heap.size 30 1 (Fr w.heap.size) (slice none 0 0) ((R.take 0).map rB)):=ae (OwnS.nil _ _ _ _ _);have HB1:=ae (az w.heap.size w);clear hx hl hR;go_enter func39,ntmps39;go_wp2_with fail;go_loopw [3,8] (fun v i wr=>∃k:Nat,k<=n/\i=int i64 k/\Hid (OwnS wr w.heap.size 30 1 (Fr w.heap.size) v ((R.take k).map rB))/\Hid (Below w.heap.size w wr)) (fun _ i _=>n-(intOf i).toNat)
 case atStart=>exact⟨0,by omega,rfl,HO1,HB1⟩
 case round=>
  clear HO1 HB1;obtain⟨k,hkn,rfl,HO,HB⟩:=hrel;have S1:=ae (S0.out.step HB.out);obtain⟨bv,nv,cv,rfl⟩:=HO.out.sl;by_cases hlt:k<n
  ·have hltI:(k:Int)<(n:Int):=by omega
   obtain⟨aX,cX,eX,rdX,-⟩:=fM (S1.out.rep 0 rfl) HL.out;injection eX with e1 _ e3;subst e1 e3;obtain⟨bx,ox,ax,cx,rfl,hbx,hcx,hrx,hnx,hx1,hx2⟩:=rdX.at hlt;have hrl:=HR.out (R.getD k []) (by rw[af,ag (by rw[HL.out];exact hlt)];exact aP _)
   have HT:Hid ((R.take (k+1)).map rB=(R.take k).map rB++[rB (R.getD k [])]):=ae (by
    have hk:k<R.length:=(by rw[HL.out];exact hlt);rw[aN hk,aQ,af,ag hk];rfl)
   have hsl:((R.take k).map rB).length<=1000000:=(by rw[aC,aG];omega);have CC:=ae (dP (R.getD k []) _ ax _ cx wr hrx (ah _) hnx (by omega));have HXL:Hid ((R.getD k []).length<=1000):=ae hrl;clear rdX hrx hnx hx1 hx2 hrl;generalize hX:R.getD k []=X at*;generalize hnX:X.length=nX at*;generalize hLL:(R.take k).map rB=LL at*;clear hX hLL;go_wp2_with fail;refine CC.out.mono ?_;rintro e w2 ⟨v2,rfl,hO2,hb2⟩;obtain⟨a2,c2,rfl,-⟩:=hO2.rd2 hnX;have HRX:Hid ((rB X).ok w2 (fun b=>Fr w.heap.size b/\some b≠(Value.slice bv nv cv).ownBlock) [slice a2 nX c2]):=ae (HO.out.off (fL hO2) fun b hb=>⟨aO HB.out.size hb,.inr hb⟩);have HB2:=ae hb2;have hsw:=HB.out.size;have hs2:=hb2.size;clear hO2 hb2 CC S1 hcx
   go_wp2_with (at_builtin;refine fF (w:=wr) (w1:=w2) rfl _ _ rfl underlying45 dI rfl (by decide) (by decide) HO.out HB2.out hsw hsl (R:=rB X) HRX.out rfl rfl rfl ?_)
   intro v6 w6 hO6 hb6;rw[<-HT.out] at hO6;have HO6:=ae hO6;have HB6:=ae (HB.out.trans hb6);clear hO6 hb6 HO HRX HT HB2 HB;obtain⟨b6,n6',c6',rfl⟩:=HO6.out.sl;go_wp2_with fail;go_roundw
   case rel=>exact⟨k+1,by omega,by go_num,HO6,HB6⟩
   case measure=>simp[intOf];omega
  ·obtain rfl:k=n:=by omega
   have HE:Hid ((R.take k).map rB=R.map rB):=ae (by rw[aJ (by rw[HL.out];exact ah _)]);rw[HE.out] at HO;go_wp2_with fail;go_ret;exact⟨_,rfl,HO.out,HB.out⟩
theorem bR{w w':World}(h:Below w.drew.heap.size w.drew w'):Below w.heap.size w w':=((az _ w).drew).trans h
theorem OwnS.reTy{w w':World}{C:Nat}{e t:TypeId}{k:Nat}{v:Value}{L:List Rp}(h:OwnS w' C e k (Ty t w) v L)(hk:∀b,Ty t w b->w'.heap[b]? =w.heap[b]?):OwnS w' C e k (Ty t w') v L:=h.base (ah _) fun b hb=>hb.keep (hk b hb)
theorem qi{w:World}{C:Nat}{v:Value}{l:List Nat}(h:OwnB w C v l):(rB l).ok w (fun b=>Ty 5 w b/\C<=b) [v]:=by
 obtain⟨a,c,rfl,h1,h2,h3,h4,h5⟩:=dB (k:=1) h;rw[Nat.mul_one] at h4 h5;refine⟨a,l.length,c,rfl,h2,h3,h1,h4,fun hn=> ?_⟩;obtain⟨b,o,e1,⟨hb,_⟩,hv,hc⟩:=h5 hn;refine⟨b,o,e1,⟨?_,hb⟩,hc⟩;rcases h.2 with⟨e,_⟩ | ⟨g,cap,cur,e,_,hh,_⟩
 ·rw[e] at hv;simp[Value.ownBlock] at hv
 ·rw[e] at hv;simp[Value.ownBlock] at hv
  subst hv;exact⟨_,_,hh⟩
theorem JM(g p room wait:Nat)(v:Value)(R:List (List Nat))(F:Nat->Prop)(w:World)(h:DrB w g p room v wait)(hx:(rM R).ok w F [v])(hn:R.length<=1000)(hR:∀x∈R,x.length<=1000):
 Calls prog 13 #[pointer (some ⟨g,0,none⟩)] w fun e w'=>∃v,e=returned v/\OwnS w' w.heap.size 30 1 (Fr w.heap.size) v (R.map rB)/\Below w.heap.size w w':=by
 obtain⟨c0,c1,c2,c3,c4,c5,c6⟩:=h.cells;obtain⟨a,c,rfl,-⟩:=fM hx rfl;have CO:=ae (OI R F a _ c w hx rfl hn hR);clear hx;go_enter func13,ntmps13;go_wp2_with fail;refine CO.out.mono ?_;rintro e w1 ⟨v,rfl,ho,hb⟩;have HO:=ae ho;have HB:=ae hb;clear ho hb CO;go_wp2_with fail;go_ret;exact⟨_,rfl,HO.out,HB.out⟩
theorem Gj(g p room wait:Nat)(v:Value)(R:List (List Nat))(r:List Nat)(a:Option Addr)(c:Nat)(w:World)(h:DrB w g p room v wait)(hO:OwnS w 0 30 1 (Ty 5 w) v (R.map rB))(hp:PwS w p)
 (hr:Rd w w.heap.size a 64 (bF r))(hnil:a=none->c=0)(hroom:R.length<room)(hroom2:room<=512)(hwait:wait<=1000):
 Calls prog 136 #[pointer (some ⟨g,0,none⟩),slice a 64 c] w fun e w'=>e=returned (int i64 0)/\∃v',DrB w' g p room v' (wait+1)/\OwnS w' 0 30 1 (Ty 5 w') v' ((R++[r]).map rB)/\
  Chg (fun b=>b=g\/some b=v.ownBlock) w w'/\(v'.ownBlock=v.ownBlock\/∃b,v'.ownBlock=some b/\w.heap.size<=b):=by
 have CP:=ae (E9 p w hp);have HPW:=ae hp;obtain⟨av,cv,rfl,-,-,-⟩:=hO.val;rw[aC];have hrI:¬(room:Int)<=(R.length:Int):=by omega
 have hrl:r.length=64:=by have:=hr.len;rwa [bI] at this
 have hgo:some g≠(Value.slice av R.length cv).ownBlock:=fun e=>by
  have:=hO.ownTy g (by rw[aC];exact e.symm);exact(Blk.ty h).ne this (by decide)
 have HR:=ae hr;have HHN:=ae hnil;obtain⟨c0,c1,c2,c3,c4,c5,c6⟩:=h.cells;have HD:=ae h;rw[aC] at hO;have HO:=ae hO;have HPG:=ae (show p≠g from fun e=>by subst e;exact(Blk.ty hp).ne (Blk.ty h) (by decide))
 have HPO:Hid (some p≠(Value.slice av R.length cv).ownBlock):=ae (fun e=>by
  have:=hO.ownTy p e.symm;exact(Blk.ty hp).ne this (by decide))
 have hml:(R.map rB).length<=1000000:=by rw[aC];omega
 rw[aC] at c2;clear hO hp hr h;rw[aC] at HD;generalize hRl:R.length=n at*;go_enter func136,ntmps136;clear CP hnil;go_wp2_with fail
 go_quiet (fail)
 have HD1:Hid (DrB (w.drewN nq) g p room (slice av n cv) wait):=HD;have HO1:Hid (OwnS (w.drewN nq) 0 30 1 (Ty 5 (w.drewN nq)) (slice av n cv) (R.map rB)):=ae (HO.out.drewN nq);have HP1:Hid (PwS (w.drewN nq) p):=HPW;have HR1:Hid (Rd (w.drewN nq) (w.drewN nq).heap.size a 64 (bF r)):=HR;have HC1:Hid (Chg (fun b=>b=g\/some b=(Value.slice av n cv).ownBlock) w (w.drewN nq)):=ae (Chg.of (below_drewN (az _ _) nq));have hsz:w.heap.size=(w.drewN nq).heap.size:=rfl;have HSZ:=ae hsz;clear c0 c1 c2 c3 c4 c5 c6 HD HO HPW HR hsz;generalize w.drewN nq=w1 at*;obtain⟨c0,c1,c2,c3,c4,c5,c6⟩:=HD1.out.cells;go_wp2_with fail;refine(E9 p w1 HP1.out).mono ?_;rintro e w2 ⟨rfl,rfl⟩;have CC:=ae (dP r _ a 64 c w2.drew HR1.out (ah _) HHN.out (by omega));clear HR1 HHN;go_wp2_with fail;have f2:=Blk.frozen HD1.out 2
 go_region_law (first
  | (change (if _=true then Oper.wp _ (Oper.mk (some 44) _ _ _ _ _) _ _ _ _ else _)
     refine mW (w:=w3) (C:=0) (F:=Ty 5 w3) (v:=slice av n cv) (L:=R.map rB) (R:=rB r) rfl _ _ rfl underlying45 dI rfl (by decide) (by decide) HO3.out (bu _) hml HR3.out rfl rfl rfl ?_;intro v4 w4 hO4 hb4 hs4 hk4 hv4;obtain⟨a4,n4,k4,rfl⟩:=hO4.sl;have HO4:=ae hO4;have HB4:=ae hb4;have HS4:=ae hs4;have HK4:=ae hk4;have HV4:=ae hv4;have HD4:Hid (DrB w4 g p room (slice av n cv) wait):=ae ((hk4 g (Blk.lt HD3.out) hgo).trans HD3.out);have d2:=Blk.cell HD4.out 2;have d2':w4.cell? ⟨g,2,none⟩=some (slice av n cv):=d2;have d2f:=Blk.frozen HD4.out 2;clear hO4 hb4 hs4 hk4 hv4 d2)
  | (go_simp
     go_at_call 86;refine CC.out.mono ?_;rintro e w3 ⟨v3,rfl,hO3,hb3⟩;replace hb3:=bR hb3;have HB3:Hid (Below w2.heap.size w2 w3):=ae hb3;have HD3:Hid (DrB w3 g p room (slice av n cv) wait):=ae (Blk.below HD1.out hb3 (Blk.lt HD1.out));have HO3:Hid (OwnS w3 0 30 1 (Ty 5 w3) (slice av n cv) (R.map rB)):=ae (HO1.out.chg (M:=fun _=>False) (Chg.of hb3) (fun _ _ h=>h) (fun _ h=>h.elim));have HR3:Hid ((rB r).ok w3 (fun b=>Ty 5 w3 b/\some b≠(Value.slice av n cv).ownBlock) [v3]):=ae ((rB r).more (qi hO3) fun b hb _=>⟨hb.1,fun e=>by have h1:=(HO1.out.lt b e.symm).2;have h2:w2.heap.size<=b:=hb.2;omega⟩);have d0:w3.cell? ⟨g,2,none⟩=some (slice av n cv):=Blk.cell HD3.out 2;have d1:g<w3.heap.size:=Blk.lt HD3.out;obtain⟨a3,k3,rfl,-⟩:=hO3.rd2 hrl;clear hO3 hb3;go_simp))
 all_goals(
  clear d2' d2f d0 d1 f2 CC c0 c1 c2 c3 c4 c5 c6;have HD5:Hid (DrB (w4.setCell ⟨g,2,none⟩ (slice a4 n4 k4)) g p room (slice a4 n4 k4) wait):=ae (Blk.set HD4.out 2 _);have hgo4:some g≠(Value.slice a4 n4 k4).ownBlock:=fun e=>(Blk.ty HD4.out).ne (HO4.out.ownTy g e.symm) (by decide)
  have HO5:Hid (OwnS (w4.setCell ⟨g,2,none⟩ (slice a4 n4 k4)) 0 30 1 (Ty 5 (w4.setCell ⟨g,2,none⟩ (slice a4 n4 k4))) (slice a4 n4 k4) (R.map rB++[rB r])):=ae ((HO4.out.reTy fun b hb=>HK4.out b hb.lt fun e=>hb.ne (HO3.out.ownTy b e.symm) (by decide)).chg (M:=(·=g)) ((Chg.refl (·=g) w4).set ⟨g,2,none⟩ _ fun _=>rfl)
   (fun b hb e=>hgo4 (by rw[hb,e])) (fun b e hb=>Ty.ne2 e hb (Blk.ty HD4.out) (by decide)))
  have HC5:Hid (Chg (fun b=>b=g\/some b=(Value.slice av n cv).ownBlock) w (w4.setCell ⟨g,2,none⟩ (slice a4 n4 k4))):=ae (((HC1.out.trans (Chg.of HB3.out)).trans ⟨HB4.out.os,HB4.out.tape,HB4.out.output,HS4.out,fun k hk hM=>HK4.out k hk fun e=>hM (.inr e)⟩).trans ((Chg.refl _ w4).set ⟨g,2,none⟩ _ fun _=>.inl rfl));have HP5:Hid (PwS (w4.setCell ⟨g,2,none⟩ (slice a4 n4 k4)) p):=ae (Blk.far (HK4.out p (Blk.lt (Blk.below HP1.out HB3.out (Blk.lt HP1.out))) HPO.out |>.trans (Blk.below HP1.out HB3.out (Blk.lt HP1.out))) HPG.out _);have HV5:Hid ((Value.slice a4 n4 k4).ownBlock=(Value.slice av n cv).ownBlock\/∃b,(Value.slice a4 n4 k4).ownBlock=some b/\w.heap.size<=b):=ae (HV4.out.elim .inl fun ⟨b,e,h⟩=>.inr ⟨b,e,by have:=HSZ.out;have:=HB3.out.size;omega⟩);clear HD4 HO4 HK4 HB4 HS4 HV4 HO3 HR3 HD3 HB3 hgo4 HC1 HO1 HD1 HP1;generalize w4.setCell ⟨g,2,none⟩ (slice a4 n4 k4)=w5 at*;have c3:w5.cell? ⟨g,3,none⟩=some (int i64 wait):=Blk.cell HD5.out 3;have f3:w5.frozen? ⟨g,3,none⟩=false:=Blk.frozen HD5.out 3;have c0:(w5.setCell ⟨g,3,none⟩ (int i64 ((wait:Int)+1))).cell? ⟨g,0,none⟩=some (pointer (some ⟨p,0,none⟩)):=Blk.cell (Blk.set HD5.out 3 _) 0;have HD6:Hid (DrB (w5.setCell ⟨g,3,none⟩ (int i64 ((wait:Int)+1))) g p room (slice a4 n4 k4) (wait+1)):=ae (Blk.set HD5.out 3 _)
  have HO6:Hid (OwnS (w5.setCell ⟨g,3,none⟩ (int i64 ((wait:Int)+1))) 0 30 1 (Ty 5 (w5.setCell ⟨g,3,none⟩ (int i64 ((wait:Int)+1)))) (slice a4 n4 k4) (R.map rB++[rB r])):=ae (HO5.out.chg (M:=(·=g)) ((Chg.refl (·=g) w5).set ⟨g,3,none⟩ _ fun _=>rfl)
   (fun b hb e=>(Blk.ty HD5.out).ne (HO5.out.ownTy g (by rw[hb,e])) (by decide)) (fun b e hb=>Ty.ne2 e hb (Blk.ty HD5.out) (by decide)))
  have HC6:Hid (Chg (fun b=>b=g\/some b=(Value.slice av n cv).ownBlock) w (w5.setCell ⟨g,3,none⟩ (int i64 ((wait:Int)+1)))):=ae (HC5.out.trans ((Chg.refl _ w5).set ⟨g,3,none⟩ _ fun _=>.inl rfl));have HP6:Hid (PwS (w5.setCell ⟨g,3,none⟩ (int i64 ((wait:Int)+1))) p):=ae (Blk.far HP5.out HPG.out _);clear HD5 HO5 HC5 HP5;go_wp2_with fail;generalize w5.setCell ⟨g,3,none⟩ (int i64 ((wait:Int)+1))=w6 at*;refine(Fb p w6 HP6.out).mono ?_;rintro e w7 ⟨rfl,rfl⟩;clear c0 c3 f3;go_wp2_with fail;refine(Fc g p room (wait+1) _ w7 HD6.out).mono ?_;rintro e w8 ⟨rfl,hd,hc⟩
  have HO8:Hid (OwnS w8 0 30 1 (Ty 5 w8) (slice a4 n4 k4) (R.map rB++[rB r])):=ae (HO6.out.chg hc
   (fun b hb e=>(Blk.ty HD6.out).ne (HO6.out.ownTy g (by rw[hb,e])) (by decide)) (fun b e hb=>Ty.ne2 e hb (Blk.ty HD6.out) (by decide)))
  have HD8:=ae hd;have HC8:=ae (HC6.out.trans (hc.mono fun k _ e=>.inl e));clear hd hc HO6 HD6 HC6 HP6;go_wp2_with fail;go_ret;exact⟨rfl,_,HD8.out,by rw[aQ];exact HO8.out,HC8.out,HV5.out⟩)
