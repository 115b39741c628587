import Derived.Test.YtofgapdnadbgkaaGreatDoorW23
set_option linter.unusedVariables false
set_option maxRecDepth 100000
set_option maxHeartbeats 400000000
namespace Go.Proofs.YtofgapdnadbgkaaGreatDoor
open Go.RowKit _root_.Go.Proofs.Tryz
def Kept2(w w':World)(g1 g2:Nat):Prop:=Below 0 w w'∧∀b,b<w.heap.size→b≠g1→b≠g2→w'.heap[b]? =w.heap[b]?
theorem Kept2.refl(w:World)(g1 g2:Nat):Kept2 w w g1 g2:=⟨az _ _,fun _ _ _ _=>rfl⟩
theorem Kept2.trans{w w1 w2:World}{g1 g2:Nat}(h:Kept2 w w1 g1 g2)(h':Kept2 w1 w2 g1 g2):Kept2 w w2 g1 g2:=⟨h.1.trans h'.1,fun b hb n1 n2=>(h'.2 b (aY hb h.1.size) n1 n2).trans (h.2 b hb n1 n2)⟩
theorem Kept2.below{w w':World}{g1 g2:Nat}(h:Below w.heap.size w w'):Kept2 w w' g1 g2:=⟨h.mono (Nat.zero_le _),fun b hb _ _=>h.block b hb⟩
def fT(V:Nat→List Nat)(X W:Nat→List Nat)(k:Nat):Nat→List Nat:=fun c=>if c<k∧V c≠[] then X c else W c
theorem uZ{V X W:Nat→List Nat}{k:Nat}(h:V k≠[]):fT V X W (k+1)=je (fT V X W k) k (X k):=funext fun c=>by
 unfold fT je;by_cases hc:c=k
 ·subst hc;rw[if_pos rfl,if_pos ⟨by omega,h⟩]
 ·rw[if_neg hc]
  show(if c<k+1∧V c≠[] then X c else W c)=if c<k∧V c≠[] then X c else W c;by_cases h2:c<k∧V c≠[]
  ·rw[if_pos h2,if_pos ⟨by omega,h2.2⟩]
  ·rw[if_neg h2,if_neg (fun h=>h2 ⟨by omega,h.2⟩)]
theorem SvSt.new{w w':World}{g gf K H Z n gv gw gm:Nat}{rest vS vD vL:Value}{F:Nat→Prop}{V W M:Nat→List Nat}(h:SvSt w g gf K H Z n gv gw gm rest vS vD vL F V W M)(hb:Below w.heap.size w w'):SvSt w' g gf K H Z n gv gw gm rest vS vD vL F V W M:=by
 obtain⟨hs,a1,a2,a3⟩:=h.vls;exact⟨h.blk.below hb h.blk.lt,Blk.below (t:=119) h.fld hb (Blk.lt (t:=119) h.fld),⟨hs,a1.below hb a1.lt,a2,fun c hc=>(rN _).new (a3 c hc) hb⟩,h.way.new hb,h.mor.new hb,h.ne,h.off⟩
theorem SvSt.put2{w wa w':World}{g gf K H Z n gv gw gm k:Nat}{rest vS vD vL u1 u2:Value}{F:Nat→Prop}{V W M:Nat→List Nat}{d1 d2:List Nat}(h:SvSt w g gf K H Z n gv gw gm rest vS vD vL F V W M)(hb:Below w.heap.size w wa)
 (hw:w'=(wa.setCell ⟨gw,k,none⟩ u1).setCell ⟨gm,k,none⟩ u2)(h1:(rB d1).ok wa F [u1])(h2:(rB d2).ok wa F [u2]):SvSt w' g gf K H Z n gv gw gm rest vS vD vL F V (je W k d1) (je M k d2)∧Kept2 w w' gw gm:=by
 subst hw;obtain⟨n1,n2,n3⟩:=h.ne;have hfar:∀b,b≠gw→b≠gm→((wa.setCell ⟨gw,k,none⟩ u1).setCell ⟨gm,k,none⟩ u2).heap[b]? =wa.heap[b]? :=fun b a1 a2=>(aZ _ _ _ _ a2).trans (aZ _ _ _ _ a1);have hF:∀b,F b→b≠gw∧b≠gm:=fun b hb=>⟨(h.off b hb).2.2.1,(h.off b hb).2.2.2⟩;have hrow:∀ {d u},(rB d).ok wa F [u]→(rB d).ok ((wa.setCell ⟨gw,k,none⟩ u1).setCell ⟨gm,k,none⟩ u2) F [u]:=fun hd=>(rB _).keep hd fun b hb _=>⟨hfar b (hF b hb).1 (hF b hb).2,hb⟩;have hlow:∀b,b<w.heap.size→b≠gw→b≠gm→((wa.setCell ⟨gw,k,none⟩ u1).setCell ⟨gm,k,none⟩ u2).heap[b]? =w.heap[b]? :=fun b hb' a1 a2=>(hfar b a1 a2).trans (hb.block b hb');obtain⟨w1,w2,-⟩:=h.way.ex;obtain⟨m1,m2,-⟩:=h.mor.ex;have hkeepF:∀b,F b→b<w.heap.size→((wa.setCell ⟨gw,k,none⟩ u1).setCell ⟨gm,k,none⟩ u2).heap[b]? =w.heap[b]? :=fun b hb hlt=>hlow b hlt (hF b hb).1 (hF b hb).2;refine⟨⟨?_,?_,?_,?_,?_,h.ne,h.off⟩,?_,hlow⟩
 ·exact(hlow g h.blk.lt (Blk.ne h.blk w2 (by decide)) (Blk.ne h.blk m2 (by decide))).trans h.blk
 ·exact(hlow gf (Blk.lt (t:=119) h.fld) (Blk.ne (t:=119) h.fld w2 (by decide)) (Blk.ne (t:=119) h.fld m2 (by decide))).trans h.fld
 ·obtain⟨hs,a1,a2,a3⟩:=h.vls
  exact⟨hs,(hlow gv a1.lt n1 n2).trans a1,a2,fun c hc=>(rN _).keep (a3 c hc) fun b hb hlt=>⟨hkeepF b hb hlt,hb⟩⟩
 ·exact h.way.put (hrow h1) hkeepF fun hs hh=>Blk.far (p:=⟨gm,k,none⟩) (Blk.set (hh.below hb hh.lt) k u1) n3 _
 ·exact h.mor.put (hrow h2) hkeepF fun hs hh=>Blk.set (Blk.far (p:=⟨gw,k,none⟩) (hh.below hb hh.lt) (fun e=>n3 e.symm) _) k u2
 ·exact((hb.mono (Nat.zero_le _)).setCell (Nat.zero_le _) _).setCell (Nat.zero_le _) _
theorem JV(g gf K H Z n gv gw gm D cD:Nat)(aD:Option Addr)(rest vS vL:Value)(F:Nat→Prop)(V W M:Nat→List Nat)(w:World)(hS:SvSt w g gf K H Z n gv gw gm rest vS (.slice aD D cD) vL F V W M)(hn:n≤1000)(hD:D≤1000)(hFn:∀b,w.heap.size≤b→F b):
 Calls prog 75 #[.pointer (some ⟨g,0,none⟩)] w fun e w'=>e=.returned (.tuple #[])∧SvSt w' g gf K H Z n gv gw gm rest vS (.slice aD D cD) vL F V (fT V (fun _=>List.replicate D 0) W n) (fT V V M n)∧Kept2 w w' gw gm:=by
 have HQ0:Hid (SvSt w g gf K H Z n gv gw gm rest vS (.slice aD D cD) vL F V (fT V (fun _=>List.replicate D 0) W 0) (fT V V M 0)∧Kept2 w w gw gm):=ae ⟨by
  have e1:fT V (fun _=>List.replicate D 0) W 0=W:=funext fun c=>if_neg (fun h=>absurd h.1 (Nat.not_lt_zero c));have e2:fT V V M 0=M:=funext fun c=>if_neg (fun h=>absurd h.1 (Nat.not_lt_zero c));rw[e1,e2];exact hS,Kept2.refl _ _ _⟩
 have p4:=hS.blk.cell 4;have hmk:∀w:World,(Instr.makeSlice 23 (.int .i64 (D:Int)) (.int .i64 (D:Int))).run prog w=.ok (.slice (some ⟨w.heap.size,0,none⟩) D D) (w.alloc (.cells (bn (List.replicate D 0)) 5)):=fun w=>cQ (n:=D) (by omega) w;have HF:=ae hFn;clear hS hFn;go_enter func75,ntmps75;unfold svC at p4;go_wp2_with fail;clear p4;go_loopw [9] (fun i wr=>∃k:Nat,k≤n∧i=.int .i64 k∧Hid (SvSt wr g gf K H Z n gv gw gm rest vS (.slice aD D cD) vL F V (fT V (fun _=>List.replicate D 0) W k) (fT V V M k)∧Kept2 w wr gw gm)) (fun i _=>n-(intOf i).toNat)
 case atStart=>exact⟨0,by omega,rfl,HQ0⟩
 case round=>
  clear HQ0;obtain⟨k,hkn,rfl,HQ⟩:=hrel;obtain⟨hS,hk⟩:=HQ.out;by_cases hlt:k<n
  ·have hltI:(k:Int)<(n:Int):=by omega
   obtain⟨hs1,v1,v2,v3⟩:=hS.vls;have h3:=v3 k hlt;obtain⟨a,c,e,hr1,hr2,hr3,hr4,hr5,hr6⟩:=JB h3;have cv:wr.cell? ⟨gv,k,none⟩=some (.slice a (V k).length c):=(v1.cell k).trans (by rw[←e];simpa using qN (hs:=hs1) (by omega));by_cases hV:V k=[]
   ·obtain⟨rfl,rfl⟩:=hr5 hV
    have hn0:(V k).length=0:=(by rw[hV];rfl);rw[hn0] at cv
    have HQn:Hid (SvSt wr g gf K H Z n gv gw gm rest vS (.slice aD D cD) vL F V (fT V (fun _=>List.replicate D 0) W (k+1)) (fT V V M (k+1))∧Kept2 w wr gw gm):=ae ⟨by
     have e1:∀X W:Nat→List Nat,fT V X W (k+1)=fT V X W k:=fun X W=>funext fun c=>by
      unfold fT;by_cases hc:c=k
      ·subst hc;rw[if_neg (fun h=>h.2 hV),if_neg (fun h=>h.2 hV)]
      ·by_cases h2:c<k∧V c≠[]
       ·rw[if_pos h2,if_pos ⟨by omega,h2.2⟩]
       ·rw[if_neg h2,if_neg (fun h=>h2 ⟨by omega,h.2⟩)]
     rw[e1,e1];exact hS,hk⟩
    clear hS hk v1 v2 v3 h3 hr1 hr2 hr3 hr4 hr5 hr6 e HQ hV hn0;have hq:=fun W a l c=>run_neq_slice_nil (P:=prog) W 23 5 a l c underlying23
    go_wp2_with (simp only[hq])
    go_roundw
    case rel=>(try((repeat apply Exists.intro);refine⟨?_,rfl⟩));exact⟨k+1,by omega,by go_num,HQn⟩
    case measure=>simp[intOf];omega
   ·obtain⟨p,rfl⟩:∃p,a=some p:=by
     cases a with
     | none=>exact absurd rfl (hr6 hV)
     | some p=>exact⟨p,rfl⟩
    have hq:=fun W a l c=>run_neq_slice_nil (P:=prog) W 23 5 a l c underlying23;obtain⟨aw,qw,dw,cw,-,-,-,-,-,-,fw⟩:=hS.way.at hlt;obtain⟨am,qm,dm,cm,-,-,-,-,-,-,fm'⟩:=hS.mor.at hlt;have p9:=hS.blk.cell 9;have p10:=hS.blk.cell 10;have p7:=hS.blk.cell 7;unfold svC at p9 p10 p7;have HS:=ae hS;have HK:=ae hk;have HV:=ae hV;have HR:=ae h3
    have HRV:Hid ((rB (V k)).ok (wr.alloc (.cells (bn (List.replicate D 0)) 5)) F [.slice (some p) (V k).length c]):=ae (by
     have h4:=h3;rw[e] at h4;unfold rN at h4;rw[if_neg hV] at h4;exact(rB _).new h4 ((az wr.heap.size wr).alloc (ah _) _))
    obtain⟨n1,n2,n3⟩:=hS.ne;have hd1:¬gw=gm:=n3;have hd2:¬gm=gw:=fun e=>n3 e.symm;clear hS hk hV v1 v2 v3 h3 hr1 hr2 hr3 hr4 hr5 hr6 e HQ;generalize (V k).length=q at*;have hba:∀m,Below wr.heap.size wr ((wr.alloc (.cells (bn (List.replicate D 0)) 5)).drewN m):=fun m=>below_drewN ((az wr.heap.size wr).alloc (ah _) _) m;have fw1:(wr.alloc (.cells (bn (List.replicate D 0)) 5)).drew.frozen? ⟨gw,k,none⟩=false:=(World.frozen?_of_block (w:=wr) (a:=⟨gw,k,none⟩) ((hba 1).block gw HS.out.way.lt)).trans fw;have fm1:(wr.alloc (.cells (bn (List.replicate D 0)) 5)).drew.frozen? ⟨gm,k,none⟩=false:=(World.frozen?_of_block (w:=wr) (a:=⟨gm,k,none⟩) ((hba 1).block gm HS.out.mor.lt)).trans fm';have cw1:(wr.alloc (.cells (bn (List.replicate D 0)) 5)).drew.cell? ⟨gw,k,none⟩=some (.slice aw qw dw):=((hba 1).cell (p:=⟨gw,k,none⟩) HS.out.way.lt).trans cw;have cm1:(wr.alloc (.cells (bn (List.replicate D 0)) 5)).drew.cell? ⟨gm,k,none⟩=some (.slice am qm dm):=((hba 1).cell (p:=⟨gm,k,none⟩) HS.out.mor.lt).trans cm;have fw2:(wr.alloc (.cells (bn (List.replicate D 0)) 5)).frozen? ⟨gw,k,none⟩=false:=(World.frozen?_of_block (w:=wr) (a:=⟨gw,k,none⟩) ((hba 0).block gw HS.out.way.lt)).trans fw;have fm2:(wr.alloc (.cells (bn (List.replicate D 0)) 5)).frozen? ⟨gm,k,none⟩=false:=(World.frozen?_of_block (w:=wr) (a:=⟨gm,k,none⟩) ((hba 0).block gm HS.out.mor.lt)).trans fm';have cw2:(wr.alloc (.cells (bn (List.replicate D 0)) 5)).cell? ⟨gw,k,none⟩=some (.slice aw qw dw):=((hba 0).cell (p:=⟨gw,k,none⟩) HS.out.way.lt).trans cw;have cm2:(wr.alloc (.cells (bn (List.replicate D 0)) 5)).cell? ⟨gm,k,none⟩=some (.slice am qm dm):=((hba 0).cell (p:=⟨gm,k,none⟩) HS.out.mor.lt).trans cm;have p9a:=((HS.out.blk.below (hba 1) HS.out.blk.lt).cell 9);have p10a:=((HS.out.blk.below (hba 1) HS.out.blk.lt).cell 10);have p9b:=((HS.out.blk.below (hba 0) HS.out.blk.lt).cell 9);have p10b:=((HS.out.blk.below (hba 0) HS.out.blk.lt).cell 10);unfold svC at p9a p10a p9b p10b;change (wr.alloc (.cells (bn (List.replicate D 0)) 5)).drew.cell? _=_ at p9a p10a;change (wr.alloc (.cells (bn (List.replicate D 0)) 5)).cell? _=_ at p9b p10b;have HBA:=ae hba;clear hba;go_upto_region 4 with(simp only[hq]);go_region_law (simp only[hmk])
    all_goals(
     go_wp2_with fail;refine⟨⟨k+1,by omega,by go_num,ae ?_⟩,by simp[intOf];omega⟩
     have hz:(rB (List.replicate D 0)).ok (wr.alloc (.cells (bn (List.replicate D 0)) 5)) F [.slice (some ⟨wr.heap.size,0,none⟩) D D]:=by
      have h:=jJ (F:=F) (Blk.new wr 5 (bn (List.replicate D 0))) (HF.out _ HK.out.1.size) (by rw[aN];unfold maxLen;omega)
      rwa [aN] at h
     have hv:(rB (V k)).ok (wr.alloc (.cells (bn (List.replicate D 0)) 5)) F [.slice (some p) q c]:=HRV.out;obtain⟨h1,h2⟩:=SvSt.put2 (wa:=wr.alloc (.cells (bn (List.replicate D 0)) 5)) HS.out (HBA.out 0) rfl hz hv;rw[uZ HV.out,uZ HV.out];exact⟨h1.new (below_drewN (az _ _) 1),HK.out.trans (h2.trans (Kept2.below (below_drewN (az _ _) 1)))⟩)
  ·obtain rfl:k=n:=by omega
   go_wp2_with fail
   go_end0
   exact⟨rfl,hS,hk⟩
theorem Bq{c:Nat}{a b:List Nat}(h:a.length=b.length):kx c a b=xr b (jH c a):=by
 have hs:b.length=(jH c a).length:=by rw[lh,h]
 refine iN (by rw[fA h,jE hs]) fun j=> ?_;rw[jY h,lI hs,iO]
def gF(f:Nat→List Nat)(De:List Nat):Nat→Nat→List Nat
 | 0=>fun _=>[]
 | k+1=>je (gF f De k) (De.getD k 0) (f k)
theorem Br{l:List Nat}(h:l.Nodup){i j:Nat}(hij:i<j)(hj:j<l.length):l.getD i 0≠l.getD j 0:=by
 rw[af,af,ag (by omega),ag hj];exact(List.pairwise_iff_getElem.1 h) i j (by omega) hj hij
theorem DJ{f:Nat→List Nat}{De:List Nat}(h:De.Nodup):∀k,k≤De.length→∀i,i<k→gF f De k (De.getD i 0)=f i:=by
 intro k
 induction k with
 | zero=>intro _ i hi;omega
 | succ k ih=>
   intro hk i hi;show je (gF f De k) (De.getD k 0) (f k) (De.getD i 0)=f i;by_cases e:i=k
   ·subst e;exact li _ _ _
   ·rw[ko _ _ (Br h (by omega) (by omega))]
    exact ih (by omega) i (by omega)
theorem zk{D:Nat}{l:List (List Nat)}{St:List (Nat×Nat)}{De:List Nat}
 (P:∀(k r c:Nat),St[k]? =some (r,c)→r<l.length∧c∈l.getD r []∧∀d∈l.getD r [],d≠c→d∈De∨∃k' r',k'<k∧St[k']? =some (r',d)){W0 z:Nat→List Nat}(hz:∀r,r<l.length→Byt D (z r))(h0:∀c∈De,Byt D (W0 c)):
 ∀k,k≤St.length→∀c,c∈De∨c∈(St.take k).map Prod.snd→Byt D (bX l z W0 (St.take k) c):=by
 intro k
 induction k with
 | zero=>
   intro _ c hc;rcases hc with hc | hc
   ·exact h0 c hc
   ·simp at hc
 | succ k ih=>
   intro hk c hc;have hkl:k<St.length:=(by omega);obtain⟨r,d,hrd⟩:∃r d,St[k]=(r,d):=⟨_,_,rfl⟩;have hs:St[k]? =some (r,d):=(by rw[ag hkl,hrd]);have htk:St.take (k+1)=St.take k++[(r,d)]:=(by rw[aP hkl,hrd]);obtain⟨p1,p2,p3⟩:=P k r d hs;have ih:=ih (by omega);rw[htk,kP];by_cases hcd:c=d
   ·subst hcd
    rw[li];refine df (hz r p1) fun e he=>ih e ?_;obtain⟨h1,h2⟩:=List.mem_filter.1 he;have hne:e≠c:=(by simpa using h2);rcases p3 e h1 hne with h | ⟨k',r',h3,h4⟩
    ·exact .inl h
    ·right
     refine List.mem_map.2 ⟨(r',e),?_,rfl⟩;refine List.mem_of_getElem? (i:=k') ?_;rw[List.getElem?_take,if_pos h3];exact h4
   ·rw[ko _ _ hcd]
    refine ih c ?_;rcases hc with hc | hc
    ·exact .inl hc
    ·right
     rw[htk,aW] at hc;rcases List.mem_append.1 hc with hc | hc
     ·exact hc
     ·exact absurd (by simpa using hc) hcd
theorem zm{cols:List Nat}{j x:Nat}(hj:j<cols.length):(cols.take (j+1)).filter (fun d=> !(d == x))=(cols.take j).filter (fun d=> !(d == x))++if cols.getD j 0=x then [] else [cols.getD j 0]:=by
 have e:cols.getD j 0=cols[j]:=by rw[af,ag hj];rfl
 rw[aP hj,List.filter_append,e];congr 1;by_cases h:cols[j]=x
 ·rw[if_pos h];simp[h]
 ·rw[if_neg h];simp[h]
theorem wM(m:Nat→List Nat)(L:List Nat)(c:Nat)(z:List Nat):bz m (L++[c]) z=xr (bz m L z) (m c):=by unfold bz;rw[List.foldl_append];rfl
theorem SvSt.putG{w w':World}{g gf K H Z n gv gw gm k:Nat}{rest vS vD vL u1 u2:Value}{F:Nat→Prop}{V W M:Nat→List Nat}{d1 d2:List Nat}(h:SvSt w g gf K H Z n gv gw gm rest vS vD vL F V W M)(hsz:Below 0 w w')
 (hoth:∀b,b<w.heap.size→b≠gw→b≠gm→w'.heap[b]? =w.heap[b]?)(hgw:∀hs:Array Value,Blk w gw 23 hs→Blk w' gw 23 (hs.setIfInBounds k u1))(hgm:∀hs:Array Value,Blk w gm 23 hs→Blk w' gm 23 (hs.setIfInBounds k u2))
 (h1:(rB d1).ok w' F [u1])(h2:(rB d2).ok w' F [u2]):SvSt w' g gf K H Z n gv gw gm rest vS vD vL F V (je W k d1) (je M k d2)∧Kept2 w w' gw gm:=by
 obtain⟨n1,n2,n3⟩:=h.ne;have hF:∀b,F b→b≠gw∧b≠gm:=fun b hb=>⟨(h.off b hb).2.2.1,(h.off b hb).2.2.2⟩;obtain⟨w1,w2,-⟩:=h.way.ex;obtain⟨m1,m2,-⟩:=h.mor.ex;have hkeepF:∀b,F b→b<w.heap.size→w'.heap[b]? =w.heap[b]? :=fun b hb hlt=>hoth b hlt (hF b hb).1 (hF b hb).2;refine⟨⟨?_,?_,?_,?_,?_,h.ne,h.off⟩,hsz,hoth⟩
 ·exact(hoth g h.blk.lt (Blk.ne h.blk w2 (by decide)) (Blk.ne h.blk m2 (by decide))).trans h.blk
 ·exact(hoth gf (Blk.lt (t:=119) h.fld) (Blk.ne (t:=119) h.fld w2 (by decide)) (Blk.ne (t:=119) h.fld m2 (by decide))).trans h.fld
 ·obtain⟨hs,a1,a2,a3⟩:=h.vls
  exact⟨hs,(hoth gv a1.lt n1 n2).trans a1,a2,fun c hc=>(rN _).keep (a3 c hc) fun b hb hlt=>⟨hkeepF b hb hlt,hb⟩⟩
 ·exact h.way.put h1 hkeepF fun hs hh=>hgw hs hh
 ·exact h.mor.put h2 hkeepF fun hs hh=>hgm hs hh
theorem Ho{w:World}{C:Nat}{v:Value}{ys:List (Nat×Nat)}(h:OwnT w C v ys):(rS 2 (ys.map gU)).ok w (Fr C) [v]:=by
 obtain⟨a,c,rfl,r1,r2,r3,r4,r5⟩:=bV h;refine⟨a,ys.length,c,rfl,r2,r3,r1,by rw[aG],iC ys,iG ys,fun hn=> ?_,fun i R hR=> ?_⟩
 ·obtain⟨b,o,e1,⟨hb,_⟩,_,hc⟩:=r5 hn
  exact⟨b,o,e1,hb,hc⟩
 ·rw[List.getElem?_map] at hR
  obtain⟨x,hx,rfl⟩:=Option.map_eq_some_iff.1 hR;have hi:=(List.getElem?_eq_some_iff.1 hx).1;have ex:ys.getD i (0,0)=x:=(by rw[af,hx];rfl);obtain⟨s0,s1⟩:=mi hi;rw[ex] at s0 s1;have hl:=iG ys;obtain⟨l0,e0⟩:=List.getElem?_eq_some_iff.1 s0;obtain⟨l1,e1⟩:=List.getElem?_eq_some_iff.1 s1
  have e:((iC ys).drop (i*2)).take 2=[.int .i64 (x.1:Nat)]++[.int .i64 (x.2:Nat)]:=by
   rw[List.drop_eq_getElem_cons l0,List.drop_eq_getElem_cons l1,e0,e1];rfl
  rw[e];exact nJ (pQ rfl) (pQ rfl)
theorem Hp{L:List (Nat×Nat)}{w:World}{F:Nat→Prop}{a:Option Addr}{n c i:Nat}(h:(rS 2 (L.map gU)).ok w F [.slice a n c])(hl:L.length=n)(hi:i<n):
 ∃b o,a=some ⟨b,o,none⟩∧F b∧b<w.heap.size∧w.cell? ⟨b,o+i*2,none⟩=some (.int .i64 ((L.getD i (0,0)).1:Nat))∧w.cell? ⟨b,o+i*2+1,none⟩=some (.int .i64 ((L.getD i (0,0)).2:Nat)):=by
 have hiL:i<L.length:=by omega
 have hR:(L.map gU)[i]? =some (gU (L.getD i (0,0))):=by rw[List.getElem?_map,af,ag hiL];rfl
 obtain⟨b,o,ds,rfl,hF,hb,hok,hlen,hc⟩:=uN h (by decide) hi hR;obtain⟨x,y,rfl,h1,h2⟩:=hok;have hx:x=[.int .i64 ((L.getD i (0,0)).1:Nat)]:=h1.1;have hy:y=[.int .i64 ((L.getD i (0,0)).2:Nat)]:=h2.1;subst hx hy;exact⟨b,o,rfl,hF,hb,hc 0 _ rfl,hc 1 _ rfl⟩
theorem oO(w:World)(X Y:Array Value)(tX tY:TypeId):Blk ((w.alloc (.cells X tX)).alloc (.cells Y tY)) w.heap.size tX X∧Blk ((w.alloc (.cells X tX)).alloc (.cells Y tY)) (w.heap.size+1) tY Y∧Below w.heap.size w ((w.alloc (.cells X tX)).alloc (.cells Y tY)):=by
 have e1:(w.alloc (.cells X tX)).heap.size=w.heap.size+1:=by simp
 have b1:=(az w.heap.size w).alloc (ah _) (.cells X tX);have b2:=(az (w.alloc (.cells X tX)).heap.size (w.alloc (.cells X tX))).alloc (ah _) (.cells Y tY);have k1:=Blk.new w tX X;have k2:=Blk.new (w.alloc (.cells X tX)) tY Y;have k1':=k1.below b2 k1.lt;rw[e1] at k2;exact⟨k1',k2,b1.trans (b2.mono (by rw[e1];omega))⟩
theorem SvSt.begin{w w':World}{g gf K H Z n gv gw gm:Nat}{rest vS vD vL wy mo:Value}{F:Nat→Prop}{V:Nat→List Nat}
 (hg:Blk w g 132 (svC gf K H Z (.slice (some ⟨gv,0,none⟩) n n) rest vS vD vL wy mo))(hF:Fld w gf)
 (hv:∃hs:List Value,Blk w gv 23 hs.toArray∧hs.length=n∧∀c,c<n→(rN (V c)).ok w F [hs.getD c undef])(hoff:∀b,F b→b≠g∧b≠gv){C1:Nat}
 (hg':Blk w' g 132 (svC gf K H Z (.slice (some ⟨gv,0,none⟩) n n) rest vS vD vL (.slice (some ⟨gw,0,none⟩) n n) (.slice (some ⟨gm,0,none⟩) n n)))
 (hw':Blk w' gw 23 (List.replicate n (Value.slice none 0 0)).toArray)(hm':Blk w' gm 23 (List.replicate n (Value.slice none 0 0)).toArray)(hk:∀b,b<w.heap.size→b≠g→w'.heap[b]? =w.heap[b]?)
 (h1:w.heap.size≤gw∧gw<C1)(h2:w.heap.size≤gm∧gm<C1)(h3:gw≠gm):
 SvSt w' g gf K H Z n gv gw gm rest vS vD vL (fun b=>(F b∧b<w.heap.size)∨C1≤b) V (fun _=>[]) (fun _=>[]):=by
 obtain⟨hs,v1,v2,v3⟩:=hv;have hgg:g<w.heap.size:=hg.lt;have hgv:gv<w.heap.size:=v1.lt;have hgfg:gf≠g:=Blk.ne (t:=119) hF hg (by decide);have hvg:gv≠g:=Blk.ne v1 hg (by decide);refine⟨hg',(hk gf (Blk.lt (t:=119) hF) hgfg).trans hF,⟨hs,(hk gv hgv hvg).trans v1,v2,fun c hc=>(rN _).keep (v3 c hc) fun b hb hlt=>⟨hk b hlt (hoff b hb).1,.inl ⟨hb,hlt⟩⟩⟩,Hs.begin hw',Hs.begin hm',⟨by omega,by omega,h3⟩,fun b hb=> ?_⟩;rcases hb with⟨hb,hlt⟩ | hb
 ·have:=hoff b hb
  exact⟨this.1,this.2,by omega,by omega⟩
 ·exact⟨by omega,by omega,by omega,by omega⟩
theorem SvSt.begin2{w:World}{g gf K H Z n gv gw gm:Nat}{rest vS vD vL wy mo:Value}{F:Nat→Prop}{V:Nat→List Nat}{ch:Array Value}(hch:(List.replicate n (Value.slice none 0 0)).toArray=ch)
 (hg:Blk w g 132 (svC gf K H Z (.slice (some ⟨gv,0,none⟩) n n) rest vS vD vL wy mo))(hF:Fld w gf)
 (hv:∃hs:List Value,Blk w gv 23 hs.toArray∧hs.length=n∧∀c,c<n→(rN (V c)).ok w F [hs.getD c undef])(hoff:∀b,F b→b≠g∧b≠gv)
 (h:gw=w.heap.size∧gm=w.heap.size+1∨gw=w.heap.size+1∧gm=w.heap.size){w':World}(hw':w'=(((w.setCell ⟨g,9,none⟩ (.slice (some ⟨gw,0,none⟩) n n)).setCell ⟨g,10,none⟩ (.slice (some ⟨gm,0,none⟩) n n)).alloc (.cells ch 23)).alloc (.cells ch 23)):
 (w.heap.size≤gw∧w.heap.size≤gm)∧SvSt w' g gf K H Z n gv gw gm rest vS vD vL (fun b=>(F b∧b<w.heap.size)∨w.heap.size+2≤b) V (fun _=>[]) (fun _=>[])∧w'.heap.size=w.heap.size+2∧(∀b,b<w.heap.size→b≠g→w'.heap[b]? =w.heap[b]?)∧Below 0 w w':=by
 have hb0:Below 0 w w':=by rw[hw'];exact((((az 0 w).setCell (Nat.zero_le _) _).setCell (Nat.zero_le _) _).alloc (Nat.zero_le _) _).alloc (Nat.zero_le _) _
 have hs2:((w.setCell ⟨g,9,none⟩ (.slice (some ⟨gw,0,none⟩) n n)).setCell ⟨g,10,none⟩ (.slice (some ⟨gm,0,none⟩) n n)).heap.size=w.heap.size:=by simp
 have h2:Blk ((w.setCell ⟨g,9,none⟩ (.slice (some ⟨gw,0,none⟩) n n)).setCell ⟨g,10,none⟩ (.slice (some ⟨gm,0,none⟩) n n)) g 132 (svC gf K H Z (.slice (some ⟨gv,0,none⟩) n n) rest vS vD vL (.slice (some ⟨gw,0,none⟩) n n) (.slice (some ⟨gm,0,none⟩) n n)):=(hg.set 9 _).set 10 _;have hfar:∀b,b≠g→((w.setCell ⟨g,9,none⟩ (.slice (some ⟨gw,0,none⟩) n n)).setCell ⟨g,10,none⟩ (.slice (some ⟨gm,0,none⟩) n n)).heap[b]? =w.heap[b]? :=fun b hb=>(aZ _ _ _ _ hb).trans (aZ _ _ _ _ hb);generalize (w.setCell ⟨g,9,none⟩ (.slice (some ⟨gw,0,none⟩) n n)).setCell ⟨g,10,none⟩ (.slice (some ⟨gm,0,none⟩) n n)=w2 at*;obtain⟨k1,k2,kb⟩:=oO w2 ch ch 23 23;have hsz:w'.heap.size=w.heap.size+2:=by rw[hw'];simp[hs2]
 rw[←hw',hs2] at k1 k2 kb;have hlow:∀b,b<w.heap.size→b≠g→w'.heap[b]? =w.heap[b]? :=fun b hb hne=>(kb.block b hb).trans (hfar b hne);refine⟨by omega,SvSt.begin hg hF hv hoff (h2.below kb hg.lt) ?_ ?_ hlow (by omega) (by omega) (by omega),hsz,hlow,hb0⟩
 ·rw[hch]
  rcases h with⟨rfl,rfl⟩ | ⟨rfl,rfl⟩
  ·exact k1
  ·exact k2
 ·rw[hch]
  rcases h with⟨rfl,rfl⟩ | ⟨rfl,rfl⟩
  ·exact k2
  ·exact k1
theorem sH{wo w':World}{gw gm c:Nat}{u1 u2:Value}{X Y:Array Value}{tX tY:TypeId}(hgw:gw<wo.heap.size)(hgm:gm<wo.heap.size)(hne:gw≠gm)(hw':w'=(((wo.setCell ⟨gw,c,none⟩ u1).setCell ⟨gm,c,none⟩ u2).alloc (.cells X tX)).alloc (.cells Y tY)):
 Blk w' wo.heap.size tX X∧Blk w' (wo.heap.size+1) tY Y∧Below 0 wo w'∧(∀b,b<wo.heap.size→b≠gw→b≠gm→w'.heap[b]? =wo.heap[b]?)∧
 (∀hs:Array Value,Blk wo gw 23 hs→Blk w' gw 23 (hs.setIfInBounds c u1))∧(∀hs:Array Value,Blk wo gm 23 hs→Blk w' gm 23 (hs.setIfInBounds c u2)):=by
 have hs2:((wo.setCell ⟨gw,c,none⟩ u1).setCell ⟨gm,c,none⟩ u2).heap.size=wo.heap.size:=by simp
 have hb0:Below 0 wo w':=by rw[hw'];exact((((az 0 wo).setCell (Nat.zero_le _) _).setCell (Nat.zero_le _) _).alloc (Nat.zero_le _) _).alloc (Nat.zero_le _) _
 have hfar:∀b,b≠gw→b≠gm→((wo.setCell ⟨gw,c,none⟩ u1).setCell ⟨gm,c,none⟩ u2).heap[b]? =wo.heap[b]? :=fun b h1 h2=>(aZ _ _ _ _ h2).trans (aZ _ _ _ _ h1);have h1:∀hs:Array Value,Blk wo gw 23 hs→Blk ((wo.setCell ⟨gw,c,none⟩ u1).setCell ⟨gm,c,none⟩ u2) gw 23 (hs.setIfInBounds c u1):=fun hs hh=>Blk.far (p:=⟨gm,c,none⟩) (Blk.set hh c u1) hne _;have h2:∀hs:Array Value,Blk wo gm 23 hs→Blk ((wo.setCell ⟨gw,c,none⟩ u1).setCell ⟨gm,c,none⟩ u2) gm 23 (hs.setIfInBounds c u2):=fun hs hh=>Blk.set (Blk.far (p:=⟨gw,c,none⟩) hh (fun e=>hne e.symm) _) c u2;generalize (wo.setCell ⟨gw,c,none⟩ u1).setCell ⟨gm,c,none⟩ u2=w2 at*;obtain⟨k1,k2,kb⟩:=oO w2 X Y tX tY;rw[←hw',hs2] at k1 k2 kb;exact⟨k1,k2,hb0,fun b hb n1 n2=>(kb.block b hb).trans (hfar b n1 n2),fun hs hh=>(h1 hs hh).below kb hgw,fun hs hh=>(h2 hs hh).below kb hgm⟩
def xz(K H Z:Nat)(s:Int)(L:List (Nat×List Nat)):List (List Nat×List Nat):=L.map fun x=>(gq K H Z s (x.1:Nat),x.2)
theorem wH{n Z:Nat}{m:Nat→List Nat}{kn:List Bool}{vl:List (List Nat)}(h:ConsP n m kn vl)(hm:∀c,c<n→(m c).length=Z)(hZ:1≤Z)(X W:Nat→List Nat){c:Nat}(hc:c<n):
 fT (fun c=>vl.getD c []) X W n c=xY (fun c=>kn.getD c false) W X c:=by
 unfold fT xY;cases hk:kn.getD c false with
 | true=>
   have e:=(h c hc).1 hk;have h1:=hm c hc
   rw[if_pos ⟨hc,fun e2=>by
    have e3:vl.getD c []=[]:=e2;rw[e] at e3;rw[e3] at h1;simp at h1;omega⟩,if_pos (show(fun c=>kn.getD c false) c=true from hk)]
 | false=>
   have e:=(h c hc).2 hk;rw[if_neg (fun h2=>h2.2 e),if_neg (fun h2:(fun c=>kn.getD c false) c=true=>absurd (hk.symm.trans h2) (by decide))]
theorem Ic{n Z:Nat}{m:Nat→List Nat}{kn:List Bool}{L:List (List Nat×List Nat)}(hR:uU n Z m L)(hN:∀x∈L,x.1.Nodup){r:Nat}(hr:r<(fe kn m Z L).length):
 ∃x∈L,(fe kn m Z L).getD r ([],[])=uh kn m Z x:=by
 have hm:(fe kn m Z L).getD r ([],[])∈fe kn m Z L:=by rw[af,ag hr];exact aU _
 unfold fe at hm;obtain⟨h1,_⟩:=List.mem_filter.1 hm;obtain⟨x,hx,e⟩:=List.mem_map.1 h1;exact⟨x,hx,e.symm⟩
theorem dW(l:List (List Nat×List Nat))(r:Nat):(l.map Prod.fst).getD r []=(l.getD r ([],[])).1:=by
 rw[af,af,List.getElem?_map];cases l[r]? <;> rfl
theorem EQ{K H:Nat}{row:List Nat}(h:row∈bD K H H):∃i,i<H∧row=jT (K+H) (K+i) i K:=by
 obtain⟨i,hi,rfl⟩:=List.getElem_of_mem h;have hi2:=hi;rw[dD] at hi2;have e:=uX K H H hi2;rw[af,ag hi] at e;exact⟨i,hi2,e⟩
theorem yY(a b:Nat):decide (a<b)= !decide (b≤a):=by
 rcases Nat.lt_or_ge a b with h | h
 ·rw[decide_eq_true h,decide_eq_false (by omega)];rfl
 ·rw[decide_eq_false (by omega),decide_eq_true h];rfl
def rE(K H D:Nat)(R:List (List Nat))(W:Nat→List Nat)(Le:List Nat):List (List Nat):=Le.map (fun r=>bz W (R.getD r []) (List.replicate D 0))++(bD K H H).map fun row=>cZ W row (List.replicate D 0) (K+H)
def vF(K H Z:Nat)(R:List (List Nat))(z M:Nat→List Nat)(Le:List Nat):List (List Nat):=Le.map (fun r=>bz M (R.getD r []) (z r))++(bD K H H).map fun row=>cZ M row (List.replicate Z 0) (K+H)
theorem KD{K H Z:Nat}{s:Int}{mm:List (List Nat)}{L:List (Nat×List Nat)}{kn:List Bool}{vl:List (List Nat)}{St0:List (Nat×Nat)}{De Le0:List Nat}{rest:List (List Nat×List Nat)}
 (hk:ed K H Z=true)(hm:MidOK K H Z s mm)(hL:∀x∈L,x.1≤65535∧x.2=dn K H Z s mm x.1)
 (hc:ConsP (K+H) (fun c=>mm.getD c []) kn vl)(hr:rest=fe kn (fun c=>mm.getD c []) Z (xz K H Z s L))
 (hP:oK (K+H) (rest.map Prod.fst++bT (K+H) fun c=>kn.getD c false) St0 De Le0)(hf:dP K H Z s (L.map Prod.fst)=true)
 (D:Nat)(hD:De.length=D)(W M V z:Nat→List Nat)(St:List (Nat×Nat))(Le:List Nat)(hSt:St=St0.filter fun s=> !decide (rest.length≤s.1))(hLe:Le=Le0.filter fun i=> !decide (rest.length≤i))
 (hV:V=fun c=>vl.getD c [])(hz:z=fun r=>(rest.getD r ([],[])).2)
 (hW:W=fT V (fun _=>List.replicate D 0) (bX (rest.map Prod.fst) (fun _=>List.replicate D 0) (gF (dI D) De D) St) (K+H))
 (hM:M=fT V V (bX (rest.map Prod.fst) z (gF (fun _=>List.replicate Z 0) De D) St) (K+H)):
 (∀(k r c:Nat),St[k]? =some (r,c)→r<(rest.map Prod.fst).length∧c∈(rest.map Prod.fst).getD r []∧∀d∈(rest.map Prod.fst).getD r [],d≠c→d∈De∨∃k' r',k'<k∧St[k']? =some (r',d))∧
 (∀c∈De,c<K+H)∧De.Nodup∧(∀i∈Le,i<rest.length)∧(∀r,∀c∈(rest.map Prod.fst).getD r [],c<K+H)∧(∀r,r<rest.length→Byt Z (z r))∧
 (∀c,c<K+H→Byt D (W c)∧Byt Z (M c))∧
 (0<D→jF D (rE K H D (rest.map Prod.fst) W Le) (vF K H Z (rest.map Prod.fst) z M Le)=0∧jG D (rE K H D (rest.map Prod.fst) W Le) (vF K H Z (rest.map Prod.fst) z M Le)=De.map fun c=>mm.getD c [])∧
 (D=0→∀b∈vF K H Z (rest.map Prod.fst) z M Le,b=List.replicate Z 0)∧
 ∀c,c<K+H→V c=[]→cZ (fun i=>(De.map fun c=>mm.getD c []).getD i []) (W c) (M c) D=mm.getD c []:=by
 have hok:=of_decide_eq_true hk;have hZ:1≤Z:=by omega
 have hmm:∀c,c<K+H→Byt Z (mm.getD c []):=fun c h=>hm.row h
 have hE:uU (K+H) Z (fun c=>mm.getD c []) (xz K H Z s L):=by
  intro x hx;obtain⟨y,hy,rfl⟩:=List.mem_map.1 hx;obtain⟨c1,c2⟩:=ku (s:=s) (id:=(y.1:Nat)) hk;refine⟨?_,c1,(hL y hy).2⟩;have:=iW (lG c2) c1;show(gq K H Z s (y.1:Nat)).length≤64;omega
 have hEn:∀x∈xz K H Z s L,x.1.Nodup:=by
  intro x hx;obtain⟨y,hy,rfl⟩:=List.mem_map.1 hx;exact lG (ku (s:=s) (id:=(y.1:Nat)) hk).2
 have hrow:∀r,r<rest.length→∃x∈xz K H Z s L,rest.getD r ([],[])=uh kn (fun c=>mm.getD c []) Z x:=by
  subst hr;exact fun r h=>Ic hE hEn h
 have hRn:∀r,((rest.map Prod.fst).getD r []).Nodup:=fun r=>by
  rw[dW];rcases Nat.lt_or_ge r rest.length with h | h
  ·obtain⟨x,hx,e⟩:=hrow r h
   rw[e];exact(hEn x hx).filter _
  ·rw[af,List.getElem?_eq_none h];exact List.nodup_nil
 have hRk:∀r,∀c∈(rest.map Prod.fst).getD r [],c<K+H∧kn.getD c false=false:=fun r c h=>by
  rw[dW] at h;rcases Nat.lt_or_ge r rest.length with h1 | h1
  ·obtain⟨x,hx,e⟩:=hrow r h1
   rw[e] at h;obtain⟨h2,h3⟩:=List.mem_filter.1 h;exact⟨(hE x hx).2.1 c h2,by simpa using h3⟩
  ·rw[af,List.getElem?_eq_none h1] at h;simp at h
 have hzr:∀r,r<rest.length→Byt Z (z r)∧∀j,sX (fun c j=>(mm.getD c []).getD j 0) j ((rest.map Prod.fst).getD r [])=(z r).getD j 0:=fun r h=>by
  obtain⟨x,hx,e⟩:=hrow r h;have hb:∀c∈dA kn x.1,c<K+H:=fun c hc=>(hE x hx).2.1 c (List.mem_filter.1 hc).1;have hz2:z r=(rest.getD r ([],[])).2:=(by rw[hz]);rw[dW,hz2,e];refine⟨df (Byt.zero Z) fun c hc=>hmm c (hb c hc),fun j=> ?_⟩;show sX (fun c j=>(mm.getD c []).getD j 0) j (dA kn x.1)=(bz (fun c=>mm.getD c []) (dA kn x.1) (List.replicate Z 0)).getD j 0;rw[iX j aN fun c hc=>(hmm c (hb c hc)).1,pF,Nat.zero_xor]
 have hRl:(rest.map Prod.fst).length=rest.length:=aG _;have PR:=Ha hP hRk;rw[hRl] at PR;have e1:(St0.filter fun s=>decide (s.1<rest.length))=St:=by rw[hSt];exact List.filter_congr fun s _=>yY _ _
 have e2:(Le0.filter fun i=>decide (i<rest.length))=Le:=by rw[hLe];exact List.filter_congr fun i _=>yY _ _
 rw[e1,e2] at PR;have hDn:De.Nodup:=(List.nodup_append.1 PR.cols).2.1
 have hg:∀i,i<D→gF (dI D) De D (De.getD i 0)=dI D i∧gF (fun _=>List.replicate Z 0) De D (De.getD i 0)=List.replicate Z 0:=fun i hi=>
  ⟨DJ hDn D (by omega) i hi,DJ (f:=fun _=>List.replicate Z 0) hDn D (by omega) i hi⟩
 have hvl:∀c,c<K+H→kn.getD c false=true→V c=mm.getD c []:=fun c h1 h2=>by rw[hV];exact(hc c h1).1 h2
 have hWw:∀c,c<K+H→W c=xY (fun c=>kn.getD c false) (bX (rest.map Prod.fst) (fun _=>List.replicate D 0) (gF (dI D) De D) St) (fun _=>List.replicate D 0) c:=fun c h=>by
  rw[hW,hV];exact wH hc (fun c h=>(hmm c h).1) hZ _ _ h
 have hMw:∀c,c<K+H→M c=xY (fun c=>kn.getD c false) (bX (rest.map Prod.fst) z (gF (fun _=>List.replicate Z 0) De D) St) V c:=fun c h=>by
  rw[hM,hV];exact wH hc (fun c h=>(hmm c h).1) hZ _ _ h
 obtain⟨X,hX⟩:∃X,X=De.map fun c=>mm.getD c []:=⟨_,rfl⟩;have hcom:=FH (Z:=Z) PR hD hRn (m:=fun c=>mm.getD c []) hmm (z:=z) (vl:=V) (fun r h=>hzr r (by rwa [hRl] at h)) hvl hg hX
 have hWM:∀c,c<K+H→Byt D (W c)∧Byt Z (M c)∧∀j,(mm.getD c []).getD j 0=comes D (fun i j=>(X.getD i []).getD j 0) (W c) j ^^^ (M c).getD j 0:=fun c h=>by
  rw[hWw c h,hMw c h];exact hcom c h
 clear hcom;have hLr:∀i∈Le,i<rest.length:=fun i hi=>by have:=((PR.left i).1 hi).1;rwa [hRl] at this
 have hAwf:=qO K H H
 have hpre:∀row∈bD K H H,∀j,dG (vO row) (fun c=>(mm.getD c []).getD j 0) (K+H)=0:=fun row h j=>by
  obtain⟨i,hi,rfl⟩:=EQ h;exact hm.pre i hi j
 have hXwf:Wf Z X:=by
  intro r hr;rw[hX] at hr;obtain⟨c,hc,rfl⟩:=List.mem_map.1 hr;exact hmm c (PR.bd c (.inr hc))
 have hXl:X.length=D:=by rw[hX,aG];exact hD
 refine⟨fun k r c h=>PR.step k r c h,fun c h=>PR.bd c (.inr h),hDn,hLr,fun r c h=>(hRk r c h).1,fun r h=>(hzr r h).1,fun c h=>⟨(hWM c h).1,(hWM c h).2.1⟩,?_,?_,?_⟩
 ·intro hD0
  have hX0:X≠[]:=fun e=>by rw[e] at hXl;simp at hXl;omega
  have hmul:jd (rE K H D (rest.map Prod.fst) W Le) X=vF K H Z (rest.map Prod.fst) z M Le:=
   Bz (fun c j=>(mm.getD c []).getD j 0) hXwf hXl hX0 (fun c h=>(hWM c h).1) (fun c h=>(hWM c h).2.1) (fun c h=>(hWM c h).2.2) (fun r hr c h=>(hRk r c h).1) (fun r hr=>(hzr r (hLr r hr)).1) (fun r hr=>(hzr r (hLr r hr)).2) hAwf hpre
  have hids:∀i∈L.map Prod.fst,i≤65535:=fun i hi=>by obtain⟨x,hx,rfl⟩:=List.mem_map.1 hi;exact(hL x hx).1
  have hrank:(dh (rE K H D (rest.map Prod.fst) W Le)).length=D:=by
   refine BF (W0:=gF (dI D) De D) PR hD hRn hRk (fun i hi=>(hg i hi).1) (fun c h=>hWw c h) (fun c h=>(hWM c h).1) hAwf (E:=(L.map Prod.fst).map fun i=>gq K H Z s (i:Nat)) (F:=dL K H Z s (L.map Prod.fst)) ?_ (pu hk hids) ?_ (of_decide_eq_true hf)
   ·intro cols hcols
    obtain⟨i,hi,rfl⟩:=List.mem_map.1 hcols;obtain⟨x,hx,rfl⟩:=List.mem_map.1 hi;obtain⟨c1,c2⟩:=ku (s:=s) (id:=(x.1:Nat)) hk;refine⟨lG c2,c1,?_⟩;by_cases h0:dA kn (gq K H Z s (x.1:Nat))=[]
    ·exact .inl h0
    ·right
     have hmem:uh kn (fun c=>mm.getD c []) Z (gq K H Z s (x.1:Nat),x.2)∈rest:=by
      rw[hr];unfold fe;refine List.mem_filter.2 ⟨List.mem_map.2 ⟨_,List.mem_map.2 ⟨x,hx,rfl⟩,rfl⟩,?_⟩;have:(dA kn (gq K H Z s (x.1:Nat))).length≠0:=fun e=>h0 (List.eq_nil_of_length_eq_zero e);show((dA kn (gq K H Z s (x.1:Nat))).length != 0)=true;simpa using this
     obtain⟨r,hr1,hr2⟩:=List.getElem_of_mem hmem;refine⟨r,by rw[hRl];exact hr1,?_⟩;rw[dW,af,ag hr1,Option.getD_some,hr2];rfl
   ·intro row hrow
    rcases List.mem_append.1 hrow with h | h
    ·exact .inl h
    ·right
     obtain⟨i,hi,rfl⟩:=List.mem_map.1 h;have hi2:=hids i hi;exact⟨_,List.mem_map.2 ⟨i,hi,rfl⟩,(pq (s:=s) (id:=(i:Nat)) hk (by omega) (by omega)).2.2.1⟩
  have hA:Wf D (rE K H D (rest.map Prod.fst) W Le):=by
   intro r hr;rcases List.mem_append.1 hr with h | h
   ·obtain⟨i,_,rfl⟩:=List.mem_map.1 h
    exact df (Byt.zero D) fun c hc=>(hWM c (hRk i c hc).1).1
   ·obtain⟨row,_,rfl⟩:=List.mem_map.1 h
    exact eQ (Byt.zero D) (K+H) fun c hc=>(hWM c hc).1.1
  have hA0:rE K H D (rest.map Prod.fst) W Le≠[]:=fun e=>by
   have:=congrArg List.length e;unfold rE at this;rw[aJ,aG,aG,dD] at this;simp at this;omega
  rw[←hmul,←hX];exact Gw hA hXwf hXl hX0 hA0 hrank
 ·intro hD0 b hb
  refine BK (M:=M) (z:=z) (m:=fun c j=>(mm.getD c []).getD j 0) (fun c h=>(hWM c h).2.1) (fun c h j=> ?_) (fun r hr c h=>(hRk r c h).1) (fun r hr=>(hzr r (hLr r hr)).1) (fun r hr=>(hzr r (hLr r hr)).2) hAwf hpre b hb;have:=(hWM c h).2.2 j;rw[this,hD0];show 0 ^^^ _=_;rw[Nat.zero_xor]
 ·intro c h hv
  rw[←hX];exact IZ hXwf hXl (hWM c h).2.1.1 (hmm c h).1 (hWM c h).2.2
theorem rZ{w:List Nat}(h:By w):jH 1 w=w:=by
 refine iN (lh 1 w) fun j=> ?_;rw[iO,iQ _ (getD_lt h j)]
theorem uQ(g gf K H Z n gv gw gm t c D cx cy:Nat)(ax ay:Option Addr)(vR vS vD vL:Value)(F:Nat→Prop)(V W M:Nat→List Nat)(xl yl:List Nat)(w6 wq:World)
 (hS:SvSt w6 g gf K H Z n gv gw gm vR vS vD vL F V W M)(hB:Below w6.heap.size w6 wq)(ht:t<256)(hc:c<n)(hW:Byt D (W c))(hM:Byt Z (M c))
 (hx:OwnB wq w6.heap.size (.slice ax D cx) xl)(hy:OwnB wq w6.heap.size (.slice ay Z cy) yl)(hxl:Byt D xl)(hyl:Byt Z yl)(hap:∀b,(Value.slice ax D cx).ownBlock=some b→(Value.slice ay Z cy).ownBlock≠some b)(hD:D≤1000000)(hZ:Z≤1000000):
 Calls prog 144 #[.pointer (some ⟨g,0,none⟩),.int .u8 t,.int .i64 c,.slice ax D cx,.slice ay Z cy] wq fun e w'=>e=.returned (.tuple #[])∧OwnB w' w6.heap.size (.slice ax D cx) (xr xl (jH t (W c)))∧OwnB w' w6.heap.size (.slice ay Z cy) (xr yl (jH t (M c)))∧Below w6.heap.size wq w':=by
 obtain⟨aw,qw,dw,cw,ew,-,rw1,-,-,-,-⟩:=hS.way.at hc;obtain⟨am,qm,dm,cm,em,-,rm1,-,-,-,-⟩:=hS.mor.at hc;obtain rfl:qw=D:=by rw[ew];exact hW.1
 obtain rfl:qm=Z:=by rw[em];exact hM.1
 have:=KH g gf K H qm n t c w6.heap.size qw gw gm dw dm _ vR vS vD vL aw am ax ay cx cy (W c) (M c) xl yl wq (hS.blk.below hB hS.blk.lt) (Fld.belowC hS.fld hB (Blk.lt (t:=119) hS.fld)) ⟨hS.blk.lt,Blk.lt (t:=119) hS.fld,hS.way.lt,hS.mor.lt⟩ ht hc
  ((hB.cell (p:=⟨gw,c,none⟩) hS.way.lt).trans cw) ((hB.cell (p:=⟨gm,c,none⟩) hS.mor.lt).trans cm) (rw1.below hB (ah _)) (rm1.below hB (ah _)) hW.2 hM.2 hx hy hxl.1 hyl.1 hxl.2 hyl.2 hap hD hZ
 rw[Bq (by rw[hW.1,hxl.1]),Bq (by rw[hM.1,hyl.1])] at this;exact this
theorem mO{wr wx:World}{D Z gz:Nat}{x:List Nat}{v:Value}(hx:x.length=Z)(hD:D≤maxLen)(hov:OwnB wx wr.heap.size v x)(hz:Blk wx gz 5 (bn (List.replicate D 0)))(hgz:wr.heap.size≤gz)(hne:v.ownBlock≠some gz)(hB:Below wr.heap.size wr wx):
 ∃ax cx ay cy,Value.slice (some ⟨gz,0,none⟩) D D=.slice ax D cx∧v=.slice ay Z cy∧Hid (OwnB wx wr.heap.size (.slice ax D cx) (List.replicate D 0))∧Hid (OwnB wx wr.heap.size (.slice ay Z cy) x)∧Hid (∀b,(Value.slice ax D cx).ownBlock=some b→(Value.slice ay Z cy).ownBlock≠some b)∧Hid (Below wr.heap.size wr wx):=by
 obtain⟨ay,ny,cy,rfl,hl⟩:=OwnB.sl hov;obtain rfl:ny=Z:=by omega
 have ho:=jW (C:=wr.heap.size) hz hgz (by rw[aN];exact hD);rw[aN] at ho;refine⟨_,_,_,_,rfl,rfl,ae ho,ae hov,ae fun b h1 h2=>hne (h2.trans ?_),ae hB⟩;simp[Value.ownBlock] at h1;rw[h1]
structure Two (w:World) (C:Nat) (va:Value) (A:List (List Nat)) (vb:Value) (B:List (List Nat)):Prop where
 oa:OwnS w C 23 1 (fun b=>Fr C b∧some b≠vb.ownBlock) va (A.map rB)
 ob:OwnS w C 23 1 (fun b=>Fr C b∧some b≠va.ownBlock) vb (B.map rB)
 ap:∀b,va.ownBlock=some b→vb.ownBlock≠some b
theorem Two.swap{w:World}{C:Nat}{va vb:Value}{A B:List (List Nat)}(h:Two w C va A vb B):Two w C vb B va A:=⟨h.ob,h.oa,fun b h1 h2=>h.ap b h2 h1⟩
theorem Two.begin(w:World)(C:Nat):Two w C (.slice none 0 0) [] (.slice none 0 0) []:=⟨OwnS.nil _ _ _ _ _,OwnS.nil _ _ _ _ _,fun b h=>by simp[Value.ownBlock] at h⟩
theorem Two.new{w w':World}{C:Nat}{va vb:Value}{A B:List (List Nat)}(h:Two w C va A vb B)(hb:Below w.heap.size w w'):Two w' C va A vb B:=⟨h.oa.new hb,h.ob.new hb,h.ap⟩
theorem Two.one{w w2:World}{C:Nat}{va va' vb:Value}{A B:List (List Nat)}{d:List Nat}(h:Two w C va A vb B)(ho:OwnS w2 C 23 1 (fun b=>Fr C b∧some b≠vb.ownBlock) va' ((A++[d]).map rB))
 (hk:∀b,b<w.heap.size→some b≠va.ownBlock→w2.heap[b]? =w.heap[b]?)(hat:va'.ownBlock=va.ownBlock∨∃b,va'.ownBlock=some b∧w.heap.size≤b):Two w2 C va' (A++[d]) vb B:=by
 have hlb:=h.ob.lt;refine⟨ho,?_,fun b h1 h2=> ?_⟩
 ·obtain⟨cs,h1,h2⟩:=h.ob
  refine⟨cs,ju h1 fun b hb=>hk b (hlb b hb).2 fun e=>h.ap b e.symm hb,fun i R hR=>R.keep (h2 i R hR) fun b hb hlt=>⟨hk b hlt hb.1.2,⟨hb.1.1,?_⟩,hb.2⟩⟩;rcases hat with e | ⟨b',e,hb'⟩
  ·rw[e];exact hb.1.2
  ·rw[e];intro e2;injection e2 with e2;omega
 ·rcases hat with e | ⟨b',e,hb'⟩
  ·rw[e] at h1;exact h.ap b h1 h2
  ·rw[e] at h1;injection h1 with h1;have:=(hlb b h2).2;omega
theorem Two.row{w0 w:World}{C:Nat}{va vb:Value}{A B:List (List Nat)}{R:Rp}{us:List Value}(h:Two w0 C va A vb B)(hC:C≤w0.heap.size)(hR:R.ok w (Fr w0.heap.size) us):R.ok w (fun b=>(Fr C b∧some b≠vb.ownBlock)∧some b≠va.ownBlock) us:=
 R.more hR fun b hb _=>⟨⟨aQ hC hb,fun e=>by have:=(h.ob.lt b e.symm).2;have:w0.heap.size≤b:=hb;omega⟩,fun e=>by have:=(h.oa.lt b e.symm).2;have:w0.heap.size≤b:=hb;omega⟩
theorem mP{w w2:World}{P:Nat→Prop}{va va' vb:Value}{R:Rp}{us:List Value}(hR:R.ok w (fun b=>(P b∧some b≠vb.ownBlock)∧some b≠va.ownBlock) us)(hk:∀b,b<w.heap.size→some b≠va.ownBlock→w2.heap[b]? =w.heap[b]?)
 (hat:va'.ownBlock=va.ownBlock∨∃b,va'.ownBlock=some b∧w.heap.size≤b):R.ok w2 (fun b=>(P b∧some b≠va'.ownBlock)∧some b≠vb.ownBlock) us:=
 R.keep hR fun b hb hlt=>⟨hk b hlt hb.2,⟨hb.1.1,by
  rcases hat with e | ⟨b',e,hb'⟩
  ·rw[e];exact hb.2
  ·rw[e];intro e2;injection e2 with e2;omega⟩,hb.1.2⟩
end Go.Proofs.YtofgapdnadbgkaaGreatDoor
