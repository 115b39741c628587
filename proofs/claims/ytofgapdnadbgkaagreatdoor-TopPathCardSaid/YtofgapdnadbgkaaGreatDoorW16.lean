import Derived.Test.YtofgapdnadbgkaaGreatDoorW15
set_option linter.unusedVariables false
set_option maxRecDepth 100000
set_option maxHeartbeats 400000000
namespace Go.Proofs.YtofgapdnadbgkaaGreatDoor
open Go.RowKit _root_.Go.Proofs.Tryz
theorem KV{l:List Nat}{w:World}{F:Nat→Prop}{a:Option Addr}{m c k:Nat}(h:(rB l).ok w F [.slice a m c])(hk:k≤m):(rB (l.take k)).ok w F [.slice a k k]:=by
 obtain⟨a',n,c',e,h1,h2,h3,h4,h5⟩:=h;obtain⟨⟨rfl,rfl,rfl⟩,-⟩:(a=a'∧m=n∧c=c')∧True:=by injection e with e _;injection e with e1 e2 e3;exact⟨⟨e1,e2,e3⟩,trivial⟩
 refine⟨a,k,k,rfl,ah _,by omega,fun e=>by have:=h3 e;omega,?_,fun hn=> ?_⟩
 ·rw[bg] at h4 ⊢
  rw[aI];omega
 ·obtain⟨b,o,e1,hF,hc⟩:=h5 (by omega)
  refine⟨b,o,e1,hF,fun i u hu=>hc i u ?_⟩;unfold ba at hu ⊢;rw[List.getElem?_map,List.getElem?_take] at hu;split at hu
  ·rw[List.getElem?_map];exact hu
  ·cases hu
theorem tP{q:Nat}:∀ {L:List (List Nat)},(∀x∈L,x.length=q)→L.flatten.length=L.length*q:=by
 intro L
 induction L with
 | nil=>intro _;simp
 | cons x L ih=>intro h;rw[List.flatten_cons,aJ,h x (by simp),ih fun y hy=>h y (by simp[hy]),List.length_cons,Nat.succ_mul];omega
theorem BB{q n:Nat}(hq:1≤q):n≤iB q n*q:=by
 unfold iB;split
 ·omega
 ·have h:=Nat.div_add_mod (n-1) q
  have h2:=Nat.mod_lt (n-1) (show 0<q by omega);rw[Nat.succ_mul,Nat.mul_comm];omega
theorem OwnB.sl{w:World}{C:Nat}{v:Value}{l:List Nat}(h:OwnB w C v l):∃a n c,v=.slice a n c∧l.length=n:=by
 obtain⟨a,c,e,_⟩:=h.rd;exact⟨a,_,c,e,rfl⟩
theorem tQ(K H Z:Nat)(L:List (List Nat))(F:Nat→Prop)(a:Option Addr)(N c n:Nat)(w:World)(hk:ed K H Z=true)(hx:(rM L).ok w F [.slice a N c])(hLN:L.length=N)(hN:N=iB (K*Z) n)(hL:∀x∈L,x.length=K*Z)(hn:n≤1000):
 Calls prog 19 #[bL K H Z,.slice a N c,.int .i64 n] w fun e w'=>∃v,e=.returned (.tuple #[v,.bool true])∧(rB (L.flatten.take n)).ok w' (Fr w.heap.size) [v]∧Below w.heap.size w w':=by
 have hok:=of_decide_eq_true hk;obtain⟨a1,c1,e1,hM,-⟩:=dS hx hLN;injection e1 with e1 _ e3;subst e1 e3;have CM:=ae fun w=>eP K H Z w;rw[hk] at CM;have CC:=ae fun w=>ja K H Z n w hk (by omega);rw[←hN] at CC;have CS:=ae fun w=>kY K H Z w (by omega) (by omega);have hq1:1≤K*Z:=Nat.mul_le_mul (show 1≤K by omega) (show 1≤Z by omega);have hq2:K*Z≤16*24:=Nat.mul_le_mul (by omega) (by omega);have hcn:=xZ (K*Z) n;rw[←hN] at hcn;have hge:=BB (n:=n) hq1;rw[←hN] at hge;have HFL:=ae (tP hL);have HFT:=ae fun k=>tP (L:=L.take k) (q:=K*Z) fun x hx=>hL x (List.mem_of_mem_take hx);have hNq:N*(K*Z)≤1000*384:=Nat.mul_le_mul (by omega) (by omega)
 have S0:Hid (Sx w (w.alloc (.cells #[.int .i64 K,.int .i64 H,.int .i64 Z] 26)) [bu w.heap.size 26 #[.int .i64 K,.int .i64 H,.int .i64 Z],qp a N L]):=
  ae (((((Sx.nil w).add (qp a N L) hM).alloc _).add (bu _ _ _) (Blk.new w 26 #[.int .i64 K,.int .i64 H,.int .i64 Z])))
 have hs0:w.heap.size≤(w.alloc (.cells #[.int .i64 K,.int .i64 H,.int .i64 Z] 26)).heap.size:=by simp
 have HLN:=ae hLN;have HL:=ae hL;clear hx hM hok hk hL hLN hN;unfold bL at CM CC CS ⊢;generalize K*Z=q at*;go_enter func19,ntmps19;go_wp2_with fail;generalize w.alloc (.cells #[.int .i64 K,.int .i64 H,.int .i64 Z] 26)=w0 at*;refine(CM.out _).mono ?_;rintro e w1 ⟨rfl,hb⟩;have HB1:=ae hb;have S1:=ae (S0.out.step hb);obtain⟨k0,k1,k2⟩:=lC (S1.out.blk 0 rfl);clear hb CM;go_wp2_with fail;refine(CC.out _).mono ?_;rintro e w2 ⟨rfl,hb⟩;have HB2:=ae (HB1.out.trans (hb.mono HB1.out.size));have HO2:Hid (OwnB w2 w0.heap.size (.slice none 0 0) (L.take 0).flatten):=ae (OwnB.nil _ _);clear hb CC S1 HB1 k0 k1 k2;go_wp2_with fail;go_loopw [8,28] (fun v i wr=>∃k:Nat,k≤N∧i=.int .i64 k∧Hid (OwnB wr w0.heap.size v (L.take k).flatten)∧Hid (Below w0.heap.size w0 wr)) (fun _ i _=>N-(intOf i).toNat)
 case atStart=>exact⟨0,by omega,rfl,HO2,HB2⟩
 case round=>
  clear HO2 HB2;obtain⟨k,hkn,rfl,HO,HB⟩:=hrel;have S1:=ae (S0.out.step HB.out);obtain⟨bv,nv,cv,rfl,hnv⟩:=HO.out.sl;have hfk:=HFT.out k;rw[aI,HLN.out] at hfk;by_cases hlt:k<N
  ·have hltI:(k:Int)<(N:Int):=by omega
   have hMk:RdM w0 w0.heap.size a N L:=S0.out.get 1 rfl;obtain⟨b,o,a',c',rfl,hb,hcell0,hrow0,hnil,hc1,hc2⟩:=hMk.at hlt;have hcell:wr.cell? ⟨b,o+k,none⟩=some (.slice a' (L.getD k []).length c'):=(HB.out.cell (p:=⟨b,o+k,none⟩) hb).trans hcell0;have hrow:=ae (hrow0.below HB.out (ah _));have hkl:k<L.length:=(by rw[HLN.out];exact hlt);have hlen:(L.getD k []).length=q:=HL.out _ (by rw[af,ag hkl];exact aU hkl);rw[hlen] at hcell hrow;have HT:Hid ((L.take (k+1)).flatten=(L.take k).flatten++L.getD k []):=ae (by rw[aP hkl,List.flatten_append,af,ag hkl];simp);obtain⟨k0,k1,k2⟩:=lC (S1.out.blk 0 rfl);have hqq:((q:Int) != (q:Int))=false:=by simp
   have hbd:(L.take k).flatten.length+q≤1000000:=by
    have:min k N*q≤N*q:=Nat.mul_le_mul_right _ (Nat.min_le_right _ _);omega
   clear hMk hcell0 hrow0 hlen hkl hfk hnv;generalize L.getD k []=X at*;go_wp2_with fail;refine(CS.out _).mono ?_;rintro e w3 ⟨rfl,hb3⟩;have HB3:=ae (HB.out.trans (hb3.mono HB.out.size));have HO3:=ae (HO.out.below hb3);have hR3:=ae (hrow.out.below hb3 HB.out.size);have hs3:=HB3.out.size;clear hb3 HB HO hrow k0 k1 k2 S1
   go_wp2_with (at_builtin;refine kS rfl _ _ rfl HO3.out hs3 hbd rfl rfl hnil hR3.out ?_)
   intro v4 w4 hO4 hb4 _ _;rw[←HT.out] at hO4;have HO4:=ae hO4;have HB4:=ae (HB3.out.trans hb4);clear hO4 hb4 HO3 HB3 hR3;obtain⟨b4,n4,c4,rfl,-⟩:=HO4.out.sl;go_wp2_with fail;go_roundw
   case rel=>(try((repeat apply Exists.intro);refine⟨?_,rfl⟩));exact⟨k+1,by omega,by go_num,HO4,HB4⟩
   case measure=>simp[intOf];omega
  ·obtain rfl:k=N:=by omega
   rw[aO (by rw[HLN.out];exact ah _)] at HO hnv;have hnn:n≤nv:=(by rw[←hnv,HFL.out,HLN.out];exact hge);have HR:=ae (KV (eY HO.out) hnn);have hcp:=HO.out.caps;have hc2:(n:Int)≤(cv:Int):=(by omega);have hc3:(0:Int)≤(n:Int):=(by omega);clear hfk hnv hge;go_wp2_with fail;go_ret2;exact⟨_,rfl,(rB _).more HR.out fun b hb _=>aQ hs0 hb,S1.out.1⟩
theorem wF(p:Option Addr)(n k m c d:Nat)(A B:List (List Nat))(a b:Option Addr)(w:World)(hF:Fp w p)(hA:RdM w w.heap.size a m A)(hB:RdM w w.heap.size b m B)(hWA:Wf n A)(hWB:Wf k B)(hn:n≤64)(hk:k≤64)(hm:m≤1000000)(h0:0<m):
 Calls prog 27 #[.pointer p,.slice a m c,.slice b m d] w fun e w'=>∃v,e=.returned (.tuple #[v,.int .i64 (jF n A B:Nat)])∧MOwn w' w.heap.size v (jG n A B)∧Below w.heap.size w w':=by
 have C1:=ae (xA n m A _ a c w hA hWA hn hm);have C2:=ae (xA k m B _ b d w hB hWB hk hm);have C3:=ae (wI A _ a m c w hA hm);rw[kU hWA (fun e=>by rw[e] at hA;have:=hA.len;simp at this;omega)] at C3;have C4:=ae (DF A _ a m c w hA (ah _) (fun l hl=>by have:=(hWA l hl).1;omega) hm);have hne:((m:Int) != (m:Int))=false:=by simp
 have hm0:((m:Int) == 0)=false:=by rw[beq_eq_false_iff_ne];omega
 have HB:=ae hB;have HLA:=ae hA.len;have HLB:=ae hB.len;have HWA:=ae hWA;have HWB:=ae hWB;have HF:=ae hF;have HAB:Hid (A.length=B.length):=ae (by rw[hA.len,hB.len]);clear hA hB hWA hWB hF;go_enter func27,ntmps27;go_wp2_with fail;refine C1.out.mono ?_;rintro e w1 ⟨rfl,rfl⟩;go_wp2_with fail;refine C2.out.mono ?_;rintro e w1 ⟨rfl,rfl⟩;go_wp2_with fail;refine C3.out.mono ?_;rintro e w1 ⟨rfl,rfl⟩;go_wp2_with fail;refine C4.out.mono ?_;rintro e w1 ⟨g,c',rfl,hM,hb⟩;have HM0:Hid (MOwn w1 w.heap.size (.slice (some ⟨g,0,none⟩) m c') (nG A B 0)):=ae hM;have HBL:=ae hb;have hgG:w.heap.size≤g:=by obtain⟨g2,e,h1,_⟩:=hM.form h0;injection e with e;injection e with e;omega
 clear hM hb C1 C2 C3 C4;generalize hG:w.heap.size=G at*;have HG:=ae hG;clear hG;go_wp2_with fail;go_loopw [10,43] (fun _ i wr=>∃r:Nat,r≤m∧i=.int .i64 r∧Hid (MOwn wr G (.slice (some ⟨g,0,none⟩) m c') (nG A B r))∧Hid (Below G w wr)) (fun _ i _=>m-(intOf i).toNat)
 case atStart=>exact⟨0,by omega,rfl,HM0,HBL⟩
 case round=>
  clear HM0 HBL;obtain⟨r,hr,rfl,HM,HBL⟩:=hrel;have hGr:G≤wr.heap.size:=(by have:=HBL.out.size;have:=HG.out;omega);by_cases hrm:r<m
  ·have hrmI:(r:Int)<(m:Int):=by omega
   have hrA:r<A.length:=(by rw[HLA.out];exact hrm);have hrow:=FU HAB.out hrA;obtain⟨ar,cr,hcr,hfr,hor⟩:=HM.out.at2 hrm (r:=n) (by rw[hrow];exact(HWA.out.get hrA).1);rw[hrow] at hor;obtain⟨bB,oB,aB,cB,rfl,hbB,hcB,hrB,hnB,-,-⟩:=(HB.out.below HBL.out (ah _)).at hrm;have hgB:=HWB.out.get (i:=r) (by rw[←HAB.out];exact hrA);have hgA:=HWA.out.get hrA;rw[hgB.1] at hcB hrB;have HST:=ae (FV HAB.out hrA);have HOR:=ae hor;have HRB:Hid (Rd wr.drew G aB k (ba (B.getD r []))):=ae hrB;have HNB:=ae hnB
   have hhd:Hid ((Value.slice ar n cr).ownBlock=none∨(Value.slice ar n cr).ownBlock≠some g):=ae (by
    obtain⟨vs,h⟩:=HM.out;have:=own_ne hor h.hd tF;simpa[Value.ownBlock] using this)
   have hown:wr.drew.ownsRow G 5 1 (.slice ar n cr) n (ba (A.getD r [])):=by
    have h:=hor;unfold OwnB at h;rw[hgA.1] at h;exact h
   have hhb:Hid ((Value.slice ar n cr).ownBlock≠some bB):=ae (fun e=>by have:=(hown.lt _ e).1;omega);have HOW:=ae hown;have HGA:=ae hgA;have HGB:=ae hgB;have HONE:=ae (gQ (B.getD r []));have hgr:g<wr.heap.size:=(by obtain⟨g2,e,_,h2⟩:=HM.out.form h0;injection e with e;injection e with e;omega);clear hor hrow hrB hnB hown hgA hgB;have HCR:=ae hcr;have HFR:=ae hfr;have HCB:=ae hcB;go_wp2_with fail
   go_region_law (first
    | (refine jD (P:=prog) (w:=wr.drew) rfl _ _ 23 rfl G 5 (.int .u8 0) 1 underlying23 iy rfl (.slice ar n cr) n (ba (A.getD r [])) rfl HOW.out G aB k cB (ba (B.getD r [])) rfl HNB.out HRB.out HONE.out (by omega) (by unfold maxLen;omega) (by exact hGr) ?_
       intro v' w2 hown2 hg2 hat2;obtain⟨a2,c2,rfl,-⟩:=mE hown2;have hgb2:w2.heap[g]? =wr.heap[g]? :=hg2.block g hgr (hhd.out.elim (fun h=>by rw[h];simp) (fun h e=>h e.symm));have kc:w2.cell? ⟨g,r,none⟩=some (.slice ar n cr):=(World.cell?_of_block (w:=wr) (a:=⟨g,r,none⟩) hgb2).trans HCR.out;have hgb3:w2.heap[bB]? =wr.heap[bB]? :=hg2.block bB (by have:=hbB;have:wr.drew.heap.size=wr.heap.size:=rfl;omega) (fun e=>hhb.out e.symm);have kb:w2.cell? ⟨bB,oB+r,none⟩=some (.slice aB k cB):=(World.cell?_of_block (w:=wr) (a:=⟨bB,oB+r,none⟩) hgb3).trans HCB.out;have kf:w2.frozen? ⟨g,r,none⟩=false:=(World.frozen?_of_block (w:=wr) (a:=⟨g,r,none⟩) hgb2).trans HFR.out))
   all_goals(
    have ho2:OwnB w2 G (.slice a2 (n+k) c2) (A.getD r []++B.getD r []):=by
     unfold OwnB;rw[aJ,HGA.out.1,HGB.out.1];have e:ba (A.getD r []++B.getD r [])=ba (A.getD r [])++ba (B.getD r []):=(by simp[ba]);rw[e];exact hown2
    have hg3:wr.grownBy w2 (Value.slice ar n cr).ownBlock:=grownBy_trans (iP (grownBy_refl wr _) 1) hg2;have hM3:=HM.out.reput hrm HCR.out hg3 ho2 (hat2.elim (fun h=>.inl h) (fun h=>.inr (by rw[h];rfl)));rw[HST.out] at hM3;have HB3:=ae ((HBL.out.trans (nu hg3 (fun g hg=>(HOR.out.lt g hg).1) hGr)).setCell (p:=⟨g,r,none⟩) hgG (.slice a2 (n+k) c2));have HM3:=ae hM3;clear hM3 hg3 ho2 hown2 hg2 hat2 kc kf hgb2;clear HM HBL hcr hfr HOR HOW HRB HNB hhd HST HGA HGB HONE HCR HFR hcB;generalize w2.setCell ⟨g,r,none⟩ (.slice a2 (n+k) c2)=w4 at*;go_wp2_with fail;go_roundw
    case rel=>(try((repeat apply Exists.intro);refine⟨?_,rfl⟩));exact⟨r+1,by omega,by go_num,HM3,HB3⟩
    case measure=>simp[intOf];omega)
  ·obtain rfl:r=m:=by omega
   have hS:nG A B r=cG A B:=(by rw[←HLA.out];exact BS HAB.out);rw[hS] at HM;clear hS hrm;have hWS:=ae (tu HAB.out HWA.out HWB.out);have HSL:Hid ((cG A B).length=r):=ae (by rw[dU HAB.out];exact HLA.out);have hF1:Hid (Fp wr p):=ae (HF.out.below HBL.out (by rw[HG.out];exact ah _));go_wp2_with fail;refine(za p wr hF1.out).mono ?_;rintro e w2 ⟨gf,rfl,hfl,hb⟩;have HM2:=ae (HM.out.new hb);have HB2:=ae (HBL.out.trans (hb.mono (by have:=HBL.out.size;have:=HG.out;omega)));have HFL:=ae hfl;clear hfl hb HM HBL hF1 HF;have hG2:G≤w2.heap.size:=(by have:=HB2.out.size;have:=HG.out;omega);have CR:=ae (sV gf (n+k) r n c' G (cG A B) (some ⟨g,0,none⟩) w2 HFL.out HM2.out hWS.out (by omega) hG2 hm (by omega));obtain⟨ls,hinv⟩:=ic hWS.out n;have hle:=hinv.le;rw[ig,HSL.out] at hle;have HWX:=ae hinv.wf;have HXL:Hid ((bI (cG A B) n).1.length=r):=ae (by rw[ig];exact HSL.out)
   have hrn:(bI (cG A B) n).2≤n:=by
    have:=hinv.up;rw[←hinv.cnt];exact Mm hinv.up hinv.lt
   have HC:Hid (jF n A B=if (bI (cG A B) n).2<n then 9 else if iI (bI (cG A B) n).1 (bI (cG A B) n).2 then 10 else 0):=ae rfl;have HR:Hid (jG n A B=if jF n A B=0 then ((bI (cG A B) n).1.take (bI (cG A B) n).2).map (List.drop n) else []):=ae rfl;have hcap:r≤c':=HM2.out.caps.2.1;clear hinv hWS HSL;generalize (bI (cG A B) n).1=X at*;generalize (bI (cG A B) n).2=q at*;go_wp2_with fail;refine CR.out.mono ?_;rintro e w3 ⟨rfl,hM,hb⟩;have HM3:=ae hM;have HB3:=ae (HB2.out.trans hb);clear hM hb HM2 HB2 CR HFL;have hqc:q≤c':=(by omega);by_cases hqn:q<n
   ·have hqnI:(q:Int)<(n:Int):=by omega
    have e1:jF n A B=9:=(by rw[HC.out,if_pos hqn]);have e2:jG n A B=[]:=(by rw[HR.out,e1,if_neg (by decide)]);have E1:=ae e1;have E2:=ae e2;clear HC HR e1 e2;go_wp2_with fail;go_ret2;exact⟨_,by rw[E1.out];rfl,by rw[E2.out];exact MOwn.nil _ _,by rw[HG.out];exact HB3.out⟩
   ·have hqnI:¬(q:Int)<(n:Int):=by omega
    obtain rfl:q=n:=(by omega);have hRD:=HM3.out.rdM.drop hcap hle;have HXD:Hid ((X.drop q).length=r-q):=ae (by rw[List.length_drop,HXL.out]);have HWD:Hid (Wf (q+k) (X.drop q)):=ae (fun x hx=>HWX.out x (List.mem_of_mem_drop hx));have HC2:Hid (jF q A B=if iI X q then 10 else 0):=ae (by rw[HC.out,if_neg (by omega)]);have hqq:¬(q:Int)<(q:Int):=(by omega);clear HC hqnI hqn;by_cases hcq:c'=q
    case' pos=>
     rw[if_pos hcq] at hRD;have HRD:=ae hRD;clear hRD;go_wp2_with fail
    case' neg=>
     rw[if_neg hcq] at hRD
     have hRD:RdM w3 w3.heap.size (some ⟨g,q,none⟩) (r-q) (X.drop q):=by
      simpa[Addr.add_lit] using hRD
     have HRD:=ae hRD;clear hRD;go_wp2_with fail
    all_goals(
     clear hcq;generalize hrt:r-q=t at*;have HRT:=ae hrt;have ht6:t≤1000000:=(by omega);clear hrt;go_loopw [13,71] (fun _ i wr=>∃j:Nat,j≤t∧i=.int .i64 j∧Hid (∃z,wr=w3.drewN z)∧Hid (∀y,y<j→iE ((X.drop q).getD y [])<0)) (fun _ i _=>t-(intOf i).toNat)
     case atStart=>exact⟨0,by omega,rfl,ae ⟨0,rfl⟩,ae (fun y h=>by omega)⟩
     case round=>
      obtain⟨j,hj,rfl,HJ,HN⟩:=hrel;obtain⟨z,hz⟩:=HJ.out;clear HJ;by_cases hjt:j<t
      ·have hjtI:(j:Int)<(t:Int):=by omega
       obtain⟨b1,o1,a1,c1,e1,hb1,hc1,hr1,-,-,-⟩:=HRD.out.at hjt;have k1:wr.cell? ⟨b1,o1+j,none⟩=some (.slice a1 ((X.drop q).getD j []).length c1):=(by rw[hz];exact hc1);have hgj:=HWD.out.get (i:=j) (by rw[HXD.out];exact hjt);have CL:=ae (JL ((X.drop q).getD j []) w3.heap.size a1 ((X.drop q).getD j []).length c1 wr (by rw[hz];exact hr1) (by unfold By;exact hgj.2) (by unfold maxLen;rw[hgj.1];omega));rw[hgj.1] at k1 CL;cases e1
       try simp only[Nat.zero_add] at k1
       have HYES:Hid (0≤iE ((X.drop q).getD j [])→jF q A B=10∧jG q A B=[]):=ae (fun h=>by
        have h1:jF q A B=10:=(by rw[HC2.out,FW (by rw[HXD.out];exact hjt) h];rfl);exact⟨h1,by rw[HR.out,h1,if_neg (by decide)]⟩)
       have HNO:Hid (iE ((X.drop q).getD j [])<0→∀y,y<j+1→iE ((X.drop q).getD y [])<0):=ae (fun h y hy=>by
        rcases Nat.lt_or_ge y j with h1 | h1
        ·exact HN.out y h1
        ·rw[show y=j by omega];exact h)
       have HZ:=ae hz;clear hc1 hr1 hgj HN hz;generalize iE ((X.drop q).getD j [])=ld at*;by_cases hld:0≤ld
       ·obtain⟨E1,E2⟩:=HYES.out hld
        have HE1:=ae E1;have HE2:=ae E2;clear E1 E2 HYES HNO;go_wp2_with fail;refine CL.out.mono ?_;rintro e w4 ⟨rfl,z2,rfl⟩;go_wp2_with fail;go_ret2;exact⟨_,by rw[HE1.out];rfl,by rw[HE2.out];exact MOwn.nil _ _,by rw[HG.out,HZ.out];exact below_drewN (below_drewN HB3.out z) z2⟩
       ·have HN2:=ae (HNO.out (by omega))
        clear HYES HNO;go_wp2_with fail;refine CL.out.mono ?_;rintro e w4 ⟨rfl,z2,rfl⟩;go_wp2_with fail;go_roundw
        case rel=>exact⟨j+1,by omega,by go_num,ae ⟨z+z2,by rw[HZ.out,World.drewN_drewN]⟩,HN2⟩
        case measure=>simp[intOf];omega
      ·obtain rfl:j=t:=by omega
       have HE1:Hid (jF q A B=0):=ae (by rw[HC2.out,zW (fun y hy=>by have:=HN.out y (by rw[HXD.out] at hy;exact hy);omega)];rfl);have HM4:Hid (MOwn wr G (.slice (some ⟨g,0,none⟩) r c') X):=ae (by rw[hz];exact HM3.out.drewN z);have HB4:Hid (Below G w wr):=ae (by rw[hz];exact below_drewN HB3.out z);have HE2:Hid (jG q A B=(X.take q).map (List.drop q)):=ae (by rw[HR.out,if_pos HE1.out]);clear HN hz HM3 HB3 HRD HC2 HR HRT;have HT4:=ae (HM4.out.take hle).rdM;have HTL:Hid ((X.take q).length=q):=ae (by rw[aI,HXL.out];omega);have HWT:Hid (Wf (q+k) (X.take q)):=ae (fun x hx=>HWX.out x (List.mem_of_mem_take hx));have hq0:0≤q:=Nat.zero_le _;have HQL:Hid (((X.take q).map (List.drop q)).length=q):=ae (by rw[aG];exact HTL.out)
       have HSTP:Hid (∀y,y<q→((X.take q).map (List.drop q)).take (y+1)=((X.take q).map (List.drop q)).take y++[((X.take q).getD y []).drop q]):=ae (fun y hy=>by
        have hyl:y<((X.take q).map (List.drop q)).length:=by rw[HQL.out];exact hy
        have h1:((X.take q).map (List.drop q))[y]? =some (((X.take q).getD y []).drop q):=by
         rw[List.getElem?_map,getD_some (M:=X.take q) (by rw[HTL.out];exact hy)];rfl
        rw[ag hyl] at h1;rw[aP hyl,Option.some.inj h1])
       have HMO:Hid (MOwn wr wr.heap.size (.slice none 0 0) (((X.take q).map (List.drop q)).take 0)):=ae (MOwn.nil _ _);have HBO:Hid (Below wr.heap.size wr wr):=ae (az _ _);have hGW:G≤wr.heap.size:=(by have:=HB4.out.size;have:=HG.out;omega);clear HM4 HXL HXD HWD HWX;generalize (X.take q).map (List.drop q)=RR at*;generalize X.take q=XT at*;rename World=>wo;go_wp2_with fail;go_loopw [14,16,83] (fun o _ i wr=>∃y:Nat,y≤q∧i=.int .i64 y∧Hid (MOwn wr wo.heap.size o (RR.take y))∧Hid (Below wo.heap.size wo wr)) (fun _ _ i _=>q-(intOf i).toNat)
       case atStart=>exact⟨0,by omega,rfl,HMO,HBO⟩
       case round=>
        clear HMO HBO;obtain⟨y,hy,rfl,HMO,HBO⟩:=hrel;by_cases hyq:y<q
        ·have hyqI:(y:Int)<(q:Int):=by omega
         obtain⟨b1,o1,a1,c1,e1,hb1,hc1,hr1,hn1,hl1,hm1⟩:=(HT4.out.below HBO.out (ah _)).at hyq;have hgy:=HWT.out.get (i:=y) (by rw[HTL.out];exact hyq);rw[hgy.1] at hc1 hr1 hl1;cases e1;rw[Nat.zero_add] at hc1;have hq1:1≤q:=(by omega);have hqc1:q≤c1:=(by omega);have hrr:=KM hr1 hl1 (n:=q) (by omega);rw[Nat.add_sub_cancel_left] at hrr;have hnn:=Ij hn1 hq1 hqc1;have hBs:wo.heap.size≤wr.heap.size:=HBO.out.size;have HST:=ae (HSTP.out y hyq);have hkk:q+k-q=k:=(by omega);have HMT:(RR.take y).length≤1000000:=(by rw[aI];omega);have hmm1:(c1:Int)≤9223372036854775807:=(by unfold maxLen at hm1;omega);clear hr1 hn1 hgy;generalize (XT.getD y []).drop q=Y at*;by_cases hcq1:c1=q
         case' pos=>
          rw[if_pos hcq1] at hrr hnn;have CC:=ae (dF Y wo.heap.size a1 k 0 wr hrr hBs (fun e=>rfl) (by omega));clear hrr hnn;go_wp2_with fail
         case' neg=>
          rw[if_neg hcq1] at hrr hnn;have CC:=ae (dF Y wo.heap.size (Option.map (fun x=>x.add q) a1) k (c1-q) wr hrr hBs hnn (by omega));clear hrr hnn;go_wp2_with fail
         all_goals(
          refine CC.out.mono ?_;rintro e w5 ⟨u,rfl,hu,hb5⟩;obtain⟨ua,uc,rfl,-⟩:=hu.rd;have HU:=ae hu;have HB5:=ae hb5;clear hu hb5 CC hcq1
          go_wp2_with (at_builtin;refine kD (w0:=wr) (w1:=w5) rfl _ _ rfl HMO.out HB5.out HU.out hBs HMT rfl rfl ?_)
          intro v' w6 hM6 hb6 hg6 hat6;rw[←HST.out] at hM6;have HM6:=ae hM6;have HB6:=ae (HBO.out.trans hb6);clear hM6 hb6 hg6 hat6 HMO HBO HB5 HU HST;go_wp2_with fail;go_roundw
          case rel=>(try((repeat apply Exists.intro);refine⟨?_,rfl⟩));exact⟨y+1,by omega,by go_num,HM6,HB6⟩
          case measure=>simp[intOf];omega)
        ·obtain rfl:y=q:=by omega
         rw[aO (by rw[HQL.out];exact ah _)] at HMO;have HFI:Hid (MOwn wr G u14 RR):=ae (HMO.out.base hGW);have HBF:=ae (HB4.out.trans (HBO.out.mono hGW));go_wp2_with fail;go_ret2;exact⟨_,by rw[HE1.out];rfl,by rw[HE2.out,HG.out];exact HFI.out,by rw[HG.out];exact HBF.out⟩)
def jg(Z:Nat)(x:List Nat)(K:Nat):List (List Nat):=(List.range K).map fun i=>(x.drop (i*Z)).take Z
theorem oV{K Z:Nat}{x:List Nat}(hx:By x)(hl:x.length=K*Z):Wf Z (jg Z x K)∧(jg Z x K).length=K:=by
 refine⟨fun r hr=> ?_,by unfold jg;simp⟩;obtain⟨i,hi,rfl⟩:=List.mem_map.1 hr;have hi:=List.mem_range.1 hi;have:=Nat.mul_le_mul_right Z (show i+1≤K by omega);rw[Nat.succ_mul] at this;exact⟨by rw[aI,List.length_drop];omega,fun y hy=>hx y (List.mem_of_mem_drop (List.mem_of_mem_take hy))⟩
def fV(K H Z:Nat)(s:Int)(x:List Nat):List (List Nat):=jG (K+H) (dL K H Z s (List.range K)) (jR H Z (jg Z x K))
theorem ma{K H Z:Nat}{s:Int}{x:List Nat}(hk:ed K H Z=true)(hx:By x)(hl:x.length=K*Z)(hf:dP K H Z s (List.range K)=true):
 jF (K+H) (dL K H Z s (List.range K)) (jR H Z (jg Z x K))=0∧MidOK K H Z s (fV K H Z s x)∧∀i,i<K→dn K H Z s (fV K H Z s x) i=(jg Z x K).getD i []:=
 MN hk (oV hx hl).1 (oV hx hl).2 (of_decide_eq_true hf)
theorem tq(K H Z:Nat)(s:Int)(x:List Nat)(a:Option Addr)(n c:Nat)(w:World)(hk:ed K H Z=true)(hs0:0≤s)(hs1:s<4294967296)(hx:Rd w w.heap.size a n (ba x))(hb:By x)(hn:n=K*Z)(hc:n≤c)(hm:c≤maxLen)(hf:dP K H Z s (List.range K)=true):
 Calls prog 10 #[bL K H Z,.int .u32 s,.slice a n c] w fun e w'=>∃g v,e=.returned (.tuple #[.pointer (some ⟨g,0,none⟩),.int .i64 0])∧w.heap.size≤g∧Blk w' g 78 #[.int .i64 K,.int .i64 H,.int .i64 Z,.int .u32 s,v]∧(rM (fV K H Z s x)).ok w' (Fr w.heap.size) [v]∧Below w.heap.size w w':=by
 have hok:=of_decide_eq_true hk;have hl:x.length=n:=by have:=hx.len;rwa [bg] at this
 obtain⟨hsc,hmid,-⟩:=ma hk hb (by rw[hl,hn]) hf;have CM:=ae fun w=>eP K H Z w;rw[hk] at CM;have CR:=ae fun w=>jl K H Z s w hk hs0 hs1;rw[hf] at CR;have CF:=ae fun w=>oN K H Z w hk;have CX:=ae fun a c w (h:Rd w w.heap.size a K (bf (List.range K)))=>nk K H Z s (List.range K) a K c w hk hs0 hs1 h (fun i hi=>by have:=List.mem_range.1 hi;omega) (by omega);have HWF:=ae (pu (s:=s) (ids:=List.range K) hk fun i hi=>by have:=List.mem_range.1 hi;omega);have HSL:Hid ((dL K H Z s (List.range K)).length=K+H):=ae (by rw[kG,List.length_range];omega);have HCW:=ae (DN (H:=H) (oV (K:=K) hb (by rw[hl,hn])).1);have HDL:=ae (oV (K:=K) (Z:=Z) hb (by rw[hl,hn])).2;have HDW:=ae (oV (K:=K) (Z:=Z) hb (by rw[hl,hn])).1;have hKZ:K*Z≤16*24:=Nat.mul_le_mul (by omega) (by omega);have hKZI:(K:Int)*(Z:Int)=(n:Int):=by rw[hn,Int.natCast_mul]
 have HEN:Hid (fV K H Z s x=jG (K+H) (dL K H Z s (List.range K)) (jR H Z (jg Z x K))):=ae rfl
 have S0:Hid (Sx w (w.alloc (.cells #[.int .i64 K,.int .i64 H,.int .i64 Z] 26)) [bu w.heap.size 26 #[.int .i64 K,.int .i64 H,.int .i64 Z],jp a n (ba x)]):=
  ae (((((Sx.nil w).add (jp a n (ba x)) hx).alloc _).add (bu _ _ _) (Blk.new w 26 #[.int .i64 K,.int .i64 H,.int .i64 Z])))
 have hs0':w.heap.size<(w.alloc (.cells #[.int .i64 K,.int .i64 H,.int .i64 Z] 26)).heap.size:=by simp
 have hX:Hid (Rd w w.heap.size a n (ba x)):=ae hx;have HBX:=ae hb;have hK16:K≤16:=by omega
 have hH4:H≤4:=by omega
 have hZ24:Z≤24:=by omega
 have hK1:1≤K:=by omega
 have hZ1:1≤Z:=by omega
 have HNK:=ae hn;unfold maxLen at hm;have hmk:∀w:World,(Instr.makeSlice 23 (.int .i64 (Z:Int)) (.int .i64 (Z:Int))).run prog w=.ok (.slice (some ⟨w.heap.size,0,none⟩) Z Z) (w.alloc (.cells (bn (List.replicate Z 0)) 5)):=fun w=>cQ (n:=Z) (by omega) w;have HSC:=ae hsc
 have CSV:=ae fun (g c d:Nat) (a b:Option Addr) (w:World) (hF:Fld w g) (hA:RdM w w.heap.size a (K+H) (dL K H Z s (List.range K))) (hB:RdM w w.heap.size b (K+H) (jR H Z (jg Z x K)))=>
  (wF (some ⟨g,0,none⟩) (K+H) Z (K+H) c d (dL K H Z s (List.range K)) (jR H Z (jg Z x K)) a b w (Fp.of hF) hA hB HWF.out HCW.out (by omega) (by omega) (by omega) (by omega)).mono fun e w' (h:∃v,e=.returned (.tuple #[v,.int .i64 (jF (K+H) (dL K H Z s (List.range K)) (jR H Z (jg Z x K)):Nat)])∧MOwn w' w.heap.size v (jG (K+H) (dL K H Z s (List.range K)) (jR H Z (jg Z x K)))∧Below w.heap.size w w')=>
    (by obtain⟨v,h1,h2,h3⟩:=h;rw[hsc] at h1;exact⟨v,h1,by rw[HEN.out];exact Ct h2,h3⟩:∃v,e=.returned (.tuple #[v,.int .i64 ((0:Nat):Int)])∧(rM (fV K H Z s x)).ok w' (Fr w.heap.size) [v]∧Below w.heap.size w w')
 clear hx hl hok hk hf hb hsc hmid hn;unfold bL at CM CR CF CX ⊢;go_enter func10,ntmps10;go_wp2_with fail;generalize hw00:w.alloc (.cells #[.int .i64 K,.int .i64 H,.int .i64 Z] 26)=w00 at*;clear hw00;refine(CM.out _).mono ?_;rintro e w01 ⟨rfl,hb⟩;have S01:=ae (S0.out.step hb);have hs01:w.heap.size<w01.heap.size:=aY hs0' hb.size;obtain⟨k0,k1,k2⟩:=lC (S01.out.blk 0 rfl);clear hb CM S0 hs0';go_wp2_with fail;refine(CR.out _).mono ?_;rintro e w0 ⟨rfl,hb⟩;have S0:=ae (S01.out.step hb);have hs0:w.heap.size<w0.heap.size:=aY hs01 hb.size;clear hb CR S01 k0 k1 k2;obtain⟨k0,k1,k2⟩:=lC (S0.out.blk 0 rfl);have HO0:Hid (OwnS w0 w0.heap.size 23 1 (Fr w0.heap.size) (.slice none 0 0) ((List.replicate 0 (List.replicate Z 0)).map rB)):=ae (OwnS.nil _ _ _ _ _);have HB0:=ae (az w0.heap.size w0);go_wp2_with fail;go_loopw [8,31] (fun v i wr=>∃k:Nat,k≤H∧i=.int .i64 k∧Hid (OwnS wr w0.heap.size 23 1 (Fr w0.heap.size) v ((List.replicate k (List.replicate Z 0)).map rB))∧Hid (Below w0.heap.size w0 wr)) (fun _ i _=>H-(intOf i).toNat)
 case atStart=>exact⟨0,by omega,rfl,HO0,HB0⟩
 case round=>
  clear HO0 HB0 k0 k1 k2;obtain⟨k,hkn,rfl,HO,HB⟩:=hrel;have S1:=ae (S0.out.step HB.out);obtain⟨bv,nv,cv,rfl⟩:=HO.out.sl;obtain⟨k0,k1,k2⟩:=lC (S1.out.blk 0 rfl);have hw0:=HB.out.size;by_cases hlt:k<H
  ·have hltI:(k:Int)<(H:Int):=by omega
   have hsl:((List.replicate k (List.replicate Z 0)).map rB).length≤1000000:=(by simp;omega);have HRS:Hid ((List.replicate (k+1) (List.replicate Z 0)).map rB=(List.replicate k (List.replicate Z 0)).map rB++[rB (List.replicate Z 0)]):=ae (by rw[List.replicate_succ',aW];rfl);have hZ0:=Blk.new wr 5 (bn (List.replicate Z 0));have hba:=(az wr.heap.size wr).alloc (ah _) (.cells (bn (List.replicate Z 0)) 5);have HBA:=ae hba
   have HRB:Hid ((rB (List.replicate Z 0)).ok (wr.alloc (.cells (bn (List.replicate Z 0)) 5)) (fun b=>Fr w0.heap.size b∧some b≠(Value.slice bv nv cv).ownBlock) [.slice (some ⟨wr.heap.size,0,none⟩) Z Z]):=ae (by
    have:=jJ (F:=fun b=>Fr w0.heap.size b∧some b≠(Value.slice bv nv cv).ownBlock) hZ0 ⟨hw0,fun e=>by have:=(HO.out.lt _ e.symm).2;omega⟩ (by rw[aN];unfold maxLen;omega)
    rwa [aN] at this)
   have hsz1:(wr.alloc (.cells (bn (List.replicate Z 0)) 5)).heap.size=wr.heap.size+1:=(by simp);clear hZ0 hba
   go_wp2_with (first
    | simp only[]
    | (at_builtin;refine dJ (w:=wr) (w1:=wr.alloc (.cells (bn (List.replicate Z 0)) 5)) rfl _ _ rfl underlying33 bQ rfl (by decide) (by decide) HO.out HBA.out hw0 hsl (R:=rB (List.replicate Z 0)) HRB.out rfl rfl (by rw[hsz1];rfl) ?_))
   intro v6 w6 hO6 hb6;rw[←HRS.out] at hO6;have HO6:=ae hO6;have HB6:=ae (HB.out.trans hb6);clear hO6 hb6 HO HRB HBA S1 k0 k1 k2 HB;obtain⟨b6,n6,c6,rfl⟩:=HO6.out.sl;go_wp2_with fail;go_roundw
   case rel=>(try((repeat apply Exists.intro);refine⟨?_,rfl⟩));exact⟨k+1,by omega,by go_num,HO6,HB6⟩
   case measure=>simp[intOf];omega
  ·obtain rfl:k=H:=by omega
   have HO1:Hid (OwnS wr w0.heap.size 23 1 Any (.slice bv nv cv) (((List.replicate k (List.replicate Z 0))++jg Z x 0).map rB)):=ae (by
    have:=HO.out.base (ah _) (G:=Any) fun _ _=>trivial;unfold jg;rw[List.range_zero,List.map_nil,List.append_nil];exact this)
   rename World=>wo;clear HO;go_wp2_with fail;go_loopw [8,42] (fun v i wr=>∃j:Nat,j≤K∧i=.int .i64 j∧Hid (OwnS wr w0.heap.size 23 1 Any v (((List.replicate k (List.replicate Z 0))++jg Z x j).map rB))∧Hid (Below w0.heap.size w0 wr)) (fun _ i _=>K-(intOf i).toNat)
   case atStart=>exact⟨0,by omega,rfl,HO1,HB⟩
   case round=>
    clear HO1 HB S1 k0 k1 k2 hw0;obtain⟨j,hjn,rfl,HO,HB⟩:=hrel;have S1:=ae (S0.out.step HB.out);obtain⟨bv,nv,cv,rfl⟩:=HO.out.sl;obtain⟨k0,k1,k2⟩:=lC (S1.out.blk 0 rfl);have hw0:=HB.out.size;by_cases hlj:j<K
    ·have hljI:(j:Int)<(K:Int):=by omega
     have hsl:(((List.replicate k (List.replicate Z 0))++jg Z x j).map rB).length≤1000000:=(by unfold jg;simp;omega);have hmul:=Nat.mul_le_mul_right Z (show j+1≤K by omega);rw[←HNK.out,Nat.succ_mul] at hmul;obtain⟨b,p,rfl,hb,hpart⟩:=pG (S1.out.rd 1 rfl) (o:=j*Z) (k:=Z) (by omega) (by omega);obtain⟨b',p',e1,hbw,-⟩:=hX.out.2 (by omega);injection e1 with e1;injection e1 with e1 e2 _;subst e1 e2;have HRS:Hid (((List.replicate k (List.replicate Z 0))++jg Z x (j+1)).map rB=((List.replicate k (List.replicate Z 0))++jg Z x j).map rB++[rB ((x.drop (j*Z)).take Z)]):=ae (by unfold jg;simp[List.range_succ]);have hm1:(j:Int)*(Z:Int)=((j*Z:Nat):Int):=(by rw[Int.natCast_mul]);have hm2:((j:Int)+1)*(Z:Int)=((j*Z+Z:Nat):Int):=by rw[Int.add_mul,Int.one_mul,Int.natCast_add,Int.natCast_mul]
     have HRB:Hid ((rB ((x.drop (j*Z)).take Z)).ok wr (fun b=>Any b∧some b≠(Value.slice bv nv cv).ownBlock) [.slice (some ⟨b,p+j*Z,none⟩) Z (c-j*Z)]):=ae (by
      obtain⟨h1,h2⟩:=hpart;refine⟨_,Z,c-j*Z,rfl,by omega,by unfold maxLen;omega,fun e=>(by cases e),h1,fun hn=> ?_⟩;obtain⟨b3,o3,e3,_,hc3⟩:=h2 hn;injection e3 with e3;injection e3 with e3 e4 _;subst e3 e4;exact⟨b,p+j*Z,rfl,⟨trivial,fun e=>by have:=(HO.out.lt _ e.symm).1;omega⟩,hc3⟩)
     have HW:=ae (az wr.heap.size wr);generalize ((List.replicate k (List.replicate Z 0))++jg Z x j).map rB=LL at*;generalize (x.drop (j*Z)).take Z=X at*;generalize hlo:j*Z=lo at*;clear hlo hpart;have hi1:(lo:Int)≤(lo:Int)+(Z:Int):=(by omega);have hi2:(lo:Int)+(Z:Int)≤(c:Int):=(by omega);have hi3:¬c=lo:=(by omega);have hi4:lo+Z-lo=Z:=by omega
     go_wp2_with (at_builtin;refine dJ (w:=wr) (w1:=wr) rfl _ _ rfl underlying33 bQ rfl (by decide) (by decide) HO.out HW.out hw0 hsl (R:=rB X) HRB.out rfl rfl rfl ?_)
     intro v6 w6 hO6 hb6;rw[←HRS.out] at hO6;have HO6:=ae hO6;have HB6:=ae (HB.out.trans hb6);clear hO6 hb6 HO HRB S1 k0 k1 k2 HB;obtain⟨b6,n6,c6,rfl⟩:=HO6.out.sl;go_wp2_with fail;go_roundw
     case rel=>(try((repeat apply Exists.intro);refine⟨?_,rfl⟩));exact⟨j+1,by omega,by go_num,HO6,HB6⟩
     case measure=>simp[intOf];omega
    ·obtain rfl:j=K:=by omega
     have hrep:=HO.out.rep;have hlen:(jR k Z (jg Z x j)).length=j+k:=(by unfold jR;rw[aJ,aN,HDL.out];omega);obtain⟨aR,cR,eR,hMR,-⟩:=dS (M:=jR k Z (jg Z x j)) hrep hlen;injection eR with e1 e2 e3;subst e1 e2 e3;have S2:=ae (S1.out.add (qp bv (j+k) (jR k Z (jg Z x j))) hMR);have hG2:w0.heap.size≤wr.heap.size:=hw0;clear hrep hlen hMR HO HB S1 hw0 k0 k1 k2;go_wp2_with fail;obtain⟨k0,k1,k2⟩:=lC (S2.out.blk 1 rfl);generalize hP:w.heap.size=P at*;have HP:=ae hP;clear hP
     go_region_held3 (fun w'=>w'.cell? ⟨P,0,none⟩=some (.int .i64 j)∧w'.cell? ⟨P,1,none⟩=some (.int .i64 k)∧w'.cell? ⟨P,2,none⟩=some (.int .i64 Z)) (go_keep) (first
      | (go_at_call 28
         refine(ou _).mono ?_;rintro e wA ⟨g,rfl,hg,hF,hb⟩;have S3:=ae ((S2.out.drew.step hb).add (bu g 119 oI) hF);obtain⟨n0,n1,n2⟩:=lC (S3.out.blk 2 rfl);clear hg hF hb)
      | (go_at_call 21
         refine(CF.out _).mono ?_;rintro e wB ⟨vf,rfl,hO,hb⟩;obtain⟨aF,cF,rfl,hr,-⟩:=dB (gI hO) List.length_range;have S4:=ae ((S3.out.step hb).add (jp aF j (bf (List.range j))) hr);obtain⟨m0,m1,m2⟩:=lC (S4.out.blk 3 rfl);clear hb hO hr)
      | (go_at_call 29
         refine(CX.out _ _ _ (S4.out.rd 0 rfl)).mono ?_;rintro e wC ⟨vm,rfl,hR,hb⟩;obtain⟨aM,cM,rfl,hM,-⟩:=dS hR HSL.out;have S5:=ae ((S4.out.step hb).add (qp aM (j+k) (dL j k Z s (List.range j))) hM);obtain⟨q0,q1,q2⟩:=lC (S5.out.blk 4 rfl);clear hR hM hb)
      | (go_at_call 27
         refine(CSV.out g _ _ aM bv _ (S5.out.blk 2 rfl) (S5.out.get 0 rfl) (S5.out.get 3 rfl)).mono ?_;rintro e wD ⟨vs,rfl,hV,hb⟩;obtain⟨aV,nV,cV,rfl⟩:=nK hV;have S6:=ae (S5.out.step hb);have HV:=ae hV;have hsD:=hb.size;obtain⟨p0,p1,p2⟩:=lC (S6.out.blk 4 rfl);clear hV hb))
     all_goals(
      have HB6:=ae S6.out.1;have hsC:=S5.out.1.size;have HBD:=ae ((HB6.out.mono (by rw[HP.out];exact ah _)).alloc (B:=P) (by have:=HB6.out.size;have:=HP.out;omega) (.cells #[.int .i64 j,.int .i64 k,.int .i64 Z,.int .u32 s,.slice aV nV cV] 78));have HKD:=ae (Blk.new wD 78 #[.int .i64 j,.int .i64 k,.int .i64 Z,.int .u32 s,.slice aV nV cV]);have HVD:=ae ((rM (fV j k Z s x)).new HV.out ((az wD.heap.size wD).alloc (ah _) (.cells #[.int .i64 j,.int .i64 k,.int .i64 Z,.int .u32 s,.slice aV nV cV] 78)));have hPC:P≤wC.heap.size:=(by have:=HP.out;omega);have hPD:P≤wD.heap.size:=(by omega);clear S6 S5 S4 S3 S2 hsC;go_wp2_with fail;go_ret2;exact⟨_,_,rfl,by rw[HP.out];exact hPD,HKD.out,by rw[HP.out];exact(rM _).more HVD.out fun b hb _=>aQ hPC hb,by rw[HP.out];exact HBD.out⟩)
def kw(K H Z:Nat)(s:Int)(m:List (List Nat))(k:Nat):List Nat:=(List.range k).flatMap fun i=>dn K H Z s m i
theorem Gv(K H Z:Nat)(s:Int)(m:List (List Nat)):kw K H Z s m 0=[]:=rfl
theorem xe(K H Z:Nat)(s:Int)(m:List (List Nat))(k:Nat):kw K H Z s m (k+1)=kw K H Z s m k++dn K H Z s m k:=by
 unfold kw;rw[List.range_succ,List.flatMap_append];simp
theorem uO{K H Z:Nat}{s:Int}{m:List (List Nat)}(hk:ed K H Z=true)(h:MidOK K H Z s m)(k:Nat):(kw K H Z s m k).length=k*Z:=by
 induction k with
 | zero=>rw[Gv];simp
 | succ k ih=>rw[xe,aJ,ih,fF hk h,Nat.succ_mul]
theorem Lx(Z:Nat)(x:List Nat):∀k,k*Z≤x.length→((List.range k).flatMap fun i=>(x.drop (i*Z)).take Z)=x.take (k*Z):=by
 intro k
 induction k with
 | zero=>intro _;simp
 | succ k ih=>
   intro h;rw[Nat.succ_mul] at h;rw[List.range_succ,List.flatMap_append,ih (by omega),Nat.succ_mul,List.take_add];simp
theorem Al{K H Z:Nat}{s:Int}{x:List Nat}(hk:ed K H Z=true)(hx:By x)(hl:x.length=K*Z)(hf:dP K H Z s (List.range K)=true):kw K H Z s (fV K H Z s x) K=x:=by
 obtain⟨-,-,h⟩:=ma hk hx hl hf
 have e:kw K H Z s (fV K H Z s x) K=(List.range K).flatMap fun i=>(x.drop (i*Z)).take Z:=by
  unfold kw;rw[List.flatMap_def,List.flatMap_def];congr 1;refine List.map_congr_left fun i hi=> ?_;have hi:=List.mem_range.1 hi;rw[h i hi];unfold jg;rw[af,List.getElem?_map,List.getElem?_range hi];rfl
 rw[e,Lx Z x K (by omega),aO (by omega)]
def nW(obj blk id K H Z seed:Nat)(v:Value):Value:=.agg #[.int .i64 obj,.int .i64 blk,.int .i64 id,.int .i64 K,.int .i64 H,.int .i64 Z,.int .u32 seed,v]
def fC(obj blk id K H Z seed:Nat)(v:Value):Array Value:=#[.int .i64 obj,.int .i64 blk,.int .i64 id,.int .i64 K,.int .i64 H,.int .i64 Z,.int .u32 seed,v]
theorem rF{w:World}{g:Nat}{t:TypeId}{a b c d e f x y:Value}(h:Blk w g t #[a,b,c,d,e,f,x,y]):
 w.cell? ⟨g,0,none⟩=some a∧w.cell? ⟨g,1,none⟩=some b∧w.cell? ⟨g,2,none⟩=some c∧w.cell? ⟨g,3,none⟩=some d∧w.cell? ⟨g,4,none⟩=some e∧w.cell? ⟨g,5,none⟩=some f∧w.cell? ⟨g,6,none⟩=some x∧w.cell? ⟨g,7,none⟩=some y:=
 ⟨h.cell 0,h.cell 1,h.cell 2,h.cell 3,h.cell 4,h.cell 5,h.cell 6,h.cell 7⟩
theorem tG(obj blk id K H Z seed:Nat)(a:Option Addr)(c:Nat)(w:World)(ho:obj≤16777215)(hb:blk≤255)(hi:id≤65535)(hk:ed K H Z=true):
 Calls prog 31 #[nW obj blk id K H Z seed (.slice a Z c)] w fun e w'=>e=.returned (.bool (decide (blk<8)))∧Below w.heap.size w w':=by
 have CM:=ae fun w=>eP K H Z w;rw[hk] at CM;have HX0:=ae (Blk.new w 45 (fC obj blk id K H Z seed (.slice a Z c)));have HB0:=ae ((az w.heap.size w).alloc (ah _) (.cells (fC obj blk id K H Z seed (.slice a Z c)) 45));unfold bL at CM;unfold nW;have hoI:(obj:Int)≤16777215:=by omega
 have hiI:(id:Int)≤65535:=by omega
 clear ho hi hb;go_enter func31,ntmps31;by_cases h8:blk<8
 ·have h8I:(blk:Int)<8:=by omega
  rw[decide_eq_true h8];go_wp2_with fail;unfold fC at HX0 HB0;generalize w.alloc (.cells #[.int .i64 obj,.int .i64 blk,.int .i64 id,.int .i64 K,.int .i64 H,.int .i64 Z,.int .u32 seed,.slice a Z c] 45)=w0 at*;refine(CM.out _).mono ?_;rintro e w1 ⟨rfl,hb⟩;have HB1:=ae (HB0.out.trans (hb.mono HB0.out.size));have HX1:=ae (HX0.out.below hb HX0.out.lt);obtain⟨k0,k1,k2,k3,k4,k5,k6,k7⟩:=rF HX1.out;clear hb HB0 HX0 CM;go_wp2_with fail;go_ret;exact⟨rfl,HB1.out⟩
 ·have h8I:¬(blk:Int)<8:=by omega
  rw[decide_eq_false h8];go_wp2_with fail;go_ret;exact⟨rfl,HB0.out⟩
theorem nY(obj blk id K H Z seed:Nat)(d:List Nat)(a:Option Addr)(c:Nat)(w:World)(ho:obj≤16777215)(h8:blk<8)(hi:id≤65535)(hk:ed K H Z=true)(hs:seed<4294967296)
 (hd:Rd w w.heap.size a Z (ba d))(hby:By d)(hnil:a=none→c=0):
 Calls prog 12 #[nW obj blk id K H Z seed (.slice a Z c)] w fun e w'=>∃g,e=.returned (.slice (some ⟨g,0,none⟩) 64 64)∧w.heap.size≤g∧Blk w' g 5 (bn (cellL 1 (gS obj blk id K H Z seed d)))∧Below w.heap.size w w':=by
 have hok:=of_decide_eq_true hk;have hdl:d.length=Z:=by have:=hd.len;rwa [bg] at this
 have CM:=ae fun w=>tG obj blk id K H Z seed a c w ho (by omega) hi hk;rw[decide_eq_true h8] at CM;have HX0:=ae (Blk.new w 45 (fC obj blk id K H Z seed (.slice a Z c)));have HB0:=ae ((az w.heap.size w).alloc (ah _) (.cells (fC obj blk id K H Z seed (.slice a Z c)) 45));unfold nW at CM ⊢;unfold fC at HB0 HX0;have HD:=ae hd;have HDL:=ae hdl;have HBY:=ae hby;clear hd hdl hby;have hKm:(K:Int)%256=(K:Int):=by omega
 have hHm:(H:Int)%256=(H:Int):=by omega
 have hZm:(Z:Int)%256=(Z:Int):=by omega
 have CN:=ae fun (v:Value) (xs:List Nat) (C n s:Nat) (w:World) (ho:OwnB w C v xs) (hC:C≤w.heap.size) (hn:n<4294967296) (hs:s≤4) (hl:xs.length≤1000)=>vI v xs C n s w ho hC hn hs hl;go_enter func12,ntmps12;go_wp2_with fail;generalize hw0:w.alloc (.cells #[.int .i64 obj,.int .i64 blk,.int .i64 id,.int .i64 K,.int .i64 H,.int .i64 Z,.int .u32 seed,.slice a Z c] 45)=w0 at*;have hsz0:w0.heap.size=w.heap.size+1:=by rw[←hw0];simp
 clear hw0;refine(CM.out _).mono ?_;rintro e w1 ⟨rfl,hb⟩;have HB1:=ae (HB0.out.trans (hb.mono HB0.out.size));have HX1:=ae (HX0.out.below hb HX0.out.lt);have hC1:w.heap.size+1≤w1.heap.size:=by have:=hb.size;omega
 obtain⟨k0,k1,k2,k3,k4,k5,k6,k7⟩:=rF HX1.out;clear hb HB0 HX0 CM;go_wp2_with fail;refine(CN.out (.slice none 0 0) [] (w.heap.size+1) obj 3 w1 (OwnB.nil _ _) hC1 (by omega) (by omega) (by simp)).mono ?_;rintro e w2 ⟨v2,rfl,hO,hb⟩;clear k0 k1 k2 k3 k4 k5 k6 k7;have HB2:=ae (HB1.out.trans (hb.mono (by omega)));have HX2:=ae (HX1.out.below hb (by omega));have hC2:w.heap.size+1≤w2.heap.size:=aQ hC1 hb.size;have HO:=ae hO;obtain⟨k0,k1,k2,k3,k4,k5,k6,k7⟩:=rF HX2.out;clear hb hO HB1 HX1;obtain⟨a2,c2,rfl,-⟩:=HO.out.rd;rw[List.nil_append] at HO;go_wp2_with fail;refine(CN.out _ _ _ blk 1 w2 HO.out hC2 (by omega) (by omega) (by rw[bO];omega)).mono ?_;rintro e w3 ⟨v3,rfl,hO,hb⟩;clear k0 k1 k2 k3 k4 k5 k6 k7;have HB3:=ae (HB2.out.trans (hb.mono (by omega)));have HX3:=ae (HX2.out.below hb (by omega));have hC3:w.heap.size+1≤w3.heap.size:=aQ hC2 hb.size;have HO:=ae hO;obtain⟨k0,k1,k2,k3,k4,k5,k6,k7⟩:=rF HX3.out;clear hb hO HB2 HX2;obtain⟨a3,c3,rfl,-⟩:=HO.out.rd;go_wp2_with fail;refine(CN.out _ _ _ id 2 w3 HO.out hC3 (by omega) (by omega) (by simp[bO])).mono ?_;rintro e w4 ⟨v4,rfl,hO,hb⟩;clear k0 k1 k2 k3 k4 k5 k6 k7;have HB4:=ae (HB3.out.trans (hb.mono (by omega)));have HX4:=ae (HX3.out.below hb (by omega));have hC4:w.heap.size+1≤w4.heap.size:=aQ hC3 hb.size;have HO:=ae hO;obtain⟨k0,k1,k2,k3,k4,k5,k6,k7⟩:=rF HX4.out;clear hb hO HB3 HX3;obtain⟨a4,c4,rfl,-⟩:=HO.out.rd;have hba:=(az w4.heap.size w4).alloc (ah _) (.cells (bn [K,H,Z]) 5);have HOA:=ae (HO.out.below hba);have HRA:=ae (kX (Blk.new w4 5 (bn [K,H,Z])));have hrow:bn [K,H,Z]= #[.int .u8 (K:Int),.int .u8 (H:Int),.int .u8 (Z:Int)]:=rfl;have hsA:(w4.alloc (.cells (bn [K,H,Z]) 5)).heap.size=w4.heap.size+1:=by simp
 have HBA:Hid (Below (w.heap.size+1) w4 (w4.alloc (.cells (bn [K,H,Z]) 5))):=ae (hba.mono hC4);have HXA:=ae (HX4.out.below hba (HX4.out.lt));rw[hrow] at HOA HRA hsA HBA HXA;clear hba hrow
 go_wp2_with (at_builtin;refine kS rfl _ _ rfl HOA.out ?c1 ?c2 rfl rfl ?c3 HRA.out ?_)
 case c1=>omega
 case c2=>simp[bO]
 case c3=>intro e;cases e
 intro v5 w5 hO hb _ _;clear k0 k1 k2 k3 k4 k5 k6 k7;have HB5:=ae (HB4.out.trans ((HBA.out.mono (by omega)).trans (hb.mono (by omega))));have HX5:=ae (HXA.out.below hb (by omega));have hC5:w.heap.size+1≤w5.heap.size:=by have:=hb.size;omega
 have HO:=ae hO;obtain⟨k0,k1,k2,k3,k4,k5,k6,k7⟩:=rF HX5.out;clear hb hO HB4 HX4 HXA HBA HRA HOA hsA;obtain⟨a5,c5,rfl,-⟩:=HO.out.rd;go_wp2_with fail;refine(CN.out _ _ _ seed 4 w5 HO.out hC5 (by omega) (by omega) (by simp[bO])).mono ?_;rintro e w6 ⟨v6,rfl,hO,hb⟩;clear k0 k1 k2 k3 k4 k5 k6 k7;have HB6:=ae (HB5.out.trans (hb.mono (by omega)));have HX6:=ae (HX5.out.below hb (by omega));have hC6:w.heap.size+1≤w6.heap.size:=aQ hC5 hb.size;have HO:=ae hO;obtain⟨k0,k1,k2,k3,k4,k5,k6,k7⟩:=rF HX6.out;clear hb hO HB5 HX5;obtain⟨a6,c6,rfl,-⟩:=HO.out.rd;have HD6:=ae (HD.out.below HB6.out (ah _))
 go_wp2_with (at_builtin;refine kS rfl _ _ rfl HO.out ?c1 ?c2 rfl rfl ?c3 HD6.out ?_)
 case c1=>exact hC6
 case c2=>simp[bO];omega
 case c3=>exact hnil
 intro v7 w7 hO hb _ _;clear k0 k1 k2 k3 k4 k5 k6 k7;have hle:([]++bC obj 3++bC blk 1++bC id 2++[K,H,Z]++bC seed 4++d).length=13+Z:=by simp[bO,HDL.out];omega
 have HB7:=ae (HB6.out.trans (hb.mono (by omega)))
 have hO':OwnB w7 (w.heap.size+1) v7 (gS obj blk id K H Z seed d):=by
  unfold gS;first | exact hO | (simpa using hO)
 have hrl:=jP obj blk id K H Z seed d;have HO:=ae hO'
 have HBY2:Hid (By (gS obj blk id K H Z seed d)):=ae (by
  unfold gS;intro x hx;simp only[List.mem_append] at hx;rcases hx with((((hx | hx) | hx) | hx) | hx) | hx
  ·exact jm _ _ x hx
  ·exact jm _ _ x hx
  ·exact jm _ _ x hx
  ·simp at hx;omega
  ·exact jm _ _ x hx
  ·exact HBY.out x hx)
 clear hb hO hO' HB6 HX6 hle;obtain⟨a7,c7,rfl,hr7⟩:=HO.out.rd;rw[hrl] at hr7;have CP:=ae (sJ 1 (gS obj blk id K H Z seed d) a7 _ c7 w7 (by omega) (by omega) hr7 HBY2.out (by have:=HDL.out;omega));rw[hrl];rw[HDL.out] at CP ⊢;clear hr7 hrl;go_wp2_with fail;refine CP.out.mono ?_;rintro e w8 ⟨g,rfl,hg,hK,hb⟩;have HK:=ae hK;have hsz7:=HB7.out.size;have HB8:=ae (HB7.out.trans (hb.mono hsz7));clear hK hb;go_wp2_with fail;go_ret;exact⟨g,rfl,by omega,HK.out,HB8.out⟩
end Go.Proofs.YtofgapdnadbgkaaGreatDoor
