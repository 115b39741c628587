import Derived.Test.YtofgapdnadbgkaaGreatDoorW18
set_option linter.unusedVariables false
set_option maxRecDepth 100000
set_option maxHeartbeats 400000000
namespace Go.Proofs.YtofgapdnadbgkaaGreatDoor
open Go.RowKit _root_.Go.Proofs.Tryz
theorem vY{P:Program}{Q:Exit→Act→World→Prop}{a:Act}{w:World}{rest:Code}(l:Nat)(J:Nat→Act→World→Prop)(n₀:Nat)
 (hf:findLabel ((Code.label l).seq rest) l=some (Code.skip.seq rest))(first:J n₀ a w)
 (pass:∀n a w,J n a w→rest.wp P (Exit.jump l (fun a' w'=>∃n',n'<n∧J n' a' w') Q) a w):(Code.scope ((Code.label l).seq rest)).wp P Q a w:=by
 have fin:∀n a w,J n a w→rest.wp P (Exit.jump l (fun a w=>∃n,J n a w) Q) a w:=fun n a w h=>wp_mono (pass n a w h) fun e a' w' hq=>by
  cases e with
  | goto l'=>exact⟨hq.1,let ⟨n',_,hn⟩:=hq.2;⟨n',hn⟩⟩
  | normal=>exact hq
  | exit id=>exact hq
  | ret=>exact hq
  | panic ch=>exact hq
  | outgrown=>exact hq
 refine wp_scope_jumps l (fun a w=>∃n,J n a w) (fun a w=>leastOf (fun n=>J n a w)) hf ?_ ?_
 ·exact wp_seq (wp_label (fin n₀ a w first))
 ·intro a w hJ
  refine wp_seq (wp_skip ?_);refine wp_mono (pass _ a w (leastOf_spec hJ).1) ?_;intro e a' w' hq;cases e with
  | goto l'=>
    obtain⟨h1,n',hlt,hn'⟩:=hq;exact⟨h1,⟨n',hn'⟩,Nat.lt_of_le_of_lt ((leastOf_spec ⟨n',hn'⟩).2 n' hn') hlt⟩
  | normal=>exact hq
  | exit id=>exact hq
  | ret=>exact hq
  | panic ch=>exact hq
  | outgrown=>exact hq
def rN(l:List Nat):Rp:=if l=[] then rV (.slice none 0 0) else rB l
theorem JB{l:List Nat}{w:World}{F:Nat→Prop}{v:Value}(h:(rN l).ok w F [v]):∃a c,v=.slice a l.length c∧Rd w w.heap.size a l.length (ba l)∧(a=none→c=0)∧l.length≤c∧c≤maxLen∧(l=[]→a=none∧c=0)∧(l≠[]→a≠none):=by
 unfold rN at h;split at h
 ·rename_i h0
  subst h0;obtain⟨h1,_⟩:=h;injection h1 with h1 _;exact⟨none,0,h1,oz _ _ _,fun _=>rfl,ah _,Nat.zero_le _,fun _=>⟨rfl,rfl⟩,fun h=>absurd rfl h⟩
 ·rename_i h0
  obtain⟨a,c,e,h1,h2,h3,h4⟩:=gB h rfl;refine⟨a,c,e,h1,h2,h3,h4,fun h=>absurd h h0,fun _ e=> ?_⟩;have:=h2 e;have:l.length=0:=(by omega);exact h0 (List.eq_nil_of_length_eq_zero this)
structure PSt (w:World) (g gk gv n:Nat) (sl:Value) (kn:List Bool) (vl:List (List Nat)):Prop where
 blk:Blk w g 208 #[sl,.slice (some ⟨gk,0,none⟩) n n,.slice (some ⟨gv,0,none⟩) n n]
 knb:Blk w gk 4 (bJ kn).toArray
 kl:kn.length=n
 vll:vl.length=n
 hs:∃hs:List Value,Blk w gv 23 hs.toArray∧hs.length=n∧∀c,c<n→(rN (vl.getD c [])).ok w (fun b=>b≠g∧b≠gk∧b≠gv) [hs.getD c undef]
theorem PSt.ne{w:World}{g gk gv n:Nat}{sl:Value}{kn:List Bool}{vl:List (List Nat)}(h:PSt w g gk gv n sl kn vl):g≠gk∧g≠gv∧gk≠gv:=by
 obtain⟨hs,h1,_⟩:=h.hs;exact⟨Blk.ne h.blk h.knb (by decide),Blk.ne h.blk h1 (by decide),Blk.ne h.knb h1 (by decide)⟩
theorem PSt.new{w w':World}{g gk gv n:Nat}{sl:Value}{kn:List Bool}{vl:List (List Nat)}(h:PSt w g gk gv n sl kn vl)(hb:Below w.heap.size w w'):PSt w' g gk gv n sl kn vl:=by
 obtain⟨hs,h1,h2,h3⟩:=h.hs;exact⟨h.blk.below hb h.blk.lt,h.knb.below hb h.knb.lt,h.kl,h.vll,hs,h1.below hb h1.lt,h2,fun c hc=>(rN _).new (h3 c hc) hb⟩
theorem PSt.rdk{w:World}{g gk gv n:Nat}{sl:Value}{kn:List Bool}{vl:List (List Nat)}(h:PSt w g gk gv n sl kn vl):Rd w w.heap.size (some ⟨gk,0,none⟩) n (bJ kn):=
 ⟨by rw[kV];exact h.kl,fun _=>⟨gk,0,rfl,h.knb.lt,fun i u hu=>by rw[Nat.zero_add,h.knb.cell i];simpa using hu⟩⟩
theorem qN{hs:List Value}{c:Nat}(h:c<hs.length):hs[c]? =some (hs.getD c undef):=by rw[af,ag h];rfl
theorem PSt.rdv{w:World}{g gk gv n:Nat}{sl:Value}{kn:List Bool}{vl:List (List Nat)}(h:PSt w g gk gv n sl kn vl):RdM w w.heap.size (some ⟨gv,0,none⟩) n vl:=by
 obtain⟨hs,h1,h2,h3⟩:=h.hs;refine⟨h.vll,hs,⟨h2,fun _=>⟨gv,0,rfl,h1.lt,fun i u hu=>by rw[Nat.zero_add,h1.cell i];simpa using hu⟩⟩,fun i l hl=> ?_⟩;have hi:i<n:=by have:=(List.getElem?_eq_some_iff.1 hl).1;rw[h.vll] at this;exact this
 have e:vl.getD i []=l:=by rw[af,hl];rfl
 have h4:=h3 i hi;rw[e] at h4;obtain⟨a,c,e1,h5,h6,h7,h8,_⟩:=JB h4;exact⟨a,c,by rw[qN (by omega),e1],h5,h6,h7,h8⟩
theorem PSt.put{w w':World}{g gk gv n:Nat}{sl:Value}{kn:List Bool}{vl:List (List Nat)}(h:PSt w g gk gv n sl kn vl){c:Nat}(hc:c<n){u:Value}{d:List Nat}(hd:d≠[])(hu:(rB d).ok w (fun b=>b≠g∧b≠gk∧b≠gv) [u])
 (hw:∀b,b≠gk→b≠gv→w'.heap[b]? =w.heap[b]?)(hk:Blk w' gk 4 ((bJ kn).toArray.setIfInBounds c (.bool true)))(hv:∀hs:Array Value,Blk w gv 23 hs→Blk w' gv 23 (hs.setIfInBounds c u)):PSt w' g gk gv n sl (kn.set c true) (vl.set c d):=by
 obtain⟨n1,n2,n3⟩:=h.ne;obtain⟨hs,h1,h2,h3⟩:=h.hs;have hkeep:∀k,(k≠g∧k≠gk∧k≠gv)→k<w.heap.size→w'.heap[k]? =w.heap[k]? ∧(k≠g∧k≠gk∧k≠gv):=fun k hk _=>⟨hw k hk.2.1 hk.2.2,hk⟩;refine⟨(hw g n1 n2).trans h.blk,?_,by rw[List.length_set];exact h.kl,by rw[List.length_set];exact h.vll,hs.set c u,?_,by rw[List.length_set];exact h2,fun i hi=> ?_⟩
 ·have e:(bJ (kn.set c true)).toArray=(bJ kn).toArray.setIfInBounds c (.bool true):=by unfold bJ;simp
  rw[e];exact hk
 ·have:=hv hs.toArray h1
  simpa using this
 ·by_cases hic:i=c
  ·subst hic
   have e1:(vl.set i d).getD i []=d:=(by rw[af,List.getElem?_set,if_pos rfl,if_pos (by rw[h.vll];exact hi)];rfl);have e2:(hs.set i u).getD i undef=u:=(by rw[af,List.getElem?_set,if_pos rfl,if_pos (by omega)];rfl);rw[e1,e2];unfold rN;rw[if_neg hd];exact(rB d).keep hu hkeep
  ·have e1:(vl.set c d).getD i []=vl.getD i []:=by rw[af,List.getElem?_set,if_neg (fun e=>hic e.symm),←af]
   have e2:(hs.set c u).getD i undef=hs.getD i undef:=(by rw[af,List.getElem?_set,if_neg (fun e=>hic e.symm),←af]);rw[e1,e2];exact(rN _).keep (h3 i hi) hkeep
def cntF(kn:List Bool):Nat:=(kn.filter fun b=> !b).length
theorem JC{kn:List Bool}{c:Nat}(hc:c<kn.length)(h:kn.getD c false=false):cntF (kn.set c true)<cntF kn:=by
 induction kn generalizing c with
 | nil=>simp at hc
 | cons b kn ih=>
   cases c with
   | zero=>
     have hb:b=false:=h;subst hb;simp[cntF]
   | succ c=>
     have:=ih (c:=c) (by simpa using hc) h;unfold cntF at this ⊢;rw[List.set_cons_succ,List.filter_cons,List.filter_cons];cases b <;> simp_all
def ConsP(n:Nat)(m:Nat→List Nat)(kn:List Bool)(vl:List (List Nat)):Prop:=∀c,c<n→(kn.getD c false=true→vl.getD c []=m c)∧(kn.getD c false=false→vl.getD c []=[])
theorem ConsP.set{n:Nat}{m:Nat→List Nat}{kn:List Bool}{vl:List (List Nat)}(h:ConsP n m kn vl)(hk:kn.length=n)(hv:vl.length=n){c:Nat}(hc:c<n):ConsP n m (kn.set c true) (vl.set c (m c)):=by
 intro i hi;by_cases hic:i=c
 ·subst hic
  have e1:(vl.set i (m i)).getD i []=m i:=(by rw[af,List.getElem?_set,if_pos rfl,if_pos (by omega)];rfl);have e2:(kn.set i true).getD i false=true:=(by rw[af,List.getElem?_set,if_pos rfl,if_pos (by omega)];rfl);rw[e1,e2];exact⟨fun _=>rfl,fun h=>by cases h⟩
 ·have e1:(vl.set c (m c)).getD i []=vl.getD i []:=by rw[af,List.getElem?_set,if_neg (fun e=>hic e.symm),←af]
  have e2:(kn.set c true).getD i false=kn.getD i false:=(by rw[af,List.getElem?_set,if_neg (fun e=>hic e.symm),←af]);rw[e1,e2];exact h i hi
theorem LI{Z:Nat}{a:List Nat}(h:a.length=Z):xr (List.replicate Z 0) a=a:=by
 refine iN (by rw[jE (by rw[aN,h]),aN,h]) fun j=> ?_;rw[lI (by rw[aN,h]),pF,Nat.zero_xor]
theorem Eh{n Z:Nat}{m:Nat→List Nat}{kn:List Bool}{vl:List (List Nat)}(h:ConsP n m kn vl)(hm:∀c,c<n→(m c).length=Z∧By (m c)){x:List Nat×List Nat}(hx:∀c∈x.1,c<n)(hd:x.2=bz m x.1 (List.replicate Z 0)):
 bz (fun c=>vl.getD c []) (kW kn x.1) x.2=bz m (dA kn x.1) (List.replicate Z 0):=
 IQ (fun c=>kn.getD c false) (fun c hc=>(hm c (hx c hc)).1) (fun c hc hk=>(h c (hx c hc)).1 hk) hd
def uU(n Z:Nat)(m:Nat→List Nat)(L:List (List Nat×List Nat)):Prop:=∀x∈L,x.1.length≤64∧(∀c∈x.1,c<n)∧x.2=bz m x.1 (List.replicate Z 0)
theorem JD(C0 g gk gv n N Z:Nat)(al:Option Addr)(cl:Nat)(m:Nat→List Nat)(kn:List Bool)(vl:List (List Nat))(L:List (List Nat×List Nat))(w:World)
 (hP:PSt w g gk gv n (.slice al N cl) kn vl)(hC0:C0≤g∧C0≤gk∧C0≤gv)(hL:(eM L).ok w (Bl C0) [.slice al N cl])(hN:L.length=N)(hNb:N≤1000)(hn:n≤1000)(hZ:1≤Z)(hZ2:Z≤1000)
 (hm:∀c,c<n→(m c).length=Z∧By (m c))(hR:uU n Z m L)(hc:ConsP n m kn vl):
 Calls prog 137 #[.pointer (some ⟨g,0,none⟩)] w fun e w'=>e=.returned (.tuple #[])∧∃kn' vl',PSt w' g gk gv n (.slice al N cl) kn' vl'∧ConsP n m kn' vl'∧Below C0 w w':=by
 have HN:=ae hN;have HM:=ae hm;have HRW:=ae hR;have hH:Hid (PSt w g gk gv n (.slice al N cl) kn vl∧ConsP n m kn vl∧Below C0 w w∧(eM L).ok w (Bl C0) [.slice al N cl]):=ae ⟨hP,hc,az _ _,hL⟩;clear hN hm hR hP hc hL;go_enter func137,ntmps137
 refine vY 0 (fun x a' w'=>∃(kn:List Bool) (vl:List (List Nat)) (u1 u2 u3 u4 u5 u6 u7 u8 u9 u10 u11 u12 u13 u14 u15 u16 u17 u18 u19 u20 u21 u22 u23 u24 u25 u26 u27 u28 u29 u30 u31 u32 u33 u34 u35 u36:Value),(cntF kn<x∧Hid (PSt w' g gk gv n (.slice al N cl) kn vl∧ConsP n m kn vl∧Below C0 w w'∧(eM L).ok w' (Bl C0) [.slice al N cl]))∧
  a'= { tmps:=#[.pointer (some ⟨g,0,none⟩),u1,u2,u3,u4,u5,u6,u7,u8,u9,u10,u11,u12,u13,u14,u15,u16,u17,u18,u19,u20,u21,u22,u23,u24,u25,u26,u27,u28,u29,u30,u31,u32,u33,u34,u35,u36],defers:=[] }) (cntF kn+1) rfl ?_ ?_
 ·exact⟨kn,vl,_,_,_,_,_,_,_,_,_,_,_,_,_,_,_,_,_,_,_,_,_,_,_,_,_,_,_,_,_,_,_,_,_,_,_,_,⟨by omega,hH⟩,rfl⟩
 ·clear hH kn vl
  rintro x a' w' ⟨kn,vl,u1,u2,u3,u4,u5,u6,u7,u8,u9,u10,u11,u12,u13,u14,u15,u16,u17,u18,u19,u20,u21,u22,u23,u24,u25,u26,u27,u28,u29,u30,u31,u32,u33,u34,u35,u36,⟨hcnt,hH⟩,rfl⟩;obtain⟨hP,hc,hB,hL⟩:=hH.out;have hn1:=hP.ne;have CN:=ae (FO g n N al (some ⟨gk,0,none⟩) cl n (.slice (some ⟨gv,0,none⟩) n n) (Bl C0) kn L w' hP.blk hL hP.rdk HN.out hNb (fun y hy=>⟨aQ (HRW.out y hy).1 (by omega),(HRW.out y hy).2.1⟩) hn);clear hP hc hB hL;go_wp2_with fail;refine CN.out.mono ?_;rintro e w1 ⟨r,rfl,hr,hb1⟩;have HR:=ae hr;have HB1:=ae hb1;clear hr hb1 CN;by_cases hr0:r<0
  ·go_wp2_with fail
   simp only[Exit.jump]
   (try simp only[Exit.inBlock,Exit.then])
   refine bodyPost_ret (results_none rfl _ _ _) rfl ?_;obtain⟨hP,hc,hB,hL⟩:=hH.out;exact⟨rfl,kn,vl,hP.new HB1.out,hc,hB.trans (HB1.out.mono (by have:=hB.size;have:=hP.blk.lt;omega))⟩
  ·obtain⟨i,rfl,hi,hu⟩:=HR.out.resolve_left hr0
   obtain⟨hP0,hc,hB0,hL0⟩:=hH.out;have hP1:=hP0.new HB1.out;have hL1:=(eM L).new hL0 HB1.out;have hB1:Below C0 w w1:=hB0.trans (HB1.out.mono (by have:=hB0.size;have:=hP0.blk.lt;omega));obtain⟨b,o,a1,q1,c1,a2,q2,c2,rfl,_,hb,he0,he1,hE1,hE2,hq1,hq2⟩:=lM hL1 HN.out hi;have hLi:L.getD i ([],[])∈L:=(by rw[af,ag (by rw[HN.out];exact hi)];exact aU _);obtain⟨hx64,hxn,hxd⟩:=HRW.out _ hLi;have hz:=Eh hc HM.out hxn hxd;have hxl:(L.getD i ([],[])).2.length=Z:=(by rw[hxd];exact eB aN fun c hc=>(HM.out c (hxn c hc)).1);have hxb:By (L.getD i ([],[])).2:=(by rw[hxd];exact(df (D:=Z) (Byt.zero Z) fun c hc=>HM.out c (hxn c hc)).2);have hq2':q2=Z:=(by omega);subst hq2';obtain⟨a1',c1',e1,hR1,-⟩:=dB hE1 hq1.symm;injection e1 with e1 _ e3;subst e1 e3;obtain⟨a2',c2',e1,hR2,hnil2,-⟩:=gB hE2 hxl;injection e1 with e1 _ e3;subst e1 e3;obtain⟨c,hcu⟩:∃c,dA kn (L.getD i ([],[])).1=[c]:=List.length_eq_one_iff.1 hu;have hcm:c∈dA kn (L.getD i ([],[])).1:=(by rw[hcu];simp);obtain⟨hcm1,hcm2⟩:=List.mem_filter.1 hcm;have hcn:c<n:=hxn c hcm1;have hck:kn.getD c false=false:=(by simpa using hcm2);rw[hcu] at hz;have hz2:bz m [c] (List.replicate q2 0)=m c:=LI (HM.out c hcn).1;rw[hz2] at hz
   have CL:=ae (xj g n q1 q2 (.slice (some ⟨b,o,none⟩) N cl) (some ⟨gk,0,none⟩) (some ⟨gv,0,none⟩) a1 a2 n n c1 c2 kn vl (L.getD i ([],[])).1 (L.getD i ([],[])).2 w1 hP1.blk hP1.rdk hP1.rdv hR1 hR2 hnil2 hZ2 (by omega) hn hxn (fun d hd hk=>by
    have:=(hc d (hxn d hd)).1 hk;rw[this];exact HM.out d (hxn d hd)) hxb)
   rw[hz,hcu] at CL;have p0:=hP1.blk.cell 0;have hiI:(i:Int)<(N:Int):=(by omega);have HC:=ae hc;have HP1:=ae hP1;have HL1:=ae hL1;have HBB1:=ae hB1;have HCN:=ae hck;clear hP0 hc hB0 hL0 hP1 hL1 hB1 hE1 hE2 hLi hx64 hxn hxd hz hxl hxb hR1 hR2 hu hcu hcm hcm1 hcm2 hz2 hH HR HB1 hr0 hck hq1 hq2;go_wp2_with fail;refine CL.out.mono ?_;rintro e w2 ⟨v1,v2,rfl,hO1,hO2,hb2⟩;have hmc:=HM.out c hcn;obtain⟨a3,c3,rfl⟩:=hO1.lenA;obtain⟨gc,rfl,hgc1,hgc2⟩:=hO1.formA (n:=1) rfl (by decide);obtain⟨hcx,-⟩:=hO1.cellA (n:=1) rfl (show 0<1 by decide);obtain⟨a4,c4,rfl,-⟩:=hO2.rd2 hmc.1;have hlen1:([c]:List Nat).length=1:=rfl;rw[hlen1] at hO1 ⊢;have hcx':w2.cell? ⟨gc,0,none⟩=some (.int .i64 c):=hcx;have hP2:=HP1.out.new hb2;have hba:=(az w2.heap.size w2).alloc (ah _) (.cells #[.slice (some ⟨gc,0,none⟩) 1 c3,.slice a4 q2 c4] 126);have hP3:=hP2.new hba;have hK3:=Blk.new w2 126 #[.slice (some ⟨gc,0,none⟩) 1 c3,.slice a4 q2 c4];have hcx3:=(hba.cell (p:=⟨gc,0,none⟩) hgc2).trans hcx';have hO3:OwnB (w2.alloc (.cells #[.slice (some ⟨gc,0,none⟩) 1 c3,.slice a4 q2 c4] 126)) w1.heap.size (.slice a4 q2 c4) (m c):=hO2.below hba;have hB13:Below C0 w1 (w2.alloc (.cells #[.slice (some ⟨gc,0,none⟩) 1 c3,.slice a4 q2 c4] 126)):=(hb2.mono (by have:=HP1.out.blk.lt;omega)).trans (hba.mono (by have:=hb2.size;have:=HP1.out.blk.lt;omega));have hL3:=(eM L).new ((eM L).new HL1.out hb2) hba;have hgl:=HP1.out.blk.lt;have hkl:=HP1.out.knb.lt;have hvl:=HP1.out.hs;obtain⟨hs1,hs2,hs3,hs4⟩:=hvl;have hvlt:=hs2.lt;obtain⟨n1,n2,n3⟩:=HP1.out.ne;have hGge:w1.heap.size≤w2.heap.size:=hb2.size;have HP3:=ae hP3;have HO3:=ae hO3;have HL3:=ae hL3;have HB3:=ae (HBB1.out.trans hB13);clear hcx hcx' hP2 hba hP3 hO3 hL3 hB13 HP1 HL1 HBB1 CL hO1 hO2 hb2 hs2 hs3 hs4 hs1 he0 he1 p0 hlen1;go_wp2_with fail;generalize w2.alloc (.cells #[.slice (some ⟨gc,0,none⟩) 1 c3,.slice a4 q2 c4] 126)=w3 at*;have t0:=hK3.cell 0;have t1:=hK3.cell 1;have t2:=HP3.out.blk.cell 1;have t3:=HP3.out.blk.cell 2
   have t4:w3.cell? ⟨gk,c,none⟩=some (.bool false):=by
    rw[HP3.out.knb.cell c,←HCN.out,af];have:c<kn.length:=(by rw[HP3.out.kl];exact hcn);simp[bJ,this]
   have t5:=HP3.out.knb.frozen c
   obtain⟨uo,t6⟩:∃uo,w3.cell? ⟨gv,c,none⟩=some uo:=by
    obtain⟨hs,h1,h2,h3⟩:=HP3.out.hs;exact⟨_,(h1.cell c).trans (by simpa using qN (hs:=hs) (by omega))⟩
   have t7:w3.frozen? ⟨gv,c,none⟩=false:=by
    obtain⟨hs,h1,h2,h3⟩:=HP3.out.hs;exact h1.frozen c
   have hcI:(c:Int)<(n:Int):=(by omega);have hd1:¬gk=gv:=n3;have hd2:¬gv=gk:=fun e=>n3 e.symm;have hd3:¬g=gk:=n1;have hd4:¬g=gv:=n2;have hd5:¬w2.heap.size=gk:=(by omega);have hd6:¬w2.heap.size=gv:=(by omega);have hd7:¬gc=gk:=(by omega);have hd8:¬gc=gv:=(by omega);clear hK3;have hne:m c≠[]:=fun e=>by have:=hmc.1;rw[e] at this;simp at this;omega
   have HPn1:Hid (∀j,PSt (((w3.drewN j).setCell ⟨gk,c,none⟩ (.bool true)).setCell ⟨gv,c,none⟩ (.slice a4 q2 c4)) g gk gv n (.slice (some ⟨b,o,none⟩) N cl) (kn.set c true) (vl.set c (m c))):=ae fun j=>HP3.out.put hcn hne ((rB _).more (eY HO3.out) fun b hb _=>by
    have:w1.heap.size≤b:=hb;exact⟨by omega,by omega,by omega⟩)
    (fun b h1 h2=>(aZ _ _ _ _ h2).trans (aZ _ _ _ _ h1))
    ((Blk.set (w:=w3.drewN j) (HP3.out.knb.drewN j) c (.bool true)).far (p:=⟨gv,c,none⟩) n3 _)
    (fun hs h=>Blk.set (((h.drewN j).far (p:=⟨gk,c,none⟩) (fun e=>n3 e.symm) _)) c _)
   have HPn2:Hid (∀j,PSt (((w3.drewN j).setCell ⟨gv,c,none⟩ (.slice a4 q2 c4)).setCell ⟨gk,c,none⟩ (.bool true)) g gk gv n (.slice (some ⟨b,o,none⟩) N cl) (kn.set c true) (vl.set c (m c))):=ae fun j=>HP3.out.put hcn hne ((rB _).more (eY HO3.out) fun b hb _=>by
    have:w1.heap.size≤b:=hb;exact⟨by omega,by omega,by omega⟩)
    (fun b h1 h2=>(aZ _ _ _ _ h1).trans (aZ _ _ _ _ h2))
    (Blk.set ((HP3.out.knb.drewN j).far (p:=⟨gv,c,none⟩) n3 _) c (.bool true))
    (fun hs h=>((Blk.set (w:=w3.drewN j) (h.drewN j) c _)).far (p:=⟨gk,c,none⟩) (fun e=>n3 e.symm) _)
   have HBn1:Hid (∀j,Below C0 w (((w3.drewN j).setCell ⟨gk,c,none⟩ (.bool true)).setCell ⟨gv,c,none⟩ (.slice a4 q2 c4))):=ae fun j=>((below_drewN HB3.out j).setCell (p:=⟨gk,c,none⟩) hC0.2.1 _).setCell (p:=⟨gv,c,none⟩) hC0.2.2 _;have HBn2:Hid (∀j,Below C0 w (((w3.drewN j).setCell ⟨gv,c,none⟩ (.slice a4 q2 c4)).setCell ⟨gk,c,none⟩ (.bool true))):=ae fun j=>((below_drewN HB3.out j).setCell (p:=⟨gv,c,none⟩) hC0.2.2 _).setCell (p:=⟨gk,c,none⟩) hC0.2.1 _;have HLn1:Hid (∀j,(eM L).ok (((w3.drewN j).setCell ⟨gk,c,none⟩ (.bool true)).setCell ⟨gv,c,none⟩ (.slice a4 q2 c4)) (Bl C0) [.slice (some ⟨b,o,none⟩) N cl]):=ae fun j=>(eM L).keep HL3.out fun k hF _=>⟨(aZ _ _ _ _ (by have:k<C0:=hF;show k≠gv;omega)).trans (aZ _ _ _ _ (by have:k<C0:=hF;show k≠gk;omega)),hF⟩;have HLn2:Hid (∀j,(eM L).ok (((w3.drewN j).setCell ⟨gv,c,none⟩ (.slice a4 q2 c4)).setCell ⟨gk,c,none⟩ (.bool true)) (Bl C0) [.slice (some ⟨b,o,none⟩) N cl]):=ae fun j=>(eM L).keep HL3.out fun k hF _=>⟨(aZ _ _ _ _ (by have:k<C0:=hF;show k≠gk;omega)).trans (aZ _ _ _ _ (by have:k<C0:=hF;show k≠gv;omega)),hF⟩;have HCn:=ae (HC.out.set HP3.out.kl HP3.out.vll hcn);have HCT:=ae (JC (by rw[HP3.out.kl];exact hcn) HCN.out);clear HP3 HO3 HL3 HB3 hmc hne
   have HS:Hid (∀w':World,(∀b,b≠gk→b≠gv→w'.heap[b]? =w3.heap[b]?)→w'.cell? ⟨g,1,none⟩=some (.slice (some ⟨gk,0,none⟩) n n)∧w'.cell? ⟨g,2,none⟩=some (.slice (some ⟨gv,0,none⟩) n n)∧w'.cell? ⟨w2.heap.size,0,none⟩=some (.slice (some ⟨gc,0,none⟩) 1 c3)∧w'.cell? ⟨w2.heap.size,1,none⟩=some (.slice a4 q2 c4)∧w'.cell? ⟨gc,0,none⟩=some (.int .i64 c)):=ae fun w' h=>
    ⟨(World.cell?_of_block (w:=w3) (a:=⟨g,1,none⟩) (h g hd3 hd4)).trans t2,(World.cell?_of_block (w:=w3) (a:=⟨g,2,none⟩) (h g hd3 hd4)).trans t3,(World.cell?_of_block (w:=w3) (a:=⟨w2.heap.size,0,none⟩) (h _ hd5 hd6)).trans t0,(World.cell?_of_block (w:=w3) (a:=⟨w2.heap.size,1,none⟩) (h _ hd5 hd6)).trans t1,(World.cell?_of_block (w:=w3) (a:=⟨gc,0,none⟩) (h _ hd7 hd8)).trans hcx3⟩
   go_region_held3 (fun w'=>w'.cell? ⟨g,1,none⟩=some (.slice (some ⟨gk,0,none⟩) n n)∧w'.cell? ⟨g,2,none⟩=some (.slice (some ⟨gv,0,none⟩) n n)∧w'.cell? ⟨w2.heap.size,0,none⟩=some (.slice (some ⟨gc,0,none⟩) 1 c3)∧w'.cell? ⟨w2.heap.size,1,none⟩=some (.slice a4 q2 c4)∧w'.cell? ⟨gc,0,none⟩=some (.int .i64 c)) (exact HS.out _ (fun b h1 h2=>by first | exact rfl | exact aZ _ _ _ _ h1 | exact aZ _ _ _ _ h2 | exact(aZ _ _ _ _ h2).trans (aZ _ _ _ _ h1) | exact(aZ _ _ _ _ h1).trans (aZ _ _ _ _ h2))) (fail)
   all_goals(
    go_wp2_with fail
    (try go_step3)
    first
    | exact⟨rfl,cntF kn,hcnt,_,_,_,_,_,_,_,_,_,_,_,_,_,_,_,_,_,_,_,_,_,_,_,_,_,_,_,_,_,_,_,_,_,_,_,_,_,_,⟨HCT.out,ae ⟨HPn1.out 1,HCn.out,HBn1.out 1,HLn1.out 1⟩⟩,rfl⟩
    | exact⟨rfl,cntF kn,hcnt,_,_,_,_,_,_,_,_,_,_,_,_,_,_,_,_,_,_,_,_,_,_,_,_,_,_,_,_,_,_,_,_,_,_,_,_,_,_,⟨HCT.out,ae ⟨HPn2.out 1,HCn.out,HBn2.out 1,HLn2.out 1⟩⟩,rfl⟩)
def NI(l:List Nat):Prop:=∀i,i+1<l.length→l.getD i 0<l.getD (i+1) 0
theorem Dn(n N Z:Nat)(al:Option Addr)(cl:Nat)(F:Nat→Prop)(L:List (List Nat×List Nat))(w:World)
 (hL:(eM L).ok w F [.slice al N cl])(hN:L.length=N)(hNb:N≤1000)(hn:n≤64)
 (hcn:∀x∈L,x.1.length≤1000∧(∀c∈x.1,c<n)∧NI x.1∧x.2.length=Z):
 Calls prog 136 #[.int .i64 n,.slice al N cl] w fun e w'=>e=.returned (.bool true)∧Below w.heap.size w w':=by
 have S0:=ae ((Sx.nil w).add (eR F (.slice al N cl) (eM L)) hL);have HB0:=ae (az w.heap.size w);have HN:=ae hN;have HCN:=ae hcn;clear hL hN hcn;go_enter func136,ntmps136;have hn1:¬(n:Int)<0:=by omega
 have hn2:¬64<(n:Int):=by omega
 go_wp2_with fail;clear hn1 hn2;go_loopw [17] (fun i wr=>∃k:Nat,k≤N∧i=.int .i64 k∧Hid (Below w.heap.size w wr)) (fun i _=>N-(intOf i).toNat)
 case atStart=>exact⟨0,by omega,rfl,HB0⟩
 case round=>
  clear HB0;obtain⟨k,hkN,rfl,HB⟩:=hrel;have S1:=ae (S0.out.step HB.out);by_cases hlt:k<N
  ·have hltI:(k:Int)<(N:Int):=by omega
   have h0lt:0<N:=(by omega);have hLk:L.getD k ([],[])∈L:=(by rw[af,ag (by rw[HN.out];exact hlt)];exact aU _);have hL0:L.getD 0 ([],[])∈L:=(by rw[af,ag (by rw[HN.out];exact h0lt)];exact aU _);obtain⟨hq,hcx,hup,hz⟩:=HCN.out _ hLk;obtain⟨-,-,-,hz0⟩:=HCN.out _ hL0;obtain⟨b,o,a1,q1,c1,a2,q2,c2,rfl,_,hb,he0,he1,hR1,hR2,hq1,hq2⟩:=lM (S1.out.rep 0 rfl) HN.out hlt;obtain⟨b',o',a3,q3,c3,a4,q4,c4,hbo,_,_,hf0,hf1,_,_,_,hq4⟩:=lM (S1.out.rep 0 rfl) HN.out h0lt;injection hbo with hbo;injection hbo with hb1 hb2 _;subst hb1 hb2;rw[Nat.zero_mul,Nat.add_zero] at hf1;clear hf0;obtain⟨a1',c1',e1,hRd,-⟩:=dB hR1 hq1.symm;injection e1 with e1 _ e3;subst e1 e3;have HRD:=ae hRd;have HCX:=ae hcx;have HUP:=ae hup;have HQ1:=ae hq1;have hwr:=HB.out.size;have hlq:q1≤1000:=(by omega);obtain rfl:q2=Z:=(by omega);obtain rfl:q4=q2:=(by omega);clear hLk hR1 hR2 hRd hq2 hcx hq hup hz hz0 hL0 hq4;generalize L.getD k ([],[])=x at*;clear hq1;have hba:=(az wr.heap.size wr).alloc (ah _) (.cells #[.slice a1 q1 c1,.slice a2 q4 c2] 126);have HBA:=ae hba;have HB2:=ae (HB.out.trans (hba.mono hwr));have HRD2:=ae (HRD.out.below hba (ah _));have hf1':=(hba.cell (p:=⟨b,o+1,none⟩) hb).trans hf1;have hK:=Blk.new wr 126 #[.slice a1 q1 c1,.slice a2 q4 c2];clear hba S1 HB HRD;go_wp2_with fail;clear hf1 he0 he1;generalize wr.alloc (.cells #[.slice a1 q1 c1,.slice a2 q4 c2] 126)=w1 at*;generalize wr.heap.size=g1 at*;have k0:=hK.cell 0;have k1:=hK.cell 1;clear hK;go_loopw [24] (fun i wq=>∃j:Nat,j≤q1∧i=.int .i64 j∧wq=w1) (fun i _=>q1-(intOf i).toNat)
   case atStart=>exact⟨0,by omega,rfl,rfl⟩
   case round=>
    obtain⟨j,hjq,rfl,hw⟩:=hrel;have HW:=ae hw;clear hw;rw[←HW.out] at k0 k1 hf1';by_cases hlj:j<q1
    ·have hljI:(j:Int)<(q1:Int):=by omega
     have hjl:j<x.1.length:=(by rw[←HQ1.out];exact hlj);obtain⟨bc,oc,rfl,hbc,hcc⟩:=gJ HRD2.out hlj;have hcx:x.1.getD j 0<n:=HCX.out _ (by rw[getD_at hjl];exact aU hjl);have hcx1:¬((x.1.getD j 0:Nat):Int)<0:=(by omega);have hcx2:¬(n:Int)≤((x.1.getD j 0:Nat):Int):=(by omega);rw[←HW.out] at hcc;by_cases hj0:j=0
     ·subst hj0
      clear hjl;generalize x.1.getD 0 0=y at*;rw[Nat.add_zero] at hcc;go_wp2_with fail;go_roundw
      case rel=>(try((repeat apply Exists.intro);refine⟨?_,rfl⟩));exact⟨0+1,by omega,by go_num,HW.out⟩
      case measure=>simp[intOf];omega
     ·obtain⟨_,_,e,hbc',hcc'⟩:=gJ HRD2.out (show j-1<q1 by omega)
      injection e with e;injection e with e1 e2 _;subst e1 e2;rw[←HW.out] at hcc';have hu:=HUP.out (j-1) (by omega);rw[show j-1+1=j by omega] at hu;have huI:¬((x.1.getD j 0:Nat):Int)≤((x.1.getD (j-1) 0:Nat):Int):=(by omega);have hj0I:(0:Int)<(j:Int):=(by omega);have hj1:IntKind.i64.wrap ((j:Int)-1)=((j-1:Nat):Int):=(by rw[IntKind.wrap_i64];omega);have hj2:((j:Int)-1)=((j-1:Nat):Int):=(by omega);have hj3:((j-1:Nat):Int)<(q1:Int):=(by omega);have HJ:Hid (j+1≤q1∧q1-(j+1)<q1-j):=ae (by omega);clear hjl hu;generalize x.1.getD j 0=y at*;generalize hj1e:j-1=j1 at*;generalize x.1.getD j1 0=z at*;clear hj1e;go_wp2_with fail;go_roundw
      case rel=>(try((repeat apply Exists.intro);refine⟨?_,rfl⟩));exact⟨j+1,by omega,by go_num,HW.out⟩
      case measure=>simp[intOf];omega
    ·obtain rfl:j=q1:=by omega
     have HB3:Hid (Below w.heap.size w wr):=ae (by rw[HW.out];exact HB2.out);have h0I:(0:Int)<(N:Int):=(by omega);go_wp2_with fail
     go_quiet (fail)
     go_wp2_with fail;go_roundw
     case rel=>first | exact⟨k+1,by omega,by go_num,ae (below_drewN HB3.out _)⟩ | ((repeat apply Exists.intro);exact⟨⟨k+1,by omega,by go_num,ae (below_drewN HB3.out _)⟩,rfl⟩) | exact⟨k+1,by omega,by go_num,HB3⟩ | ((repeat apply Exists.intro);exact⟨⟨k+1,by omega,by go_num,HB3⟩,rfl⟩)
     case measure=>simp[intOf];omega
  ·obtain rfl:k=N:=by omega
   go_wp2_with fail;go_ret;exact⟨rfl,HB.out⟩
theorem D5:(prog.info? 126).map (fun i=>(i.zero,i.size,i.bytes))=some (some (.agg #[.slice none 0 0,.slice none 0 0]),2,48):=by kernel_rfl
theorem yc{fn:Func}{t u v x:Tmp}(h:fn.results= #[.tmp t,.tmp u,.tmp v,.tmp x])(tmps:Array Value)(P:Program)(w:World):
 (results fn tmps).run P w=.ok (.tuple #[tmps.getD t undef,tmps.getD u undef,tmps.getD v undef,tmps.getD x undef]) w:=by
 simp[results,h]
def uh(kn:List Bool)(m:Nat→List Nat)(Z:Nat)(x:List Nat×List Nat):List Nat×List Nat:=(dA kn x.1,bz m (dA kn x.1) (List.replicate Z 0))
def fe(kn:List Bool)(m:Nat→List Nat)(Z:Nat)(L:List (List Nat×List Nat)):List (List Nat×List Nat):=(L.map (uh kn m Z)).filter fun y=>y.1.length != 0
theorem FK{kn:List Bool}{m:Nat→List Nat}{Z:Nat}{L:List (List Nat×List Nat)}{k:Nat}(h:k<L.length):
 fe kn m Z (L.take (k+1))=if (dA kn (L.getD k ([],[])).1).length=0 then fe kn m Z (L.take k) else fe kn m Z (L.take k)++[uh kn m Z (L.getD k ([],[]))]:=by
 unfold fe;rw[aP h,aW,List.filter_append,af,ag h];simp only[List.map_cons,List.map_nil,Option.getD_some,uh];split
 ·rename_i h0
  simp[h0]
 ·rename_i h0
  simp[h0]
theorem zO{kn:List Bool}{m:Nat→List Nat}{Z:Nat}{L:List (List Nat×List Nat)}:(fe kn m Z L).length≤L.length:=by
 unfold fe;exact aQ (List.length_filter_le _ _) (by rw[aG];exact ah _)
theorem um(u:Value)(n:Nat):madeCells #[u] n=(List.replicate n u).toArray:=by
 apply Array.ext (by rw[size_madeCells];simp);intro i h1 h2;simp[madeCells,Nat.mod_one]
theorem BL{n:Nat}:madeCells #[Value.bool false] n=(bJ (List.replicate n false)).toArray:=by
 rw[um];unfold bJ;simp
theorem I0{n:Nat}:madeCells #[Value.slice none 0 0] n=(List.replicate n (Value.slice none 0 0)).toArray:=by
 rw[um]
theorem FL:(prog.info? 4).map (fun i=>(i.zero,i.size,i.bytes))=some (some (.bool false),1,1):=by kernel_rfl
theorem oD{n:Nat}(hn:n≤1000000)(w:World):(Instr.makeSlice 133 (.int .i64 (n:Int)) (.int .i64 (n:Int))).run prog w=.ok (.slice (some ⟨w.heap.size,0,none⟩) n n) (w.alloc (.cells (bJ (List.replicate n false)).toArray 4)):=by
 obtain⟨i0,hi,hz0,hz1,hz2⟩:=info_parts FL;have h:=run_make (P:=prog) w 133 4 i0 (.bool false) underlying133 hi hz0 .i64 .i64 (n:Int) (n:Int) (by omega) (by omega) (by rw[hz2];omega) (by omega);rw[hz1,Nat.mul_one,Int.toNat_natCast] at h;rw[←BL];exact h
theorem zP{n:Nat}(hn:n≤1000000)(w:World):(Instr.makeSlice 33 (.int .i64 (n:Int)) (.int .i64 (n:Int))).run prog w=.ok (.slice (some ⟨w.heap.size,0,none⟩) n n) (w.alloc (.cells (List.replicate n (Value.slice none 0 0)).toArray 23)):=by
 obtain⟨i0,hi,hz0,hz1,hz2⟩:=info_parts bQ;have h:=run_make (P:=prog) w 33 23 i0 (.slice none 0 0) underlying33 hi hz0 .i64 .i64 (n:Int) (n:Int) (by omega) (by omega) (by rw[hz2];omega) (by omega);rw[hz1,Nat.mul_one,Int.toNat_natCast] at h;rw[←I0];exact h
theorem PSt.begin{w:World}{g gk gv n:Nat}{sl:Value}(h1:Blk w g 208 #[sl,.slice (some ⟨gk,0,none⟩) n n,.slice (some ⟨gv,0,none⟩) n n])
 (h2:Blk w gk 4 (bJ (List.replicate n false)).toArray)(h3:Blk w gv 23 (List.replicate n (Value.slice none 0 0)).toArray):PSt w g gk gv n sl (List.replicate n false) (List.replicate n []):=
 ⟨h1,h2,aN,aN,_,h3,aN,fun c hc=>by
   rw[af,af,List.getElem?_replicate,List.getElem?_replicate,if_pos hc,if_pos hc];exact⟨rfl,fun u hu=>by rw[List.mem_singleton.1 hu];rfl⟩⟩
theorem ConsP.begin(n:Nat)(m:Nat→List Nat):ConsP n m (List.replicate n false) (List.replicate n []):=fun c hc=>by
 rw[af,af,List.getElem?_replicate,List.getElem?_replicate,if_pos hc,if_pos hc];exact⟨fun h=>Bool.noConfusion h,fun _=>rfl⟩
theorem mH(w:World)(X Y Z:Array Value)(tX tY tZ:TypeId):Blk (((w.alloc (.cells X tX)).alloc (.cells Y tY)).alloc (.cells Z tZ)) w.heap.size tX X∧Blk (((w.alloc (.cells X tX)).alloc (.cells Y tY)).alloc (.cells Z tZ)) (w.heap.size+1) tY Y∧Blk (((w.alloc (.cells X tX)).alloc (.cells Y tY)).alloc (.cells Z tZ)) (w.heap.size+1+1) tZ Z∧Below w.heap.size w (((w.alloc (.cells X tX)).alloc (.cells Y tY)).alloc (.cells Z tZ)):=by
 have e1:(w.alloc (.cells X tX)).heap.size=w.heap.size+1:=by simp
 have e2:((w.alloc (.cells X tX)).alloc (.cells Y tY)).heap.size=w.heap.size+1+1:=by simp
 have b1:=(az w.heap.size w).alloc (ah _) (.cells X tX);have b2:=(az (w.alloc (.cells X tX)).heap.size (w.alloc (.cells X tX))).alloc (ah _) (.cells Y tY);have b3:=(az ((w.alloc (.cells X tX)).alloc (.cells Y tY)).heap.size ((w.alloc (.cells X tX)).alloc (.cells Y tY))).alloc (ah _) (.cells Z tZ);have k1:=Blk.new w tX X;have k2:=Blk.new (w.alloc (.cells X tX)) tY Y;have k3:=Blk.new ((w.alloc (.cells X tX)).alloc (.cells Y tY)) tZ Z;have k1':=(k1.below b2 k1.lt).below b3 (by rw[e2];omega);have k2':=k2.below b3 k2.lt;rw[e1] at k2';rw[e2] at k3;refine⟨k1',k2',k3,(b1.trans (b2.mono (by rw[e1];omega))).trans (b3.mono (by rw[e2];omega))⟩
theorem FM(n N Z:Nat)(al:Option Addr)(cl:Nat)(F:Nat→Prop)(m:Nat→List Nat)(L:List (List Nat×List Nat))(w:World)
 (hL:(eM L).ok w F [.slice al N cl])(hN:L.length=N)(hNb:N≤1000)(hn:n≤64)(hZ:1≤Z)(hZ2:Z≤1000)
 (hm:∀c,c<n→(m c).length=Z∧By (m c))(hR:uU n Z m L)(hU:∀x∈L,NI x.1):
 Calls prog 72 #[.int .i64 n,.slice al N cl] w fun e w'=>∃g gk gv C1 v kn vl,e=.returned (.tuple #[.slice (some ⟨gk,0,none⟩) n n,.slice (some ⟨gv,0,none⟩) n n,v,.int .i64 0])∧
  PSt w' g gk gv n (.slice al N cl) kn vl∧ConsP n m kn vl∧(w.heap.size≤g∧w.heap.size≤gk∧w.heap.size≤gv)∧(g<C1∧gk<C1∧gv<C1)∧OwnS w' C1 126 2 (Fr C1) v ((fe kn m Z L).map rU)∧Below w.heap.size w w':=by
 have HRW:=ae hR;have HM:=ae hm;have HN:=ae hN;have CR:=ae (Dn n N Z al cl F L w hL hN hNb hn (fun x hx=>⟨aQ (hR x hx).1 (by omega),(hR x hx).2.1,hU x hx,by rw[(hR x hx).2.2];exact eB aN fun c hc=>(hm c ((hR x hx).2.1 c hc)).1⟩));have HL:=ae hL;have hmb:∀w:World,(Instr.makeSlice 133 (.int .i64 (n:Int)) (.int .i64 (n:Int))).run prog w=.ok (.slice (some ⟨w.heap.size,0,none⟩) n n) (w.alloc (.cells (bJ (List.replicate n false)).toArray 4)):=fun w=>oD (by omega) w;have hmh:∀w:World,(Instr.makeSlice 33 (.int .i64 (n:Int)) (.int .i64 (n:Int))).run prog w=.ok (.slice (some ⟨w.heap.size,0,none⟩) n n) (w.alloc (.cells (List.replicate n (Value.slice none 0 0)).toArray 23)):=fun w=>zP (by omega) w;clear hR hm hN hL hU;go_enter func72,ntmps72;go_wp2_with fail;refine CR.out.mono ?_;rintro e w1 ⟨rfl,hb1⟩;have HB1:=ae hb1;have hs1:=hb1.size;have HL1:=ae ((eM L).bl ((eM L).new HL.out hb1));clear hb1 CR HL;go_upto_region 3 with fail;go_cut [8] (fun v wx=>∃g gk gv,v=.pointer (some ⟨g,0,none⟩)∧Hid (PSt wx g gk gv n (.slice al N cl) (List.replicate n false) (List.replicate n []))∧Hid (Below w1.heap.size w1 wx)∧Hid (w1.heap.size≤g∧w1.heap.size≤gk∧w1.heap.size≤gv))
 case first=>
  generalize hcb:(bJ (List.replicate n false)).toArray=cb at*;generalize hch:(List.replicate n (Value.slice none 0 0)).toArray=ch at*;have HCB:=ae hcb;have HCH:=ae hch;clear hcb hch;go_region_law (first | simp only[hmb] | simp only[hmh])
  all_goals(
   go_wp2_with fail;go_meet
   first
   | (obtain⟨k1,k2,k3,kb⟩:=mH w1 cb ch #[.slice al N cl,.slice (some ⟨w1.heap.size,0,none⟩) n n,.slice (some ⟨w1.heap.size+1,0,none⟩) n n] 4 23 208
      refine⟨_,w1.heap.size,w1.heap.size+1,rfl,ae (PSt.begin (Blk.drewN k3 1) (Blk.drewN (by rw[HCB.out];exact k1) 1) (Blk.drewN (by rw[HCH.out];exact k2) 1)),ae (below_drewN kb 1),ae ⟨by omega,by omega,by omega⟩⟩)
   | (obtain⟨k1,k2,k3,kb⟩:=mH w1 ch cb #[.slice al N cl,.slice (some ⟨w1.heap.size+1,0,none⟩) n n,.slice (some ⟨w1.heap.size,0,none⟩) n n] 23 4 208
      refine⟨_,w1.heap.size+1,w1.heap.size,rfl,ae (PSt.begin (Blk.drewN k3 1) (Blk.drewN (by rw[HCB.out];exact k2) 1) (Blk.drewN (by rw[HCH.out];exact k1) 1)),ae (below_drewN kb 1),ae ⟨by omega,by omega,by omega⟩⟩))
 case rest=>
  clear hmb hmh;obtain⟨g,gk,gv,rfl,HP,HB2,HG⟩:=hcut;have HL2:=ae ((eM L).new HL1.out HB2.out);have CA:=ae (JD w1.heap.size g gk gv n N Z al cl m (List.replicate n false) (List.replicate n []) L wc HP.out HG.out HL2.out HN.out hNb (by omega) hZ hZ2 HM.out HRW.out (ConsP.begin n m));go_wp2_with fail;refine CA.out.mono ?_;rintro e wp ⟨rfl,kn,vl,hP,hc,hb⟩;have HPp:=ae hP;have HC:=ae hc;have HLp:=ae ((eM L).keep HL1.out fun k hF _=>(show wp.heap[k]? =w1.heap[k]? ∧Bl w1.heap.size k from⟨((HB2.out.trans hb).block k hF),hF⟩));have HBp:Hid (Below w.heap.size w wp):=ae (HB1.out.trans ((HB2.out.trans hb).mono hs1));have hsp:w1.heap.size≤wp.heap.size:=(HB2.out.trans hb).size;have HGp:Hid (w.heap.size≤g∧w.heap.size≤gk∧w.heap.size≤gv):=ae (by have:=HG.out;exact⟨by omega,by omega,by omega⟩);clear hP hc hb CA HP HL1 HL2 HB1 HB2 HG hs1 hsp;have S0:=ae ((Sx.nil wp).add (eR _ (.slice al N cl) (eM L)) HLp.out);have HO0:Hid (OwnS wp wp.heap.size 126 2 (Fr wp.heap.size) (.slice none 0 0) ((fe kn m Z (L.take 0)).map rU)):=ae (OwnS.nil _ _ _ _ _);have HB0:=ae (az wp.heap.size wp);clear HLp;go_wp2_with fail;go_loopw [6,27] (fun v i wr=>∃k:Nat,k≤N∧i=.int .i64 k∧Hid (OwnS wr wp.heap.size 126 2 (Fr wp.heap.size) v ((fe kn m Z (L.take k)).map rU))∧Hid (Below wp.heap.size wp wr)) (fun _ i _=>N-(intOf i).toNat)
  case atStart=>exact⟨0,by omega,rfl,HO0,HB0⟩
  case round=>
   clear HO0 HB0;obtain⟨k,hkN,rfl,HO,HB⟩:=hrel;have S1:=ae (S0.out.step HB.out);have HP1:=ae (HPp.out.new HB.out);have hw0:=HB.out.size;obtain⟨a6,n6,c6,rfl⟩:=HO.out.sl;by_cases hlt:k<N
   ·have hltI:(k:Int)<(N:Int):=by omega
    have hkl:k<L.length:=(by rw[HN.out];exact hlt);have hLk:L.getD k ([],[])∈L:=(by rw[af,ag hkl];exact aU _);obtain⟨hx64,hxn,hxd⟩:=HRW.out _ hLk;obtain⟨b,o,a1,q1,c1,a2,q2,c2,rfl,_,hb,he0,he1,hE1,hE2,hq1,hq2⟩:=lM (S1.out.rep 0 rfl) HN.out hlt;have hz:=Eh HC.out HM.out hxn hxd;have hxl:(L.getD k ([],[])).2.length=Z:=(by rw[hxd];exact eB aN fun c hc=>(HM.out c (hxn c hc)).1);have hxb:By (L.getD k ([],[])).2:=(by rw[hxd];exact(df (D:=Z) (Byt.zero Z) fun c hc=>HM.out c (hxn c hc)).2);obtain rfl:q2=Z:=(by omega);obtain⟨a1',c1',e1,hR1,-⟩:=dB hE1 hq1.symm;injection e1 with e1 _ e3;subst e1 e3;obtain⟨a2',c2',e1,hR2,hnil2,-⟩:=gB hE2 hxl;injection e1 with e1 _ e3;subst e1 e3;have hba:=(az wr.heap.size wr).alloc (ah _) (.cells #[.slice a1 q1 c1,.slice a2 q2 c2] 126);have hP1:=HP1.out.new hba;have hK:=Blk.new wr 126 #[.slice a1 q1 c1,.slice a2 q2 c2];have k0:=hK.cell 0;have k1:=hK.cell 1
    have CL:=ae (xj g n q1 q2 (.slice (some ⟨b,o,none⟩) N cl) (some ⟨gk,0,none⟩) (some ⟨gv,0,none⟩) a1 a2 n n c1 c2 kn vl (L.getD k ([],[])).1 (L.getD k ([],[])).2 _ hP1.blk hP1.rdk hP1.rdv (hR1.below hba (ah _) |>.more hba.size) (hR2.below hba (ah _) |>.more hba.size) hnil2 hZ2 (by omega) (by omega) hxn (fun d hd hk=>by
     have:=(HC.out d (hxn d hd)).1 hk;rw[this];exact HM.out d (hxn d hd)) hxb)
    rw[hz] at CL;have HT:=ae (FK (kn:=kn) (m:=m) (Z:=q2) hkl);have hul:(dA kn (L.getD k ([],[])).1).length≤64:=aQ (List.length_filter_le _ _) hx64
    have hrl:((fe kn m q2 (L.take k)).map rU).length≤1000000:=by
     rw[aG];exact aQ zO (by rw[aI];omega)
    have HSL:Hid ((bz m (dA kn (L.getD k ([],[])).1) (List.replicate q2 0)).length=q2):=ae (eB aN fun c hc=>(HM.out c (hxn c (List.mem_filter.1 hc).1)).1);have HB1:=ae (HB.out.trans (hba.mono hw0));have HO1:=ae (HO.out.new hba);have hw1:wr.heap.size≤(wr.alloc (.cells #[.slice a1 q1 c1,.slice a2 q2 c2] 126)).heap.size:=hba.size;unfold uh at HT;clear hba hP1 hK hxn hxd hx64 hkl hLk hE1 hE2 hq1 hq2 hz hxl hxb hR1 hR2 HO HB HP1 S1;generalize L.getD k ([],[])=x at*;generalize fe kn m q2 (L.take k)=LL at*;generalize hLn:fe kn m q2 (L.take (k+1))=LN at*;have HLN:=ae hLn;clear hLn;go_wp2_with fail;generalize wr.alloc (.cells #[.slice a1 q1 c1,.slice a2 q2 c2] 126)=wa at*;refine CL.out.mono ?_;rintro e w2 ⟨v1,v2,rfl,hO1,hO2,hb2⟩;obtain⟨a3,c3,rfl⟩:=hO1.lenA;obtain⟨a4,c4,rfl,hRd,-⟩:=hO2.rd2 HSL.out;have hRS:(rU (dA kn x.1,bz m (dA kn x.1) (List.replicate q2 0))).ok w2 (Fr wa.heap.size) [.slice a3 (dA kn x.1).length c3,.slice a4 q2 c4]:=nJ (gI hO1) (eY hO2);have hbc:=(az w2.heap.size w2).alloc (ah _) (.cells #[.slice a3 (dA kn x.1).length c3,.slice a4 q2 c4] 126);have HRS:=ae ((rU (dA kn x.1,bz m (dA kn x.1) (List.replicate q2 0))).new hRS hbc);have HRD:=ae ((hRd.below hbc (ah _)).more hbc.size);have hwa2:=hb2.size;have HB3:=ae (HB1.out.trans ((hb2.mono (show wp.heap.size≤wa.heap.size by omega)).trans (hbc.mono (show wp.heap.size≤w2.heap.size by omega))));have HO3:=ae ((HO1.out.new hb2).new hbc);have hK:=Blk.new w2 126 #[.slice a3 (dA kn x.1).length c3,.slice a4 q2 c4];have p0:=hK.cell 0;have p1:=hK.cell 1;have hw3:=hbc.size;have hcc:q2≤c4∧c4≤maxLen:=(by obtain⟨_,_,e,_,_,h3⟩:=gB (eY hO2) HSL.out;injection e with _ _ e;subst e;exact h3);have HRX:Hid ((rU (dA kn x.1,bz m (dA kn x.1) (List.replicate q2 0))).ok (w2.alloc (.cells #[.slice a3 (dA kn x.1).length c3,.slice a4 q2 c4] 126)) (fun b=>Fr wp.heap.size b∧some b≠(Value.slice a6 n6 c6).ownBlock) [.slice a3 (dA kn x.1).length c3,.slice a4 q2 c4]):=ae (HO1.out.off HRS.out fun b hb=>⟨aQ (aQ hw0 hw1) hb,.inr hb⟩);clear hRS hbc hRd hb2 HB1 HO1 hK hO1 hO2 CL k0 k1;by_cases h0:(dA kn x.1).length=0
    ·have hu0:dA kn x.1=[]:=List.eq_nil_of_length_eq_zero h0
     have hs0:bz m (dA kn x.1) (List.replicate q2 0)=List.replicate q2 0:=(by rw[hu0];rfl);rw[hs0] at HRD;rw[if_pos h0] at HT;rw[h0] at HRD HB3 HO3 p0 p1 ⊢;have CZ:=ae (zQ q2 c4 _ a4 _ HRD.out hcc.1 hcc.2);clear HRD HRS HRX h0 hu0 hs0 HSL hul;go_wp2_with fail;generalize w2.alloc (.cells #[.slice a3 0 c3,.slice a4 q2 c4] 126)=w3 at*;refine CZ.out.mono ?_;rintro e w4 ⟨rfl,j,rfl⟩;have HB4:=ae (below_drewN HB3.out j);have HO4:=ae (HO3.out.drewN j);clear p0 p1;generalize w3.drewN j=w5 at*;have hk1:fe kn m q2 (L.take (k+1))=LL:=(by rw[HLN.out,HT.out]);rw[←hk1] at HO4;clear hk1;go_wp2_with fail;go_roundw
     case rel=>(try((repeat apply Exists.intro);refine⟨?_,rfl⟩));exact⟨k+1,by omega,by go_num,HO4,HB4⟩
     case measure=>simp[intOf];omega
    ·rw[if_neg h0] at HT
     have h0I:(0:Int)<(((dA kn x.1).length:Nat):Int):=(by omega);clear h0 HRD;generalize dA kn x.1=uk at*;generalize bz m uk (List.replicate q2 0)=sm at*;generalize uk.length=q3 at*;go_upto_region 10 with fail;generalize w2.alloc (.cells #[.slice a3 q3 c3,.slice a4 q2 c4] 126)=w3 at*;have hw03:wp.heap.size≤w3.heap.size:=HB3.out.size;clear HRS
     go_wp2_with (at_builtin;refine dJ (w:=w3) (w1:=w3) rfl _ _ rfl underlying124 D5 rfl (by decide) (by decide) HO3.out (az _ _) hw03 hrl (R:=rU (uk,sm)) HRX.out rfl rfl rfl ?_)
     intro v6 w6 hO6 hb6;have hk1:(fe kn m q2 (L.take (k+1))).map rU=LL.map rU++[rU (uk,sm)]:=(by rw[HLN.out,HT.out,aW];rfl);rw[←hk1] at hO6;have HO6:=ae hO6;have HB6:=ae (HB3.out.trans hb6);clear hO6 hb6 HO3 HRX HB3 hk1;obtain⟨b6,n6,c6,rfl⟩:=HO6.out.sl;go_wp2_with fail;go_roundw
     case rel=>(try((repeat apply Exists.intro);refine⟨?_,rfl⟩));exact⟨k+1,by omega,by go_num,HO6,HB6⟩
     case measure=>simp[intOf];omega
   ·obtain rfl:k=N:=by omega
    rw[aO (by rw[HN.out];exact ah _)] at HO;have kg1:=HP1.out.blk.cell 1;have kg2:=HP1.out.blk.cell 2;go_wp2_with fail
    go_quiet (fail)
    go_wp2_with fail
    (try simp only[Exit.inBlock,Exit.then])
    refine bodyPost_ret (yc rfl _ _ _) rfl ?_;obtain⟨g1,g2,g3⟩:=HGp.out;refine⟨g,gk,gv,wp.heap.size,_,kn,vl,rfl,(HP1.out).new (below_drewN (az _ _) _),HC.out,⟨g1,g2,g3⟩,?_,HO.out.drewN _,below_drewN (HBp.out.trans (HB.out.mono HBp.out.size)) _⟩;obtain⟨hs,h1,-⟩:=HPp.out.hs;exact⟨HPp.out.blk.lt,HPp.out.knb.lt,h1.lt⟩
end Go.Proofs.YtofgapdnadbgkaaGreatDoor
