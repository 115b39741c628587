import Derived.Test.YtgccllbnfngpcaaGreatDoorW9
set_option linter.unusedVariables false
set_option maxRecDepth 100000
set_option maxHeartbeats 400000000
namespace Go.Proofs.YtgccllbnfngpcaaGreatDoor
open Go.RowKit _root_.Go.Proofs.Tryz List
open Value (int slice pointer bool)
open IntKind (i64)
open Ending (returned)
open Obj (cells)
theorem nC{w:World}{ops:Array Oper}{rest:List Oper}{o:Oper}{a:Act}{Q:Exit->Act->World->Prop}(hgd:o.guard=none)(s x:Operand){C B m c:Nat}{v:Value}{ad:Option Addr}{xs ys:List Nat}
 (ho:o.op=.call { callee:=.builtin .append,args:=#[s,x],argTypes:=#[30,30] })
 (h:OwnB w C v xs)(hC:C<=w.heap.size)(hl:xs.length+m<=1000000)(hs:a.eval s=v)(hx:a.eval x=slice ad m c)(hnil:ad=none->c=0)(hr:Rd w B ad m (bF ys))
 (K:∀v' w2,OwnB w2 C v' (xs++ys)->Below C w w2->w.grownBy w2 v.ownBlock->(v'.ownBlock=v.ownBlock\/v'.ownBlock=some w.heap.size)->wpList prog ops Q rest (a.put o.dst v') w2):
 wpList prog ops Q (o :: rest) a w:=by
 have hm:m=ys.length:=by rw[<-hr.1,bI]
 refine vw (P:=prog) w hgd s x 30 ho C 5 (.int .u8 0) 1 underlying30 iQ rfl v xs.length (bF xs) hs h B ad m c (bF ys) hx hnil hr (iy ys) (by omega) (by unfold maxLen;omega) hC fun v' w2 hown hg hat=> ?_;refine K v' w2 ?_ ((az _ _).grown hg hC fun g hg=>(h.lt g hg).1) hg hat;unfold OwnB;rw[aH,<-hm];have e:bF (xs++ys)=bF xs++bF ys:=by unfold bF;rw[aQ]
 rw[e];exact hown
theorem fI{w:World}{ops:Array Oper}{rest:List Oper}{o:Oper}{a:Act}{Q:Exit->Act->World->Prop}(hgd:o.guard=none)(s x:Operand){C y:Nat}{i:Int}{v:Value}{xs:List Nat}(hi:i=(y:Int))
 (ho:o.op=.call { callee:=.builtin .append,args:=#[s,x],argTypes:=#[30,30] })
 (h:OwnB w C v xs)(hC:C<=w.heap.size)(hl:xs.length<=1000000)(hs:a.eval s=v)(hx:a.eval x=slice (some ⟨w.heap.size,0,none⟩) 1 1)
 (K:∀v' w2,OwnB w2 C v' (xs++[y])->Below C w w2->wpList prog ops Q rest (a.put o.dst v') w2):
 wpList prog ops Q (o :: rest) a (w.alloc (cells #[.int .u8 i] 5)):=by
 subst hi;have hba:=(az w.heap.size w).alloc (ah _) (cells #[.int .u8 (y:Int)] 5);have h1:=h.below hba;have hC1:=aO hC hba.size;have hcell:=dZ w #[.int .u8 (y:Int)] 5 0;have hbC:=hba.mono hC;generalize w.alloc (cells #[.int .u8 (y:Int)] 5)=w1 at*;refine jN (P:=prog) w1 hgd s x 30 ho C 5 (.int .u8 0) 1 underlying30 iQ rfl v xs.length (bF xs) hs h1 w.heap.size (.int .u8 (y:Int)) hx hcell rfl (by omega) (by unfold maxLen;omega) hC1 fun v' w2 hown hg hat=> ?_;refine K v' w2 ?_ (hbC.trans ((az _ _).grown hg hC1 fun g hg=>(h1.lt g hg).1));unfold OwnB;rw[aH];have e:bF (xs++[y])=bF xs++[.int .u8 (y:Int)]:=by unfold bF;rw[aQ];rfl
 rw[e];exact hown
theorem Ke(n:Nat):∀(s j:Nat),j<s->(bT n s).getD (s-1-j) 0=n/256 ^ j%256:=by
 intro s
 induction s with
 | zero=>intro j h;omega
 | succ s ih=>
   intro j h;by_cases hj:j=s
   ·subst hj;rw[show j+1-1-j=0 by omega];rfl
   ·rw[show s+1-1-j=(s-1-j)+1 by omega]
    exact ih j (by omega)
theorem rF(n s m:Nat)(hm:m<s):(bT n s).take (s-m)=(bT n s).take (s-(m+1))++[n/256 ^ m%256]:=by
 have hk:s-(m+1)<(bT n s).length:=by rw[cG];omega
 have e:s-m=s-(m+1)+1:=by omega
 rw[e,aN hk];congr 2;have:=Ke n s m hm;rw[show s-1-m=s-(m+1) by omega,af,ag hk] at this;exact this
theorem wQ(v:Value)(xs:List Nat)(C n s:Nat)(w:World)(ho:OwnB w C v xs)(hC:C<=w.heap.size)(hn:n<4294967296)(hs:s<=4)(hl:xs.length<=1000):
 Calls prog 227 #[v,int i64 n,int i64 s] w fun e w'=>∃v',e=returned v'/\OwnB w' C v' (xs++bT n s)/\Below C w w':=by
 have HO0:Hid (OwnB w C v (xs++(bT n s).take (s-s))):=ae (by rw[Nat.sub_self,take_zero,append_nil];exact ho);have HB0:Hid (Below C w w):=ae (az _ _);have hs1:IntKind.i64.wrap ((s:Int)-1)=(s:Int)-1:=by rw[IntKind.wrap_i64];omega
 obtain⟨a0,c0,rfl,-⟩:=ho.rd;clear ho;go_enter func227,ntmps227;go_wp2_with fail;go_loopw [0,7] (fun u i wr=>∃m:Nat,m<=s/\i=int i64 ((m:Int)-1)/\Hid (OwnB wr C u (xs++(bT n s).take (s-m)))/\Hid (Below C w wr)) (fun _ i _=>(intOf i+1).toNat)
 case atStart=>exact⟨s,ah _,rfl,HO0,HB0⟩
 case round=>
  clear HO0 HB0 hs1;obtain⟨m,hm,rfl,HO,HB⟩:=hrel;have hCw:C<=wr.heap.size:=aO hC HB.out.size;by_cases hm0:m=0
  ·subst hm0
   rw[Nat.sub_zero,aJ (by rw[cG];exact ah _)] at HO;generalize hLe:xs++bT n s=L at*;have HLE:=ae hLe;clear hLe;obtain⟨au,cu,rfl,-⟩:=HO.out.rd;go_wp2_with fail;go_ret;exact⟨_,rfl,by rw[HLE.out];exact HO.out,HB.out⟩
  ·obtain⟨q,rfl⟩:∃q,m=q+1:=⟨m-1,by omega⟩
   have hml:(xs++(bT n s).take (s-(q+1))).length<=1000000:=(by rw[aH,aG,cG];omega);have HT:Hid (xs++(bT n s).take (s-q)=xs++(bT n s).take (s-(q+1))++[n/256 ^ q%256]):=ae (by rw[rF n s q (by omega),append_assoc]);generalize xs++(bT n s).take (s-(q+1))=L at*;obtain⟨au,cu,rfl,-⟩:=HO.out.rd;have hcase:q=0\/q=1\/q=2\/q=3:=(by omega);rcases hcase with rfl | rfl | rfl | rfl
   ·go_wp2_with (at_builtin;refine fI (w:=wr) (C:=C) (y:=n%256) rfl _ _ ?hi rfl HO.out hCw hml rfl rfl ?_)
    case hi=>omega
    intro v2 w2 hO2 hb2;have HO2:Hid (OwnB w2 C v2 (xs++(bT n s).take (s-0))):=ae (by rw[HT.out,show n/256 ^ 0%256=n%256 by simp];exact hO2);have HB2:=ae (HB.out.trans hb2);clear hO2 hb2 HO HB HT;go_wp2_with fail;go_roundw
    case rel=>exact⟨0,by omega,by go_num,HO2,HB2⟩
    case measure=>simp[intOf]
   ·go_wp2_with (at_builtin;refine fI (w:=wr) (C:=C) (y:=n/256%256) rfl _ _ ?hi rfl HO.out hCw hml rfl rfl ?_)
    case hi=>omega
    intro v2 w2 hO2 hb2;have HO2:Hid (OwnB w2 C v2 (xs++(bT n s).take (s-1))):=ae (by rw[HT.out,show n/256 ^ 1%256=n/256%256 by simp];exact hO2);have HB2:=ae (HB.out.trans hb2);clear hO2 hb2 HO HB HT;go_wp2_with fail;go_roundw
    case rel=>exact⟨1,by omega,by go_num,HO2,HB2⟩
    case measure=>simp[intOf]
   ·go_wp2_with (at_builtin;refine fI (w:=wr) (C:=C) (y:=n/65536%256) rfl _ _ ?hi rfl HO.out hCw hml rfl rfl ?_)
    case hi=>omega
    intro v2 w2 hO2 hb2;have HO2:Hid (OwnB w2 C v2 (xs++(bT n s).take (s-2))):=ae (by rw[HT.out,show n/256 ^ 2%256=n/65536%256 by simp];exact hO2);have HB2:=ae (HB.out.trans hb2);clear hO2 hb2 HO HB HT;go_wp2_with fail;go_roundw
    case rel=>exact⟨2,by omega,by go_num,HO2,HB2⟩
    case measure=>simp[intOf]
   ·go_wp2_with (at_builtin;refine fI (w:=wr) (C:=C) (y:=n/16777216%256) rfl _ _ ?hi rfl HO.out hCw hml rfl rfl ?_)
    case hi=>omega
    intro v2 w2 hO2 hb2;have HO2:Hid (OwnB w2 C v2 (xs++(bT n s).take (s-3))):=ae (by rw[HT.out,show n/256 ^ 3%256=n/16777216%256 by simp];exact hO2);have HB2:=ae (HB.out.trans hb2);clear hO2 hb2 HO HB HT;go_wp2_with fail;go_roundw
    case rel=>exact⟨3,by omega,by go_num,HO2,HB2⟩
    case measure=>simp[intOf]
theorem M3{l:List Nat}{w:World}{F:Nat->Prop}{a:Option Addr}{m c k:Nat}(h:(rB l).ok w F [slice a m c])(hk:k<=m):(rB (l.take k)).ok w F [slice a k k]:=by
 obtain⟨a',n,c',e,h1,h2,h3,h4,h5⟩:=h;obtain⟨⟨rfl,rfl,rfl⟩,-⟩:(a=a'/\m=n/\c=c')/\True:=by injection e with e _;injection e with e1 e2 e3;exact⟨⟨e1,e2,e3⟩,trivial⟩
 refine⟨a,k,k,rfl,ah _,by omega,fun e=>by have:=h3 e;omega,?_,fun hn=> ?_⟩
 ·rw[bI] at h4 ⊢
  rw[aG];omega
 ·obtain⟨b,o,e1,hF,hc⟩:=h5 (by omega)
  refine⟨b,o,e1,hF,fun i u hu=>hc i u ?_⟩;unfold bF at hu ⊢;rw[List.getElem?_map,List.getElem?_take] at hu;split at hu
  ·rw[List.getElem?_map];exact hu
  ·cases hu
theorem vB{q:Nat}:∀ {L:List (List Nat)},(∀x∈L,x.length=q)->L.flatten.length=L.length*q:=by
 intro L
 induction L with
 | nil=>intro _;simp
 | cons x L ih=>intro h;rw[flatten_cons,aH,h x (by simp),ih fun y hy=>h y (by simp[hy]),length_cons,Nat.succ_mul];omega
theorem Ko{q n:Nat}(hq:1<=q):n<=iB q n*q:=by
 unfold iB;split
 ·omega
 ·have h:=Nat.div_add_mod (n-1) q
  have h2:=Nat.mod_lt (n-1) (show 0<q by omega);rw[Nat.succ_mul,Nat.mul_comm];omega
theorem OwnB.sl{w:World}{C:Nat}{v:Value}{l:List Nat}(h:OwnB w C v l):∃a n c,v=slice a n c/\l.length=n:=by
 obtain⟨a,c,e,_⟩:=h.rd;exact⟨a,_,c,e,rfl⟩
theorem DD(K H Z:Nat)(L:List (List Nat))(F:Nat->Prop)(a:Option Addr)(N c n:Nat)(w:World)(hk:eD K H Z=true)(hx:(rM L).ok w F [slice a N c])(hLN:L.length=N)(hN:N=iB (K*Z) n)(hL:∀x∈L,x.length=K*Z)(hn:n<=1000):
 Calls prog 115 #[cE K H Z,slice a N c,int i64 n] w fun e w'=>∃v,e=returned (.tuple #[v,bool true])/\(rB (L.flatten.take n)).ok w' (Fr w.heap.size) [v]/\Below w.heap.size w w':=by
 have hok:=aZ hk;obtain⟨a1,c1,e1,hM,-⟩:=fM hx hLN;injection e1 with e1 _ e3;subst e1 e3;have CM:=ae fun w=>fS K H Z w;rw[hk] at CM;have CC:=ae fun w=>kN K H Z n w hk (by omega);rw[<-hN] at CC;have CS:=ae fun w=>pG K H Z w (by omega) (by omega);have hq1:1<=K*Z:=bn (show 1<=K by omega) (show 1<=Z by omega);have hq2:K*Z<=16*24:=bn (by omega) (by omega);have hcn:=EO (K*Z) n;rw[<-hN] at hcn;have hge:=Ko (n:=n) hq1;rw[<-hN] at hge;have HFL:=ae (vB hL);have HFT:=ae fun k=>vB (L:=L.take k) (q:=K*Z) fun x hx=>hL x (bD hx);have hNq:N*(K*Z)<=1000*384:=bn (by omega) (by omega)
 have S0:Hid (Sx w (w.alloc (cells #[int i64 K,int i64 H,int i64 Z] 25)) [bQ w.heap.size 25 #[int i64 K,int i64 H,int i64 Z],uH a N L]):=
  ae (((((Sx.nil w).add (uH a N L) hM).alloc _).add (bQ _ _ _) (Blk.new w 25 #[int i64 K,int i64 H,int i64 Z])))
 have hs0:w.heap.size<=(w.alloc (cells #[int i64 K,int i64 H,int i64 Z] 25)).heap.size:=by simp
 have HLN:=ae hLN;have HL:=ae hL;clear hx hM hok hk hL hLN hN;unfold cE at CM CC CS ⊢;generalize K*Z=q at*;go_enter func115,ntmps115;go_wp2_with fail;generalize w.alloc (cells #[int i64 K,int i64 H,int i64 Z] 25)=w0 at*;refine(CM.out _).mono ?_;rintro e w1 ⟨rfl,hb⟩;have HB1:=ae hb;have S1:=ae (S0.out.step hb);obtain⟨k0,k1,k2⟩:=pF (S1.out.blk 0 rfl);clear hb CM;go_wp2_with fail;refine(CC.out _).mono ?_;rintro e w2 ⟨rfl,hb⟩;have HB2:=ae (HB1.out.trans (hb.mono HB1.out.size));have HO2:Hid (OwnB w2 w0.heap.size (slice none 0 0) (L.take 0).flatten):=ae (OwnB.nil _ _);clear hb CC S1 HB1 k0 k1 k2;go_wp2_with fail;go_loopw [8,28] (fun v i wr=>∃k:Nat,k<=N/\i=int i64 k/\Hid (OwnB wr w0.heap.size v (L.take k).flatten)/\Hid (Below w0.heap.size w0 wr)) (fun _ i _=>N-(intOf i).toNat)
 case atStart=>exact⟨0,by omega,rfl,HO2,HB2⟩
 case round=>
  clear HO2 HB2;obtain⟨k,hkn,rfl,HO,HB⟩:=hrel;have S1:=ae (S0.out.step HB.out);obtain⟨bv,nv,cv,rfl,hnv⟩:=HO.out.sl;have hfk:=HFT.out k;rw[aG,HLN.out] at hfk;by_cases hlt:k<N
  ·have hltI:(k:Int)<(N:Int):=by omega
   have hMk:RdM w0 w0.heap.size a N L:=S0.out.get 1 rfl;obtain⟨b,o,a',c',rfl,hb,hcell0,hrow0,hnil,hc1,hc2⟩:=hMk.at hlt;have hcell:wr.cell? ⟨b,o+k,none⟩=some (slice a' (L.getD k []).length c'):=(HB.out.cell (p:=⟨b,o+k,none⟩) hb).trans hcell0;have hrow:=ae (hrow0.below HB.out (ah _));have hkl:k<L.length:=(by rw[HLN.out];exact hlt);have hlen:(L.getD k []).length=q:=HL.out _ (by rw[af,ag hkl];exact aP hkl);rw[hlen] at hcell hrow;have HT:Hid ((L.take (k+1)).flatten=(L.take k).flatten++L.getD k []):=ae (by rw[aN hkl,flatten_append,af,ag hkl];simp);obtain⟨k0,k1,k2⟩:=pF (S1.out.blk 0 rfl);have hqq:((q:Int) != (q:Int))=false:=by simp
   have hbd:(L.take k).flatten.length+q<=1000000:=by
    have:min k N*q<=N*q:=Nat.mul_le_mul_right _ (Nat.min_le_right _ _);omega
   clear hMk hcell0 hrow0 hlen hkl hfk hnv;generalize L.getD k []=X at*;go_wp2_with fail;refine(CS.out _).mono ?_;rintro e w3 ⟨rfl,hb3⟩;have HB3:=ae (HB.out.trans (hb3.mono HB.out.size));have HO3:=ae (HO.out.below hb3);have hR3:=ae (hrow.out.below hb3 HB.out.size);have hs3:=HB3.out.size;clear hb3 HB HO hrow k0 k1 k2 S1
   go_wp2_with (at_builtin;refine nC rfl _ _ rfl HO3.out hs3 hbd rfl rfl hnil hR3.out ?_)
   intro v4 w4 hO4 hb4 _ _;rw[<-HT.out] at hO4;have HO4:=ae hO4;have HB4:=ae (HB3.out.trans hb4);clear hO4 hb4 HO3 HB3 hR3;obtain⟨b4,n4,c4,rfl,-⟩:=HO4.out.sl;go_wp2_with fail;go_roundw
   case rel=>exact⟨k+1,by omega,by go_num,HO4,HB4⟩
   case measure=>simp[intOf];omega
  ·obtain rfl:k=N:=by omega
   rw[aJ (by rw[HLN.out];exact ah _)] at HO hnv;have hnn:n<=nv:=(by rw[<-hnv,HFL.out,HLN.out];exact hge);have HR:=ae (M3 (fL HO.out) hnn);have hcp:=HO.out.caps;have hc2:(n:Int)<=(cv:Int):=(by omega);have hc3:(0:Int)<=(n:Int):=(by omega);clear hfk hnv hge;go_wp2_with fail;go_ret2;exact⟨_,rfl,(rB _).more HR.out fun b hb _=>aO hs0 hb,S1.out.1⟩
theorem xn(p:Option Addr)(n k m c d:Nat)(A B:List (List Nat))(a b:Option Addr)(w:World)(hF:Fp w p)(hA:RdM w w.heap.size a m A)(hB:RdM w w.heap.size b m B)(hWA:Wf n A)(hWB:Wf k B)(hn:n<=64)(hk:k<=64)(hm:m<=1000000)(h0:0<m):
 Calls prog 215 #[.pointer p,slice a m c,slice b m d] w fun e w'=>∃v,e=returned (.tuple #[v,int i64 (jV n A B:Nat)])/\MOwn w' w.heap.size v (jW n A B)/\Below w.heap.size w w':=by
 have C1:=ae (yJ n m A _ a c w hA hWA hn hm);have C2:=ae (yJ k m B _ b d w hB hWB hk hm);have C3:=ae (xx A _ a m c w hA hm);rw[lK hWA (fun e=>by rw[e] at hA;have:=hA.len;simp at this;omega)] at C3;have C4:=ae (EE A _ a m c w hA (ah _) (fun l hl=>by have:=(hWA l hl).1;omega) hm);have hne:((m:Int) != (m:Int))=false:=by simp
 have hm0:((m:Int) == 0)=false:=by rw[beq_eq_false_iff_ne];omega
 have HB:=ae hB;have HLA:=ae hA.len;have HLB:=ae hB.len;have HWA:=ae hWA;have HWB:=ae hWB;have HF:=ae hF;have HAB:Hid (A.length=B.length):=ae (by rw[hA.len,hB.len]);clear hA hB hWA hWB hF;go_enter func215,ntmps215;go_wp2_with fail;refine C1.out.mono ?_;rintro e w1 ⟨rfl,rfl⟩;go_wp2_with fail;refine C2.out.mono ?_;rintro e w1 ⟨rfl,rfl⟩;go_wp2_with fail;refine C3.out.mono ?_;rintro e w1 ⟨rfl,rfl⟩;go_wp2_with fail;refine C4.out.mono ?_;rintro e w1 ⟨g,c',rfl,hM,hb⟩;have HM0:Hid (MOwn w1 w.heap.size (slice (some ⟨g,0,none⟩) m c') (ou A B 0)):=ae hM;have HBL:=ae hb;have hgG:w.heap.size<=g:=by obtain⟨g2,e,h1,_⟩:=hM.form h0;injection e with e;injection e with e;omega
 clear hM hb C1 C2 C3 C4;generalize hG:w.heap.size=G at*;have HG:=ae hG;clear hG;go_wp2_with fail;go_loopw [10,43] (fun _ i wr=>∃r:Nat,r<=m/\i=int i64 r/\Hid (MOwn wr G (slice (some ⟨g,0,none⟩) m c') (ou A B r))/\Hid (Below G w wr)) (fun _ i _=>m-(intOf i).toNat)
 case atStart=>exact⟨0,by omega,rfl,HM0,HBL⟩
 case round=>
  clear HM0 HBL;obtain⟨r,hr,rfl,HM,HBL⟩:=hrel;have hGr:G<=wr.heap.size:=(by have:=HBL.out.size;have:=HG.out;omega);by_cases hrm:r<m
  ·have hrmI:(r:Int)<(m:Int):=by omega
   have hrA:r<A.length:=(by rw[HLA.out];exact hrm);have hrow:=Gl HAB.out hrA;obtain⟨ar,cr,hcr,hfr,hor⟩:=HM.out.at2 hrm (r:=n) (by rw[hrow];exact(HWA.out.get hrA).1);rw[hrow] at hor;obtain⟨bB,oB,aB,cB,rfl,hbB,hcB,hrB,hnB,-,-⟩:=(HB.out.below HBL.out (ah _)).at hrm;have hgB:=HWB.out.get (i:=r) (by rw[<-HAB.out];exact hrA);have hgA:=HWA.out.get hrA;rw[hgB.1] at hcB hrB;have HST:=ae (Gn HAB.out hrA);have HOR:=ae hor;have HRB:Hid (Rd wr.drew G aB k (bF (B.getD r []))):=ae hrB;have HNB:=ae hnB
   have hhd:Hid ((Value.slice ar n cr).ownBlock=none\/(Value.slice ar n cr).ownBlock≠some g):=ae (by
    obtain⟨vs,h⟩:=HM.out;have:=own_ne hor h.hd uG;simpa[Value.ownBlock] using this)
   have hown:wr.drew.ownsRow G 5 1 (slice ar n cr) n (bF (A.getD r [])):=by
    have h:=hor;unfold OwnB at h;rw[hgA.1] at h;exact h
   have hhb:Hid ((Value.slice ar n cr).ownBlock≠some bB):=ae (fun e=>by have:=(hown.lt _ e).1;omega);have HOW:=ae hown;have HGA:=ae hgA;have HGB:=ae hgB;have HONE:=ae (iy (B.getD r []));have hgr:g<wr.heap.size:=(by obtain⟨g2,e,_,h2⟩:=HM.out.form h0;injection e with e;injection e with e;omega);clear hor hrow hrB hnB hown hgA hgB;have HCR:=ae hcr;have HFR:=ae hfr;have HCB:=ae hcB;go_wp2_with fail
   go_region_law (first
    | (refine vU (P:=prog) (w:=wr.drew) rfl _ _ 30 rfl G 5 (.int .u8 0) 1 underlying30 iQ rfl (slice ar n cr) n (bF (A.getD r [])) rfl HOW.out G aB k cB (bF (B.getD r [])) rfl HNB.out HRB.out HONE.out (by omega) (by unfold maxLen;omega) (by exact hGr) ?_
       intro v' w2 hown2 hg2 hat2;obtain⟨a2,c2,rfl,-⟩:=mY hown2;have hgb2:w2.heap[g]? =wr.heap[g]? :=hg2.block g hgr (hhd.out.elim (fun h=>by rw[h];simp) (fun h e=>h e.symm));have kc:w2.cell? ⟨g,r,none⟩=some (slice ar n cr):=(World.cell?_of_block (w:=wr) (a:=⟨g,r,none⟩) hgb2).trans HCR.out;have hgb3:w2.heap[bB]? =wr.heap[bB]? :=hg2.block bB (by have:=hbB;have:wr.drew.heap.size=wr.heap.size:=rfl;omega) (fun e=>hhb.out e.symm);have kb:w2.cell? ⟨bB,oB+r,none⟩=some (slice aB k cB):=(World.cell?_of_block (w:=wr) (a:=⟨bB,oB+r,none⟩) hgb3).trans HCB.out;have kf:w2.frozen? ⟨g,r,none⟩=false:=(World.frozen?_of_block (w:=wr) (a:=⟨g,r,none⟩) hgb2).trans HFR.out))
   all_goals(
    have ho2:OwnB w2 G (slice a2 (n+k) c2) (A.getD r []++B.getD r []):=by
     unfold OwnB;rw[aH,HGA.out.1,HGB.out.1];have e:bF (A.getD r []++B.getD r [])=bF (A.getD r [])++bF (B.getD r []):=(by simp[bF]);rw[e];exact hown2
    have hg3:wr.grownBy w2 (Value.slice ar n cr).ownBlock:=grownBy_trans (ji (grownBy_refl wr _) 1) hg2;have hM3:=HM.out.reput hrm HCR.out hg3 ho2 (hat2.elim (fun h=>.inl h) (fun h=>.inr (by rw[h];rfl)));rw[HST.out] at hM3;have HB3:=ae ((HBL.out.trans (oI hg3 (fun g hg=>(HOR.out.lt g hg).1) hGr)).setCell (p:=⟨g,r,none⟩) hgG (slice a2 (n+k) c2));have HM3:=ae hM3;clear hM3 hg3 ho2 hown2 hg2 hat2 kc kf hgb2;clear HM HBL hcr hfr HOR HOW HRB HNB hhd HST HGA HGB HONE HCR HFR hcB;generalize w2.setCell ⟨g,r,none⟩ (slice a2 (n+k) c2)=w4 at*;go_wp2_with fail;go_roundw
    case rel=>exact⟨r+1,by omega,by go_num,HM3,HB3⟩
    case measure=>simp[intOf];omega)
  ·obtain rfl:r=m:=by omega
   have hS:ou A B r=dC A B:=(by rw[<-HLA.out];exact Cv HAB.out);rw[hS] at HM;clear hS hrm;have hWS:=ae (tN HAB.out HWA.out HWB.out);have HSL:Hid ((dC A B).length=r):=ae (by rw[eG HAB.out];exact HLA.out);have hF1:Hid (Fp wr p):=ae (HF.out.below HBL.out (by rw[HG.out];exact ah _));go_wp2_with fail;refine(Ap p wr hF1.out).mono ?_;rintro e w2 ⟨gf,rfl,hfl,hb⟩;have HM2:=ae (HM.out.new hb);have HB2:=ae (HBL.out.trans (hb.mono (by have:=HBL.out.size;have:=HG.out;omega)));have HFL:=ae hfl;clear hfl hb HM HBL hF1 HF;have hG2:G<=w2.heap.size:=(by have:=HB2.out.size;have:=HG.out;omega);have CR:=ae (vX gf (n+k) r n c' G (dC A B) (some ⟨g,0,none⟩) w2 HFL.out HM2.out hWS.out (by omega) hG2 hm (by omega));obtain⟨ls,hinv⟩:=iK hWS.out n;have hle:=hinv.le;rw[iL,HSL.out] at hle;have HWX:=ae hinv.wf;have HXL:Hid ((bV (dC A B) n).1.length=r):=ae (by rw[iL];exact HSL.out)
   have hrn:(bV (dC A B) n).2<=n:=by
    have:=hinv.up;rw[<-hinv.cnt];exact NV hinv.up hinv.lt
   have HC:Hid (jV n A B=if (bV (dC A B) n).2<n then 9 else if jc (bV (dC A B) n).1 (bV (dC A B) n).2 then 10 else 0):=ae rfl;have HR:Hid (jW n A B=if jV n A B=0 then ((bV (dC A B) n).1.take (bV (dC A B) n).2).map (List.drop n) else []):=ae rfl;have hcap:r<=c':=HM2.out.caps.2.1;clear hinv hWS HSL;generalize (bV (dC A B) n).1=X at*;generalize (bV (dC A B) n).2=q at*;go_wp2_with fail;refine CR.out.mono ?_;rintro e w3 ⟨rfl,hM,hb⟩;have HM3:=ae hM;have HB3:=ae (HB2.out.trans hb);clear hM hb HM2 HB2 CR HFL;have hqc:q<=c':=(by omega);by_cases hqn:q<n
   ·have hqnI:(q:Int)<(n:Int):=by omega
    have e1:jV n A B=9:=(by rw[HC.out,bf hqn]);have e2:jW n A B=[]:=(by rw[HR.out,e1,bg (by decide)]);have E1:=ae e1;have E2:=ae e2;clear HC HR e1 e2;go_wp2_with fail;go_ret2;exact⟨_,by rw[E1.out];rfl,by rw[E2.out];exact MOwn.nil _ _,by rw[HG.out];exact HB3.out⟩
   ·have hqnI:¬(q:Int)<(n:Int):=by omega
    obtain rfl:q=n:=(by omega);have hRD:=HM3.out.rdM.drop hcap hle;have HXD:Hid ((X.drop q).length=r-q):=ae (by rw[length_drop,HXL.out]);have HWD:Hid (Wf (q+k) (X.drop q)):=ae (fun x hx=>HWX.out x (mem_of_mem_drop hx));have HC2:Hid (jV q A B=if jc X q then 10 else 0):=ae (by rw[HC.out,bg (by omega)]);have hqq:¬(q:Int)<(q:Int):=(by omega);clear HC hqnI hqn;by_cases hcq:c'=q
    case' pos=>
     rw[bf hcq] at hRD;have HRD:=ae hRD;clear hRD;go_wp2_with fail
    case' neg=>
     rw[bg hcq] at hRD
     have hRD:RdM w3 w3.heap.size (some ⟨g,q,none⟩) (r-q) (X.drop q):=by
      simpa[Addr.add_lit] using hRD
     have HRD:=ae hRD;clear hRD;go_wp2_with fail
    all_goals(
     clear hcq;generalize hrt:r-q=t at*;have HRT:=ae hrt;have ht6:t<=1000000:=(by omega);clear hrt;go_loopw [13,71] (fun _ i wr=>∃j:Nat,j<=t/\i=int i64 j/\Hid (∃z,wr=w3.drewN z)/\Hid (∀y,y<j->iW ((X.drop q).getD y [])<0)) (fun _ i _=>t-(intOf i).toNat)
     case atStart=>exact⟨0,by omega,rfl,ae ⟨0,rfl⟩,ae (fun y h=>by omega)⟩
     case round=>
      obtain⟨j,hj,rfl,HJ,HN⟩:=hrel;obtain⟨z,hz⟩:=HJ.out;clear HJ;by_cases hjt:j<t
      ·have hjtI:(j:Int)<(t:Int):=by omega
       obtain⟨b1,o1,a1,c1,e1,hb1,hc1,hr1,-,-,-⟩:=HRD.out.at hjt;have k1:wr.cell? ⟨b1,o1+j,none⟩=some (slice a1 ((X.drop q).getD j []).length c1):=(by rw[hz];exact hc1);have hgj:=HWD.out.get (i:=j) (by rw[HXD.out];exact hjt);have CL:=ae (J5 ((X.drop q).getD j []) w3.heap.size a1 ((X.drop q).getD j []).length c1 wr (by rw[hz];exact hr1) (by unfold By;exact hgj.2) (by unfold maxLen;rw[hgj.1];omega));rw[hgj.1] at k1 CL;cases e1
       try simp only[Nat.zero_add] at k1
       have HYES:Hid (0<=iW ((X.drop q).getD j [])->jV q A B=10/\jW q A B=[]):=ae (fun h=>by
        have h1:jV q A B=10:=(by rw[HC2.out,Gp (by rw[HXD.out];exact hjt) h];rfl);exact⟨h1,by rw[HR.out,h1,bg (by decide)]⟩)
       have HNO:Hid (iW ((X.drop q).getD j [])<0->∀y,y<j+1->iW ((X.drop q).getD y [])<0):=ae (fun h y hy=>by
        rcases bq y j with h1 | h1
        ·exact HN.out y h1
        ·rw[show y=j by omega];exact h)
       have HZ:=ae hz;clear hc1 hr1 hgj HN hz;generalize iW ((X.drop q).getD j [])=ld at*;by_cases hld:0<=ld
       ·obtain⟨E1,E2⟩:=HYES.out hld
        have HE1:=ae E1;have HE2:=ae E2;clear E1 E2 HYES HNO;go_wp2_with fail;refine CL.out.mono ?_;rintro e w4 ⟨rfl,z2,rfl⟩;go_wp2_with fail;go_ret2;exact⟨_,by rw[HE1.out];rfl,by rw[HE2.out];exact MOwn.nil _ _,by rw[HG.out,HZ.out];exact below_drewN (below_drewN HB3.out z) z2⟩
       ·have HN2:=ae (HNO.out (by omega))
        clear HYES HNO;go_wp2_with fail;refine CL.out.mono ?_;rintro e w4 ⟨rfl,z2,rfl⟩;go_wp2_with fail;go_roundw
        case rel=>exact⟨j+1,by omega,by go_num,ae ⟨z+z2,by rw[HZ.out,World.drewN_drewN]⟩,HN2⟩
        case measure=>simp[intOf];omega
      ·obtain rfl:j=t:=by omega
       have HE1:Hid (jV q A B=0):=ae (by rw[HC2.out,Aj (fun y hy=>by have:=HN.out y (by rw[HXD.out] at hy;exact hy);omega)];rfl);have HM4:Hid (MOwn wr G (slice (some ⟨g,0,none⟩) r c') X):=ae (by rw[hz];exact HM3.out.drewN z);have HB4:Hid (Below G w wr):=ae (by rw[hz];exact below_drewN HB3.out z);have HE2:Hid (jW q A B=(X.take q).map (List.drop q)):=ae (by rw[HR.out,bf HE1.out]);clear HN hz HM3 HB3 HRD HC2 HR HRT;have HT4:=ae (HM4.out.take hle).rdM;have HTL:Hid ((X.take q).length=q):=ae (by rw[aG,HXL.out];omega);have HWT:Hid (Wf (q+k) (X.take q)):=ae (fun x hx=>HWX.out x (bD hx));have hq0:0<=q:=bu _;have HQL:Hid (((X.take q).map (List.drop q)).length=q):=ae (by rw[aC];exact HTL.out)
       have HSTP:Hid (∀y,y<q->((X.take q).map (List.drop q)).take (y+1)=((X.take q).map (List.drop q)).take y++[((X.take q).getD y []).drop q]):=ae (fun y hy=>by
        have hyl:y<((X.take q).map (List.drop q)).length:=by rw[HQL.out];exact hy
        have h1:((X.take q).map (List.drop q))[y]? =some (((X.take q).getD y []).drop q):=by
         rw[List.getElem?_map,getD_some (M:=X.take q) (by rw[HTL.out];exact hy)];rfl
        rw[ag hyl] at h1;rw[aN hyl,Option.some.inj h1])
       have HMO:Hid (MOwn wr wr.heap.size (slice none 0 0) (((X.take q).map (List.drop q)).take 0)):=ae (MOwn.nil _ _);have HBO:Hid (Below wr.heap.size wr wr):=ae (az _ _);have hGW:G<=wr.heap.size:=(by have:=HB4.out.size;have:=HG.out;omega);clear HM4 HXL HXD HWD HWX;generalize (X.take q).map (List.drop q)=RR at*;generalize X.take q=XT at*;rename World=>wo;go_wp2_with fail;go_loopw [14,16,83] (fun o _ i wr=>∃y:Nat,y<=q/\i=int i64 y/\Hid (MOwn wr wo.heap.size o (RR.take y))/\Hid (Below wo.heap.size wo wr)) (fun _ _ i _=>q-(intOf i).toNat)
       case atStart=>exact⟨0,by omega,rfl,HMO,HBO⟩
       case round=>
        clear HMO HBO;obtain⟨y,hy,rfl,HMO,HBO⟩:=hrel;by_cases hyq:y<q
        ·have hyqI:(y:Int)<(q:Int):=by omega
         obtain⟨b1,o1,a1,c1,e1,hb1,hc1,hr1,hn1,hl1,hm1⟩:=(HT4.out.below HBO.out (ah _)).at hyq;have hgy:=HWT.out.get (i:=y) (by rw[HTL.out];exact hyq);rw[hgy.1] at hc1 hr1 hl1;cases e1;rw[Nat.zero_add] at hc1;have hq1:1<=q:=(by omega);have hqc1:q<=c1:=(by omega);have hrr:=NC hr1 hl1 (n:=q) (by omega);rw[Nat.add_sub_cancel_left] at hrr;have hnn:=KZ hn1 hq1 hqc1;have hBs:wo.heap.size<=wr.heap.size:=HBO.out.size;have HST:=ae (HSTP.out y hyq);have hkk:q+k-q=k:=(by omega);have HMT:(RR.take y).length<=1000000:=(by rw[aG];omega);have hmm1:(c1:Int)<=9223372036854775807:=(by unfold maxLen at hm1;omega);clear hr1 hn1 hgy;generalize (XT.getD y []).drop q=Y at*;by_cases hcq1:c1=q
         case' pos=>
          rw[bf hcq1] at hrr hnn;have CC:=ae (dP Y wo.heap.size a1 k 0 wr hrr hBs (fun e=>rfl) (by omega));clear hrr hnn;go_wp2_with fail
         case' neg=>
          rw[bg hcq1] at hrr hnn;have CC:=ae (dP Y wo.heap.size (Option.map (fun x=>x.add q) a1) k (c1-q) wr hrr hBs hnn (by omega));clear hrr hnn;go_wp2_with fail
         all_goals(
          refine CC.out.mono ?_;rintro e w5 ⟨u,rfl,hu,hb5⟩;obtain⟨ua,uc,rfl,-⟩:=hu.rd;have HU:=ae hu;have HB5:=ae hb5;clear hu hb5 CC hcq1
          go_wp2_with (at_builtin;refine lm (w0:=wr) (w1:=w5) rfl _ _ rfl HMO.out HB5.out HU.out hBs HMT rfl rfl ?_)
          intro v' w6 hM6 hb6 hg6 hat6;rw[<-HST.out] at hM6;have HM6:=ae hM6;have HB6:=ae (HBO.out.trans hb6);clear hM6 hb6 hg6 hat6 HMO HBO HB5 HU HST;go_wp2_with fail;go_roundw
          case rel=>exact⟨y+1,by omega,by go_num,HM6,HB6⟩
          case measure=>simp[intOf];omega)
        ·obtain rfl:y=q:=by omega
         rw[aJ (by rw[HQL.out];exact ah _)] at HMO;have HFI:Hid (MOwn wr G u14 RR):=ae (HMO.out.base hGW);have HBF:=ae (HB4.out.trans (HBO.out.mono hGW));go_wp2_with fail;go_ret2;exact⟨_,by rw[HE1.out];rfl,by rw[HE2.out,HG.out];exact HFI.out,by rw[HG.out];exact HBF.out⟩)
def jG(Z:Nat)(x:List Nat)(K:Nat):List (List Nat):=(range K).map fun i=>(x.drop (i*Z)).take Z
theorem pR{K Z:Nat}{x:List Nat}(hx:By x)(hl:x.length=K*Z):Wf Z (jG Z x K)/\(jG Z x K).length=K:=by
 refine⟨fun r hr=> ?_,by unfold jG;simp⟩;obtain⟨i,hi,rfl⟩:=aW.1 hr;have hi:=bA.1 hi;have:=Nat.mul_le_mul_right Z (show i+1<=K by omega);rw[Nat.succ_mul] at this;exact⟨by rw[aG,length_drop];omega,fun y hy=>hx y (mem_of_mem_drop (bD hy))⟩
def wK(K H Z:Nat)(s:Int)(x:List Nat):List (List Nat):=jW (K+H) (dV K H Z s (range K)) (kD H Z (jG Z x K))
theorem mO{K H Z:Nat}{s:Int}{x:List Nat}(hk:eD K H Z=true)(hx:By x)(hl:x.length=K*Z)(hf:dc K H Z s (range K)=true):
 jV (K+H) (dV K H Z s (range K)) (kD H Z (jG Z x K))=0/\MidOK K H Z s (wK K H Z s x)/\∀i,i<K->gY K H Z s (wK K H Z s x) i=(jG Z x K).getD i []:=
 OM hk (pR hx hl).1 (pR hx hl).2 (aZ hf)
theorem BO(K H Z:Nat)(s:Int)(x:List Nat)(a:Option Addr)(n c:Nat)(w:World)(hk:eD K H Z=true)(hs0:0<=s)(hs1:s<4294967296)(hx:Rd w w.heap.size a n (bF x))(hb:By x)(hn:n=K*Z)(hc:n<=c)(hm:c<=maxLen)(hf:dc K H Z s (range K)=true):
 Calls prog 158 #[cE K H Z,.int .u32 s,slice a n c] w fun e w'=>∃g v,e=returned (.tuple #[pointer (some ⟨g,0,none⟩),int i64 0])/\w.heap.size<=g/\Blk w' g 269 #[int i64 K,int i64 H,int i64 Z,.int .u32 s,v]/\(rM (wK K H Z s x)).ok w' (Fr w.heap.size) [v]/\Below w.heap.size w w':=by
 have hok:=aZ hk;have hl:x.length=n:=by have:=hx.len;rwa [bI] at this
 obtain⟨hsc,hmid,-⟩:=mO hk hb (by rw[hl,hn]) hf;have CM:=ae fun w=>fS K H Z w;rw[hk] at CM;have CR:=ae fun w=>lZ K H Z s w hk hs0 hs1;rw[hf] at CR;have CF:=ae fun w=>qF K H Z w hk;have CX:=ae fun a c w (h:Rd w w.heap.size a K (bG (range K)))=>oG K H Z s (range K) a K c w hk hs0 hs1 h (fun i hi=>by have:=bA.1 hi;omega) (by omega);have HWF:=ae (qp (s:=s) (ids:=range K) hk fun i hi=>by have:=bA.1 hi;omega);have HSL:Hid ((dV K H Z s (range K)).length=K+H):=ae (by rw[ll,aY];omega);have HCW:=ae (EC (H:=H) (pR (K:=K) hb (by rw[hl,hn])).1);have HDL:=ae (pR (K:=K) (Z:=Z) hb (by rw[hl,hn])).2;have HDW:=ae (pR (K:=K) (Z:=Z) hb (by rw[hl,hn])).1;have hKZ:K*Z<=16*24:=bn (by omega) (by omega);have hKZI:(K:Int)*(Z:Int)=(n:Int):=by rw[hn,Int.natCast_mul]
 have HEN:Hid (wK K H Z s x=jW (K+H) (dV K H Z s (range K)) (kD H Z (jG Z x K))):=ae rfl
 have S0:Hid (Sx w (w.alloc (cells #[int i64 K,int i64 H,int i64 Z] 25)) [bQ w.heap.size 25 #[int i64 K,int i64 H,int i64 Z],kT a n (bF x)]):=
  ae (((((Sx.nil w).add (kT a n (bF x)) hx).alloc _).add (bQ _ _ _) (Blk.new w 25 #[int i64 K,int i64 H,int i64 Z])))
 have hs0':w.heap.size<(w.alloc (cells #[int i64 K,int i64 H,int i64 Z] 25)).heap.size:=by simp
 have hX:Hid (Rd w w.heap.size a n (bF x)):=ae hx;have HBX:=ae hb;have hK16:K<=16:=by omega
 have hH4:H<=4:=by omega
 have hZ24:Z<=24:=by omega
 have hK1:1<=K:=by omega
 have hZ1:1<=Z:=by omega
 have HNK:=ae hn;unfold maxLen at hm;have hmk:∀w:World,(Instr.makeSlice 30 (int i64 (Z:Int)) (int i64 (Z:Int))).run prog w=.ok (slice (some ⟨w.heap.size,0,none⟩) Z Z) (w.alloc (cells (bJ (replicate Z 0)) 5)):=fun w=>dD (n:=Z) (by omega) w;have HSC:=ae hsc
 have CSV:=ae fun (g c d:Nat) (a b:Option Addr) (w:World) (hF:Fld w g) (hA:RdM w w.heap.size a (K+H) (dV K H Z s (range K))) (hB:RdM w w.heap.size b (K+H) (kD H Z (jG Z x K)))=>
  (xn (some ⟨g,0,none⟩) (K+H) Z (K+H) c d (dV K H Z s (range K)) (kD H Z (jG Z x K)) a b w (Fp.of hF) hA hB HWF.out HCW.out (by omega) (by omega) (by omega) (by omega)).mono fun e w' (h:∃v,e=returned (.tuple #[v,int i64 (jV (K+H) (dV K H Z s (range K)) (kD H Z (jG Z x K)):Nat)])/\MOwn w' w.heap.size v (jW (K+H) (dV K H Z s (range K)) (kD H Z (jG Z x K)))/\Below w.heap.size w w')=>
    (by obtain⟨v,h1,h2,h3⟩:=h;rw[hsc] at h1;exact⟨v,h1,by rw[HEN.out];exact C9 h2,h3⟩:∃v,e=returned (.tuple #[v,int i64 ((0:Nat):Int)])/\(rM (wK K H Z s x)).ok w' (Fr w.heap.size) [v]/\Below w.heap.size w w')
 clear hx hl hok hk hf hb hsc hmid hn;unfold cE at CM CR CF CX ⊢;go_enter func158,ntmps158;go_wp2_with fail;generalize hw00:w.alloc (cells #[int i64 K,int i64 H,int i64 Z] 25)=w00 at*;clear hw00;refine(CM.out _).mono ?_;rintro e w01 ⟨rfl,hb⟩;have S01:=ae (S0.out.step hb);have hs01:w.heap.size<w01.heap.size:=aU hs0' hb.size;obtain⟨k0,k1,k2⟩:=pF (S01.out.blk 0 rfl);clear hb CM S0 hs0';go_wp2_with fail;refine(CR.out _).mono ?_;rintro e w0 ⟨rfl,hb⟩;have S0:=ae (S01.out.step hb);have hs0:w.heap.size<w0.heap.size:=aU hs01 hb.size;clear hb CR S01 k0 k1 k2;obtain⟨k0,k1,k2⟩:=pF (S0.out.blk 0 rfl);have HO0:Hid (OwnS w0 w0.heap.size 30 1 (Fr w0.heap.size) (slice none 0 0) ((replicate 0 (replicate Z 0)).map rB)):=ae (OwnS.nil _ _ _ _ _);have HB0:=ae (az w0.heap.size w0);go_wp2_with fail;go_loopw [8,31] (fun v i wr=>∃k:Nat,k<=H/\i=int i64 k/\Hid (OwnS wr w0.heap.size 30 1 (Fr w0.heap.size) v ((replicate k (replicate Z 0)).map rB))/\Hid (Below w0.heap.size w0 wr)) (fun _ i _=>H-(intOf i).toNat)
 case atStart=>exact⟨0,by omega,rfl,HO0,HB0⟩
 case round=>
  clear HO0 HB0 k0 k1 k2;obtain⟨k,hkn,rfl,HO,HB⟩:=hrel;have S1:=ae (S0.out.step HB.out);obtain⟨bv,nv,cv,rfl⟩:=HO.out.sl;obtain⟨k0,k1,k2⟩:=pF (S1.out.blk 0 rfl);have hw0:=HB.out.size;by_cases hlt:k<H
  ·have hltI:(k:Int)<(H:Int):=by omega
   have hsl:((replicate k (replicate Z 0)).map rB).length<=1000000:=(by simp;omega);have HRS:Hid ((replicate (k+1) (replicate Z 0)).map rB=(replicate k (replicate Z 0)).map rB++[rB (replicate Z 0)]):=ae (by rw[replicate_succ',aQ];rfl);have hZ0:=Blk.new wr 5 (bJ (replicate Z 0));have hba:=(az wr.heap.size wr).alloc (ah _) (cells (bJ (replicate Z 0)) 5);have HBA:=ae hba
   have HRB:Hid ((rB (replicate Z 0)).ok (wr.alloc (cells (bJ (replicate Z 0)) 5)) (fun b=>Fr w0.heap.size b/\some b≠(Value.slice bv nv cv).ownBlock) [slice (some ⟨wr.heap.size,0,none⟩) Z Z]):=ae (by
    have:=lQ (F:=fun b=>Fr w0.heap.size b/\some b≠(Value.slice bv nv cv).ownBlock) hZ0 ⟨hw0,fun e=>by have:=(HO.out.lt _ e.symm).2;omega⟩ (by rw[aI];unfold maxLen;omega)
    rwa [aI] at this)
   have hsz1:(wr.alloc (cells (bJ (replicate Z 0)) 5)).heap.size=wr.heap.size+1:=(by simp);clear hZ0 hba
   go_wp2_with (first
    | simp only[]
    | (at_builtin;refine fF (w:=wr) (w1:=wr.alloc (cells (bJ (replicate Z 0)) 5)) rfl _ _ rfl underlying45 dI rfl (by decide) (by decide) HO.out HBA.out hw0 hsl (R:=rB (replicate Z 0)) HRB.out rfl rfl (by rw[hsz1];rfl) ?_))
   intro v6 w6 hO6 hb6;rw[<-HRS.out] at hO6;have HO6:=ae hO6;have HB6:=ae (HB.out.trans hb6);clear hO6 hb6 HO HRB HBA S1 k0 k1 k2 HB;obtain⟨b6,n6,c6,rfl⟩:=HO6.out.sl;go_wp2_with fail;go_roundw
   case rel=>exact⟨k+1,by omega,by go_num,HO6,HB6⟩
   case measure=>simp[intOf];omega
  ·obtain rfl:k=H:=by omega
   have HO1:Hid (OwnS wr w0.heap.size 30 1 Any (slice bv nv cv) (((replicate k (replicate Z 0))++jG Z x 0).map rB)):=ae (by
    have:=HO.out.base (ah _) (G:=Any) fun _ _=>trivial;unfold jG;rw[range_zero,map_nil,append_nil];exact this)
   rename World=>wo;clear HO;go_wp2_with fail;go_loopw [8,42] (fun v i wr=>∃j:Nat,j<=K/\i=int i64 j/\Hid (OwnS wr w0.heap.size 30 1 Any v (((replicate k (replicate Z 0))++jG Z x j).map rB))/\Hid (Below w0.heap.size w0 wr)) (fun _ i _=>K-(intOf i).toNat)
   case atStart=>exact⟨0,by omega,rfl,HO1,HB⟩
   case round=>
    clear HO1 HB S1 k0 k1 k2 hw0;obtain⟨j,hjn,rfl,HO,HB⟩:=hrel;have S1:=ae (S0.out.step HB.out);obtain⟨bv,nv,cv,rfl⟩:=HO.out.sl;obtain⟨k0,k1,k2⟩:=pF (S1.out.blk 0 rfl);have hw0:=HB.out.size;by_cases hlj:j<K
    ·have hljI:(j:Int)<(K:Int):=by omega
     have hsl:(((replicate k (replicate Z 0))++jG Z x j).map rB).length<=1000000:=(by unfold jG;simp;omega);have hmul:=Nat.mul_le_mul_right Z (show j+1<=K by omega);rw[<-HNK.out,Nat.succ_mul] at hmul;obtain⟨b,p,rfl,hb,hpart⟩:=qG (S1.out.rd 1 rfl) (o:=j*Z) (k:=Z) (by omega) (by omega);obtain⟨b',p',e1,hbw,-⟩:=hX.out.2 (by omega);injection e1 with e1;injection e1 with e1 e2 _;subst e1 e2;have HRS:Hid (((replicate k (replicate Z 0))++jG Z x (j+1)).map rB=((replicate k (replicate Z 0))++jG Z x j).map rB++[rB ((x.drop (j*Z)).take Z)]):=ae (by unfold jG;simp[range_succ]);have hm1:(j:Int)*(Z:Int)=((j*Z:Nat):Int):=(by rw[Int.natCast_mul]);have hm2:((j:Int)+1)*(Z:Int)=((j*Z+Z:Nat):Int):=by rw[Int.add_mul,Int.one_mul,Int.natCast_add,Int.natCast_mul]
     have HRB:Hid ((rB ((x.drop (j*Z)).take Z)).ok wr (fun b=>Any b/\some b≠(Value.slice bv nv cv).ownBlock) [slice (some ⟨b,p+j*Z,none⟩) Z (c-j*Z)]):=ae (by
      obtain⟨h1,h2⟩:=hpart;refine⟨_,Z,c-j*Z,rfl,by omega,by unfold maxLen;omega,fun e=>(by cases e),h1,fun hn=> ?_⟩;obtain⟨b3,o3,e3,_,hc3⟩:=h2 hn;injection e3 with e3;injection e3 with e3 e4 _;subst e3 e4;exact⟨b,p+j*Z,rfl,⟨trivial,fun e=>by have:=(HO.out.lt _ e.symm).1;omega⟩,hc3⟩)
     have HW:=ae (az wr.heap.size wr);generalize ((replicate k (replicate Z 0))++jG Z x j).map rB=LL at*;generalize (x.drop (j*Z)).take Z=X at*;generalize hlo:j*Z=lo at*;clear hlo hpart;have hi1:(lo:Int)<=(lo:Int)+(Z:Int):=(by omega);have hi2:(lo:Int)+(Z:Int)<=(c:Int):=(by omega);have hi3:¬c=lo:=(by omega);have hi4:lo+Z-lo=Z:=by omega
     go_wp2_with (at_builtin;refine fF (w:=wr) (w1:=wr) rfl _ _ rfl underlying45 dI rfl (by decide) (by decide) HO.out HW.out hw0 hsl (R:=rB X) HRB.out rfl rfl rfl ?_)
     intro v6 w6 hO6 hb6;rw[<-HRS.out] at hO6;have HO6:=ae hO6;have HB6:=ae (HB.out.trans hb6);clear hO6 hb6 HO HRB S1 k0 k1 k2 HB;obtain⟨b6,n6,c6,rfl⟩:=HO6.out.sl;go_wp2_with fail;go_roundw
     case rel=>exact⟨j+1,by omega,by go_num,HO6,HB6⟩
     case measure=>simp[intOf];omega
    ·obtain rfl:j=K:=by omega
     have hrep:=HO.out.rep;have hlen:(kD k Z (jG Z x j)).length=j+k:=(by unfold kD;rw[aH,aI,HDL.out];omega);obtain⟨aR,cR,eR,hMR,-⟩:=fM (M:=kD k Z (jG Z x j)) hrep hlen;injection eR with e1 e2 e3;subst e1 e2 e3;have S2:=ae (S1.out.add (uH bv (j+k) (kD k Z (jG Z x j))) hMR);have hG2:w0.heap.size<=wr.heap.size:=hw0;clear hrep hlen hMR HO HB S1 hw0 k0 k1 k2;go_wp2_with fail;obtain⟨k0,k1,k2⟩:=pF (S2.out.blk 1 rfl);generalize hP:w.heap.size=P at*;have HP:=ae hP;clear hP
     go_region_held3 (fun w'=>w'.cell? ⟨P,0,none⟩=some (int i64 j)/\w'.cell? ⟨P,1,none⟩=some (int i64 k)/\w'.cell? ⟨P,2,none⟩=some (int i64 Z)) (go_keep) (first
      | (go_at_call 216
         refine(oZ _).mono ?_;rintro e wA ⟨g,rfl,hg,hF,hb⟩;have S3:=ae ((S2.out.drew.step hb).add (bQ g 337 o9) hF);obtain⟨n0,n1,n2⟩:=pF (S3.out.blk 2 rfl);clear hg hF hb)
      | (go_at_call 218
         refine(CF.out _).mono ?_;rintro e wB ⟨vf,rfl,hO,hb⟩;obtain⟨aF,cF,rfl,hr,-⟩:=dA (d9 hO) aY;have S4:=ae ((S3.out.step hb).add (kT aF j (bG (range j))) hr);obtain⟨m0,m1,m2⟩:=pF (S4.out.blk 3 rfl);clear hb hO hr)
      | (go_at_call 217
         refine(CX.out _ _ _ (S4.out.rd 0 rfl)).mono ?_;rintro e wC ⟨vm,rfl,hR,hb⟩;obtain⟨aM,cM,rfl,hM,-⟩:=fM hR HSL.out;have S5:=ae ((S4.out.step hb).add (uH aM (j+k) (dV j k Z s (range j))) hM);obtain⟨q0,q1,q2⟩:=pF (S5.out.blk 4 rfl);clear hR hM hb)
      | (go_at_call 215
         refine(CSV.out g _ _ aM bv _ (S5.out.blk 2 rfl) (S5.out.get 0 rfl) (S5.out.get 3 rfl)).mono ?_;rintro e wD ⟨vs,rfl,hV,hb⟩;obtain⟨aV,nV,cV,rfl⟩:=oz hV;have S6:=ae (S5.out.step hb);have HV:=ae hV;have hsD:=hb.size;obtain⟨p0,p1,p2⟩:=pF (S6.out.blk 4 rfl);clear hV hb))
     all_goals(
      have HB6:=ae S6.out.1;have hsC:=S5.out.1.size;have HBD:=ae ((HB6.out.mono (by rw[HP.out];exact ah _)).alloc (B:=P) (by have:=HB6.out.size;have:=HP.out;omega) (cells #[int i64 j,int i64 k,int i64 Z,.int .u32 s,slice aV nV cV] 269));have HKD:=ae (Blk.new wD 269 #[int i64 j,int i64 k,int i64 Z,.int .u32 s,slice aV nV cV]);have HVD:=ae ((rM (wK j k Z s x)).new HV.out ((az wD.heap.size wD).alloc (ah _) (cells #[int i64 j,int i64 k,int i64 Z,.int .u32 s,slice aV nV cV] 269)));have hPC:P<=wC.heap.size:=(by have:=HP.out;omega);have hPD:P<=wD.heap.size:=(by omega);clear S6 S5 S4 S3 S2 hsC;go_wp2_with fail;go_ret2;exact⟨_,_,rfl,by rw[HP.out];exact hPD,HKD.out,by rw[HP.out];exact(rM _).more HVD.out fun b hb _=>aO hPC hb,by rw[HP.out];exact HBD.out⟩)
def yL(a b:List Nat)(t:Nat):List Nat:=(xr a b).take t++a.drop t
theorem uT(a b:List Nat):yL a b 0=a:=by unfold yL;simp
theorem yM{a b:List Nat}{n:Nat}(ha:a.length=n)(hb:b.length=n):yL a b n=xr a b:=by
 unfold yL;rw[aJ (by rw[jQ (by omega)];omega),drop_eq_nil_of_le (by omega),append_nil]
theorem yN{a b:List Nat}{n t:Nat}(ha:a.length=n)(hb:b.length=n)(ht:t<=n):(yL a b t).length=n:=by
 unfold yL;rw[aH,aG,length_drop,jQ (by omega)];omega
theorem yO{a b:List Nat}{n t:Nat}(ha:a.length=n)(hb:b.length=n)(ht:t<n):(yL a b t).getD t 0=a.getD t 0:=by
 unfold yL;have hl:((xr a b).take t).length=t:=by rw[aG,jQ (by omega)];omega
 rw[af,List.getElem?_append_right (by omega),hl,Nat.sub_self,List.getElem?_drop,Nat.add_zero,<-af]
theorem yP{a b:List Nat}{n t:Nat}(ha:a.length=n)(hb:b.length=n)(ht:t<n):(yL a b t).set t (a.getD t 0 ^^^ b.getD t 0)=yL a b (t+1):=by
 have hl:((xr a b).take t).length=t:=by rw[aG,jQ (by omega)];omega
 unfold yL;rw[set_append_right _ _ (by omega),hl,Nat.sub_self,drop_eq_getElem_cons (show t<a.length by omega),set_cons_zero];have hx:t<(xr a b).length:=by rw[jQ (by omega)];omega
 rw[aN hx,append_assoc];congr 1;have:=mb (a:=a) (b:=b) (by omega) t;rw[af,ag hx] at this;show _ :: _=[_]++_;rw[<-this];rfl
theorem ng{m:Nat->List Nat}{cols z:List Nat}{k:Nat}(h:k<cols.length):bP m (cols.take (k+1)) z=xr (bP m (cols.take k) z) (m (cols.getD k 0)):=by
 unfold bP;rw[aN h,foldl_append,af,ag h];rfl
theorem kK{w:World}{C g:Nat}{l:List Nat}(h:Blk w g 5 (bJ l))(hC:C<=g)(hm:l.length<=maxLen):OwnB w C (slice (some ⟨g,0,none⟩) l.length l.length) l:=
 ⟨by rw[bI,Nat.mul_one],.inr ⟨g,l.length,bJ l,rfl,hC,h,ah _,hm,by rw[jO,Nat.mul_one],by rw[Nat.mul_one];unfold bJ;rw[aJ (by rw[bI];exact ah _)]⟩⟩
theorem oW{w w':World}{g:Nat}(h:w.grownBy w' (some g))(i:Nat)(v:Value):w.grownBy (w'.setCell ⟨g,i,none⟩ v) (some g):=
 ⟨h.os,h.tape,h.output,by show _<=(w'.setCell ⟨g,i,none⟩ v).heap.size;simp only[World.setCell,Array.size_modify];exact h.size,fun k hk hne=>(bE _ _ _ _ (by intro e;exact hne (by rw[e]))).trans (h.block k hk hne)⟩
theorem iw{w w':World}{g b o:Nat}(h:w.grownBy w' (some g))(hb:b<w.heap.size)(hne:b≠g):w'.cell? ⟨b,o,none⟩=w.cell? ⟨b,o,none⟩:=World.cell?_of_block (w:=w) (a:=⟨b,o,none⟩) (h.block b hb fun e=>hne (Option.some.inj e))
theorem yQ(K H Z:Nat)(s:Int)(m:List (List Nat))(g id:Nat)(av:Option Addr)(nv cv:Nat)(F:Nat->Prop)(w:World)(hk:eD K H Z=true)(hs0:0<=s)(hs1:s<4294967296)(hm:MidOK K H Z s m)(hid:id<=65535)
 (hB:Blk w g 269 #[int i64 K,int i64 H,int i64 Z,.int .u32 s,slice av nv cv])(hR:(rM m).ok w F [slice av nv cv]):
 Calls prog 160 #[pointer (some ⟨g,0,none⟩),int i64 id] w fun e w'=>∃v,e=returned v/\OwnB w' w.heap.size v (gY K H Z s m id)/\Below w.heap.size w w':=by
 have hok:=aZ hk;obtain⟨a1,c1,e1,hM,-⟩:=fM hR hm.len;injection e1 with e1 e2 e3;subst e1 e2 e3;have CL:=ae fun w=>yu K H Z s id w hs0 hs1;obtain⟨hc1,hc2⟩:=kQ (s:=s) (id:=(id:Nat)) hk;have HSY:Hid (gY K H Z s m id=bP (fun c=>m.getD c []) (ib K H Z s (id:Nat)) (replicate Z 0)):=ae rfl;have hc64:=AR K H Z s (id:Nat);have HC1:=ae hc1;have HM:=ae hm;have hZ24:Z<=24:=by omega
 have hidI:¬(65535:Int)<(id:Int):=by omega
 have hmk:∀w:World,(Instr.makeSlice 30 (int i64 (Z:Int)) (int i64 (Z:Int))).run prog w=.ok (slice (some ⟨w.heap.size,0,none⟩) Z Z) (w.alloc (cells (bJ (replicate Z 0)) 5)):=fun w=>dD (n:=Z) (by omega) w
 have S0:Hid (Sx w (w.alloc (cells (bJ (replicate Z 0)) 5)) [bQ w.heap.size 5 (bJ (replicate Z 0)),bQ g 269 #[int i64 K,int i64 H,int i64 Z,.int .u32 s,slice av (K+H) cv],uH av (K+H) m]):=
  ae (((((Sx.nil w).add (uH av (K+H) m) hM).add (bQ g _ _) hB).alloc _).add (bQ _ _ _) (Blk.new w 5 (bJ (replicate Z 0))))
 have hglt:=hB.lt;have HR0:=ae hM;have b2:=hB.cell 2;unfold cE at CL;generalize ib K H Z s (id:Nat)=L at*;have hsz0:(w.alloc (cells (bJ (replicate Z 0)) 5)).heap.size=w.heap.size+1:=by simp
 clear hM hR hm hok hk hB hc1;go_enter func160,ntmps160
 go_wp2_with (simp only[hmk])
 generalize w.alloc (cells (bJ (replicate Z 0)) 5)=w0 at*;clear b2 hmk
 obtain⟨b0,b1,b2,b3,b4⟩:w0.cell? ⟨g,0,none⟩=some (int i64 K)/\w0.cell? ⟨g,1,none⟩=some (int i64 H)/\w0.cell? ⟨g,2,none⟩=some (int i64 Z)/\w0.cell? ⟨g,3,none⟩=some (.int .u32 s)/\w0.cell? ⟨g,4,none⟩=some (slice av (K+H) cv):=by
  have h:=S0.out.blk 1 rfl;exact⟨h.cell 0,h.cell 1,h.cell 2,h.cell 3,h.cell 4⟩
 go_region_held3 (fun w'=>w'.cell? ⟨g,0,none⟩=some (int i64 K)/\w'.cell? ⟨g,1,none⟩=some (int i64 H)/\w'.cell? ⟨g,2,none⟩=some (int i64 Z)/\w'.cell? ⟨g,3,none⟩=some (.int .u32 s)) (go_keep) (first
  | (go_at_call 176
     refine(CL.out _).mono ?_;rintro e wA ⟨v,rfl,hO,hb⟩;obtain⟨aL,cL,rfl⟩:=hO.lenA;have S1:=ae (S0.out.drew.step hb);have HO:Hid (OwnI wA w0.heap.size (slice aL L.length cL) L):=ae hO;have hsA:w0.heap.size<=wA.heap.size:=hb.size;have m0:=(S1.out.blk 1 rfl).cell 0;have m1:=(S1.out.blk 1 rfl).cell 1;have m2:=(S1.out.blk 1 rfl).cell 2;have m3:=(S1.out.blk 1 rfl).cell 3;clear hb hO))
 have HG0:=ae (grownBy_refl wA (some w.heap.size));have HK0:Hid (Blk wA w.heap.size 5 (bJ (bP (fun c=>m.getD c []) (L.take 0) (replicate Z 0)))):=ae (S1.out.blk 0 rfl);have hRA:RdM wA w.heap.size av (K+H) m:=HR0.out.below S1.out.1 (ah _);have HRA:=ae hRA;have HBA:=ae S1.out.1;have hzl:∀k,(bP (fun c=>m.getD c []) (L.take k) (replicate Z 0)).length=Z:=fun k=>eU aI fun c hc=>(HM.out.row (HC1.out c (bD hc))).1;have hzb:∀k,By (bP (fun c=>m.getD c []) (L.take k) (replicate Z 0)):=fun k=>(dF (D:=Z) (Byt.zero Z) fun c hc=>HM.out.row (HC1.out c (bD hc))).2;have HZL:=ae hzl;have HZB:=ae hzb;have hszA:w.heap.size<wA.heap.size:=by omega
 have m4:=(S1.out.blk 1 rfl).cell 4;clear S0 HR0 hRA hzl hzb b0 b1 b2 b3 b4 m0 m1 m2 m3;generalize hG:w.heap.size=G at*;have HGe:=ae hG;clear hG;generalize hq:L.length=q at*;have HQ:=ae hq;clear hq;generalize hC0:w0.heap.size=C at*;clear hC0;go_wp2_with fail;go_loopw [37] (fun i wr=>∃k:Nat,k<=q/\i=int i64 k/\Hid (Blk wr G 5 (bJ (bP (fun c=>m.getD c []) (L.take k) (replicate Z 0))))/\Hid (wA.grownBy wr (some G))) (fun i _=>q-(intOf i).toNat)
 case atStart=>exact⟨0,by omega,rfl,HK0,HG0⟩
 case round=>
  clear HK0 HG0;obtain⟨k,hkq,rfl,HK,HG⟩:=hrel;by_cases hlt:k<q
  ·have hltI:(k:Int)<(q:Int):=by omega
   have hkL:k<L.length:=(by rw[HQ.out];exact hlt);obtain⟨gL,rfl,hg1,hg2⟩:=HO.out.formA HQ.out (by omega);obtain⟨hcx0,-⟩:=HO.out.cellA HQ.out hlt;have hcx:wr.cell? ⟨gL,k,none⟩=some (int i64 (L.getD k 0:Nat)):=(iw HG.out hg2 (by omega)).trans hcx0;have hcn:L.getD k 0<K+H:=HC1.out _ (by rw[getD_at hkL];exact aP hkL);obtain⟨bm,om,a',c',rfl,hbm,hcell0,hrow0,-⟩:=HRA.out.at hcn;have hcell:wr.cell? ⟨bm,om+L.getD k 0,none⟩=some (slice a' (m.getD (L.getD k 0) []).length c'):=(iw HG.out (by omega) (by omega)).trans hcell0;have hrl:=(HM.out.row hcn).1;have hrb:=(HM.out.row hcn).2;rw[hrl] at hcell hrow0;have n4:wr.cell? ⟨g,4,none⟩=some (slice (some ⟨bm,om,none⟩) (K+H) cv):=(iw HG.out (by omega) (by omega)).trans m4;have HSN:=ae (ng (m:=fun c=>m.getD c []) (z:=replicate Z 0) hkL);have hzl:=HZL.out k;have hzb:=HZB.out k;have hcnI:((L.getD k 0:Nat):Int)<((K+H:Nat):Int):=(by omega);have HROW:=ae hrow0;clear hcx0 hcell0 hkL hrow0;generalize hX:m.getD (L.getD k 0) []=X at*;clear hX;generalize bP (fun c=>m.getD c []) (L.take k) (replicate Z 0)=D at*;generalize hD2:bP (fun c=>m.getD c []) (L.take (k+1)) (replicate Z 0)=D2 at*;have HD2:=ae hD2;clear hD2;generalize L.getD k 0=x at*;generalize hN:K+H=N at*;clear hN;rename World=>wo;have HKi:Hid (Blk wo G 5 (bJ (yL D X 0))):=ae (by rw[uT];exact HK.out);go_wp2_with fail;go_loopw [49] (fun i wr=>∃t:Nat,t<=Z/\i=int i64 t/\Hid (Blk wr G 5 (bJ (yL D X t)))/\Hid (wA.grownBy wr (some G))) (fun i _=>Z-(intOf i).toNat)
   case atStart=>exact⟨0,by omega,rfl,HKi,HG⟩
   case round=>
    clear HKi HG HK hcx hcell n4;obtain⟨t,htZ,rfl,HK,HG⟩:=hrel;by_cases htz:t<Z
    ·have htI:(t:Int)<(Z:Int):=by omega
     obtain⟨br,orr,rfl,hbr,hcr⟩:=HROW.out.2 (by omega);have hc0:=hcr t (.int .u8 (X.getD t 0:Nat)) (dX (by omega));have hcc:wr.cell? ⟨br,orr+t,none⟩=some (.int .u8 (X.getD t 0:Nat)):=(iw HG.out (by omega) (by omega)).trans hc0
     have hd:wr.cell? ⟨G,t,none⟩=some (.int .u8 (D.getD t 0:Nat)):=by
      rw[HK.out.cell t];have:=dX (l:=yL D X t) (i:=t) (by rw[yN hzl hrl htZ];exact htz);rw[yO hzl hrl htz] at this;simpa[bJ] using this
     have hfr:=HK.out.frozen t;have hx1:=getD_lt hrb t;have hx2:=getD_lt hzb t;have hxr:=u8_xor_nat (D.getD t 0) (X.getD t 0) hx2 hx1;have hst:=HK.out.set t (.int .u8 ((D.getD t 0 ^^^ X.getD t 0:Nat):Int));rw[j6,yP hzl hrl htz] at hst;have HK2:=ae hst;have HG2:=ae (oW HG.out t (.int .u8 ((D.getD t 0 ^^^ X.getD t 0:Nat):Int)));clear hst hcr hc0 HK HG;generalize D.getD t 0 ^^^ X.getD t 0=y at*;generalize D.getD t 0=y1 at*;generalize X.getD t 0=y2 at*;go_wp2_with fail;go_roundw
     case rel=>exact⟨t+1,by omega,by go_num,HK2,HG2⟩
     case measure=>simp[intOf];omega
    ·obtain rfl:t=Z:=by omega
     have HK2:Hid (Blk wr G 5 (bJ (bP (fun c=>m.getD c []) (L.take (k+1)) (replicate t 0)))):=ae (by rw[HD2.out,HSN.out,<-yM hzl hrl];exact HK.out);go_wp2_with fail;go_roundw
     case rel=>exact⟨k+1,by omega,by go_num,HK2,HG⟩
     case measure=>simp[intOf];omega
  ·obtain rfl:k=q:=by omega
   rw[aJ (by rw[HQ.out];exact ah _),<-HSY.out] at HK;have hlen:(gY K H Z s m id).length=Z:=(by rw[HSY.out];have:=HZL.out L.length;rw[take_length] at this;exact this);have hb:=HG.out;have HBF:Hid (Below G w wr):=ae (HBA.out.grown hb (by omega) (fun b hb=>by injection hb with hb;omega));go_wp2_with fail;go_ret;refine⟨_,rfl,?_,by rw[HGe.out];exact HBF.out⟩;rw[HGe.out];have:=kK (C:=G) HK.out (ah _) (by rw[hlen];unfold maxLen;omega)
   rwa [hlen] at this
def sF(id:Nat)(d:List Nat):Rp:=rP (rV (int i64 id)) (rB d)
theorem IU:(prog.info? 154).map (fun i=>(i.zero,i.size,i.bytes))=some (some (.agg #[int i64 0,slice none 0 0]),2,32):=by kernel_rfl
def lenV:Value->Nat | slice _ n _=>n | _=>0
theorem GH{n i:Nat}(h:i<n):(bF (replicate n 0))[i]? =some (.int .u8 0):=by
 unfold bF;rw[List.getElem?_map,List.getElem?_replicate,bf h];rfl
theorem Dj(n c B:Nat)(a:Option Addr)(w:World)(hx:Rd w B a n (bF (replicate n 0)))(hc:n<=c)(hm:c<=maxLen):
 Calls prog 301 #[slice a n c,.int .u8 0] w fun e w'=>e=returned (slice a 0 c)/\w=w':=by
 have HX:=ae hx;clear hx;unfold maxLen at hm;go_enter func301,ntmps301;go_wp2_with fail;go_loopw [0] (fun v wr=>∃k:Nat,k<=n/\v=slice a k c/\wr=w) (fun v _=>lenV v)
 case atStart=>exact⟨n,ah _,rfl,rfl⟩
 case round=>
  obtain⟨k,hk,rfl,rfl⟩:=hrel;cases k with
  | zero=>
    go_wp2_with fail;go_ret;exact⟨rfl,rfl⟩
  | succ q=>
    obtain⟨b,o,rfl,hb,hcc⟩:=HX.out.2 (by omega);have cq:=hcc q _ (GH (by omega));have hqI:(0:Int)<(q:Int)+1:=(by omega);have hs:IntKind.i64.wrap ((q:Int)+1-1)=(q:Int):=(by rw[IntKind.wrap_i64];omega);clear hcc;go_wp2_with fail;go_roundw
    case rel=>exact⟨q,by omega,rfl,by first | trivial | rfl⟩
    case measure=>show q<q+1;omega
theorem GI(c:Nat)(a:Option Addr)(w:World):
 Calls prog 300 #[slice a 0 c,.int .u8 0] w fun e w'=>e=returned (slice none 0 0)/\w=w':=by
 go_enter func300,ntmps300;go_wp2_with fail;go_loopw [0] (fun v wr=>v=slice a 0 c/\wr=w) (fun v _=>lenV v)
 case atStart=>exact⟨rfl,rfl⟩
 case round=>
  obtain⟨rfl,rfl⟩:=hrel;go_wp2_with fail;go_ret;exact⟨rfl,rfl⟩
theorem uZ(n c B:Nat)(a:Option Addr)(w:World)(hx:Rd w B a n (bF (replicate n 0)))(hc:n<=c)(hm:c<=maxLen):
 Calls prog 238 #[slice a n c,.string ⟨#[0]⟩] w fun e w'=>e=returned (slice none 0 0)/\∃j,w'=w.drewN j:=by
 have CR:=ae fun w (hx:Rd w B a n (bF (replicate n 0)))=>Dj n c B a w hx hc hm;have CL:=ae fun w=>GI c a w;have HX:=ae hx;clear hx hc hm;go_enter func238,ntmps238;by_cases hn:n=0
 ·subst hn
  go_wp2_with fail;go_ret;exact⟨rfl,0,rfl⟩
 ·have hnI:((n:Int) == 0)=false:=by simp;omega
  go_wp2_with fail
  go_region_with (first
   | (go_at_call 301
      refine(CR.out w.drew HX.out).mono ?_;rintro e w1 ⟨rfl,rfl⟩)
   | (go_at_call 300
      refine(CL.out _).mono ?_;rintro e w1 ⟨rfl,rfl⟩))
  all_goals(go_wp2_with fail;go_ret;exact⟨rfl,1,rfl⟩)
theorem AK(n c B:Nat)(a:Option Addr)(w:World)(hx:Rd w B a n (bF (replicate n 0)))(hc:n<=c)(hm:c<=maxLen):
 Calls prog 294 #[slice a n c] w fun e w'=>e=returned (bool true)/\∃j,w'=w.drewN j:=by
 have CT:=ae (uZ n c B a w hx hc hm);clear hx hc hm;go_enter func294,ntmps294;go_wp2_with fail;refine CT.out.mono ?_;rintro e w1 ⟨rfl,j,rfl⟩;go_wp2_with fail;go_ret;exact⟨rfl,j,rfl⟩
theorem Fh{α:Type}(p:α->Bool):∀(l:List α) (k:Nat) (s:α),(l.filter p)[k]? =some s->∃k0,l[k0]? =some s/\(l.filter p).take k=(l.take k0).filter p:=by
 intro l
 induction l with
 | nil=>intro k s h;simp at h
 | cons x l ih=>
   intro k s h;rw[filter_cons] at h ⊢;cases hp:p x with
   | true=>
     rw[hp] at h;rw[bf rfl] at h ⊢;cases k with
     | zero=>exact⟨0,by simpa using h,by simp⟩
     | succ k=>
       obtain⟨k0,h1,h2⟩:=ih k s (by simpa using h);exact⟨k0+1,by simpa using h1,by rw[take_succ_cons,take_succ_cons,filter_cons,bf hp,h2]⟩
   | false=>
     rw[hp] at h;rw[bg (by simp)] at h ⊢;obtain⟨k0,h1,h2⟩:=ih k s h;exact⟨k0+1,by simpa using h1,by rw[take_succ_cons,filter_cons,bg (by simp[hp]),h2]⟩
def cJ(n:Nat)(known:Nat->Bool):List (List Nat):=((range n).filter known).map fun c=>[c]
theorem BD{n:Nat}{known:Nat->Bool}{r:Nat}(h:r<(cJ n known).length):∃c,c<n/\known c=true/\(cJ n known).getD r []=[c]:=by
 have hm:(cJ n known).getD r []∈cJ n known:=by rw[af,ag h];exact aP h
 obtain⟨c,h1,h2⟩:=aW.1 hm;obtain⟨h3,h4⟩:=mem_filter.1 h1;exact⟨c,bA.1 h3,h4,h2.symm⟩
theorem Fj{n:Nat}{known:Nat->Bool}{rest:List (List Nat)}{St:List (Nat×Nat)}{De Le:List Nat}(P:oM n (rest++cJ n known) St De Le)(hrest:∀r,∀c∈rest.getD r [],c<n/\known c=false):
 zF n known rest (St.filter fun s=>decide (s.1<rest.length)) De (Le.filter fun i=>decide (i<rest.length)):=by
 have hrow:∀r,r<rest.length->(rest++cJ n known).getD r []=rest.getD r []:=fun r h=>by
  rw[af,af,List.getElem?_append_left h]
 have hsing:∀r,¬r<rest.length->r<(rest++cJ n known).length->∃c,c<n/\known c=true/\(rest++cJ n known).getD r []=[c]:=fun r h h2=>by
  rw[aH] at h2;obtain⟨c,h3,h4,h5⟩:=BD (n:=n) (known:=known) (r:=r-rest.length) (by omega);refine⟨c,h3,h4,?_⟩;rw[<-h5,af,af,List.getElem?_append_right (by omega)]
 have hmem:∀(r c:Nat),(r,c)∈St->r<(rest++cJ n known).length/\c∈(rest++cJ n known).getD r []:=fun r c h=>by
  obtain⟨k,hk⟩:=List.getElem?_of_mem h;obtain⟨h1,h2,_⟩:=P.step k r c hk;exact⟨h1,h2⟩
 have hkn:∀(r c:Nat),(r,c)∈St->(r<rest.length↔known c=false):=fun r c h=>by
  obtain⟨h1,h2⟩:=hmem r c h;by_cases hr:r<rest.length
  ·rw[hrow r hr] at h2
   exact⟨fun _=>(hrest r c h2).2,fun _=>hr⟩
  ·obtain⟨d,h3,h4,h5⟩:=hsing r hr h1
   rw[h5] at h2;obtain rfl:c=d:=(by simpa using h2);exact⟨fun h=>absurd h hr,fun h=>by rw[h4] at h;cases h⟩
 have hdead:∀c∈De,known c=false:=fun c hc=>by
  cases hk:known c with
  | false=>rfl
  | true=>
    exfalso;have hcn:c<n:=(P.all c).2 (.inr hc);have hm:[c]∈rest++cJ n known:=mem_append_right _ (aW.2 ⟨c,mem_filter.2 ⟨bA.2 hcn,hk⟩,rfl⟩);obtain⟨r,hr,e⟩:=bC hm;refine P.nodead c hc r hr ?_;rw[af,ag hr,e];rfl
 have hsub:(St.filter fun s=>decide (s.1<rest.length)).map Prod.snd=(St.map Prod.snd).filter fun c=> !known c:=by
  rw[filter_map];congr 1;refine filter_congr fun s hs=> ?_;obtain⟨r,c⟩:=s;have:=hkn r c hs;show decide (r<rest.length)= !known c;cases hk:known c with
  | false=>exact ba (this.2 hk)
  | true=>exact decide_eq_false fun h=>by rw[this.1 h] at hk;cases hk
 refine⟨fun k r c hk=> ?_,?_,fun c hc=> ?_,fun c hc=> ?_,fun i=> ?_⟩
 ·obtain⟨k0,h1,h2⟩:=Fh _ St k (r,c) hk
  have hp:r<rest.length:=aZ (mem_filter.1 (mem_of_getElem? hk)).2;obtain⟨p1,p2,p3⟩:=P.step k0 r c h1;rw[hrow r hp] at p2 p3;refine⟨hp,p2,fun d hd hne=> ?_⟩;rcases p3 d hd hne with h | ⟨k',r',h3,h4⟩
  ·exact .inl h
  ·right
   have hm:(r',d)∈(St.take k0).filter fun s=>decide (s.1<rest.length):=by
    refine mem_filter.2 ⟨mem_of_getElem? (i:=k') (by rw[List.getElem?_take,bf h3];exact h4),?_⟩;exact ba ((hkn r' d (mem_of_getElem? h4)).2 (hrest r d hd).2)
   rw[<-h2] at hm;obtain⟨j,hj⟩:=List.getElem?_of_mem hm;rw[List.getElem?_take] at hj;split at hj
   ·rename_i hjk
    exact⟨j,r',hjk,hj⟩
   ·cases hj
 ·rw[hsub]
  obtain⟨n1,n2,n3⟩:=nodup_append.1 P.cols;exact nodup_append.2 ⟨n1.filter _,n2,fun a ha b hb=>n3 a (mem_filter.1 ha).1 b hb⟩
 ·rw[hsub,mem_filter]
  constructor
  ·intro h
   rcases(P.all c).1 hc with h1 | h1
   ·exact .inl ⟨h1,by rw[h];rfl⟩
   ·exact .inr h1
  ·rintro(⟨_,h⟩ | h)
   ·simpa using h
   ·exact hdead c h
 ·rw[hsub,mem_filter] at hc
  exact(P.all c).2 (hc.elim (fun h=>.inl h.1) .inr)
 ·rw[mem_filter,P.left,mem_filter,bA]
  have hfst:i<rest.length->(i∈(St.filter fun s=>decide (s.1<rest.length)).map Prod.fst↔i∈St.map Prod.fst):=fun hi=>by
   constructor
   ·intro h
    obtain⟨s,h1,h2⟩:=aW.1 h;exact aW.2 ⟨s,(mem_filter.1 h1).1,h2⟩
   ·intro h
    obtain⟨s,h1,h2⟩:=aW.1 h;exact aW.2 ⟨s,mem_filter.2 ⟨h1,ba (by rw[h2];exact hi)⟩,h2⟩
  constructor
  ·rintro⟨⟨h1,h2⟩,h3⟩
   have hi:=aZ h3;refine⟨hi,fun h=> ?_⟩;have:=(hfst hi).1 h;rw[contains_iff_mem.2 this] at h2;cases h2
  ·rintro⟨h1,h2⟩
   refine⟨⟨by rw[aH];omega,?_⟩,ba h1⟩
   have:(St.map Prod.fst).contains i=false:=by
    cases hk:(St.map Prod.fst).contains i with
    | false=>rfl
    | true=>exact absurd ((hfst h1).2 (contains_iff_mem.1 hk)) h2
   rw[this];rfl
