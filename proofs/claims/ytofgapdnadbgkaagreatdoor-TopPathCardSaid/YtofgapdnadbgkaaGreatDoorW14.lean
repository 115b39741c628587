import Derived.Test.YtofgapdnadbgkaaGreatDoorW12
import Derived.Test.YtofgapdnadbgkaaGreatDoorW13
import Derived.Laws.Cover3
set_option linter.unusedVariables false
set_option maxRecDepth 100000
set_option maxHeartbeats 400000000
namespace Go.Proofs.YtofgapdnadbgkaaGreatDoor
open Go.RowKit _root_.Go.Proofs.Tryz
theorem wE(K H Z:Nat)(s:Int){ids:List Nat}{k:Nat}(h:k<ids.length):(dL K H Z s (ids.take (k+1))).map rB=(dL K H Z s (ids.take k)).map rB++[rB (iV K H Z s (ids.getD k 0:Nat))]:=by
 unfold dL;rw[aP h,aW (l:=ids.take k),←List.append_assoc,aW (k:=[ids[k]].map _),af,ag h];rfl
theorem Dx{K H Z:Nat}{s id:Int}(hk:ed K H Z=true)(h0:0≤id)(h1:id≤65535):oM ((K:Int)+H).toNat (qA (K+H) (gY (jf s id)))=iV K H Z s id:=by unfold iV;rw[if_pos ⟨hk,h0,h1⟩]
theorem gJ{w:World}{B:Nat}{a:Option Addr}{n:Nat}{l:List Nat}(h:Rd w B a n (bf l)){i:Nat}(hi:i<n):∃b o,a=some ⟨b,o,none⟩∧b<B∧w.cell? ⟨b,o+i,none⟩=some (.int .i64 (l.getD i 0:Nat)):=by
 have hl:l.length=n:=by have:=h.len;simpa[bf] using this
 obtain⟨b,o,e,hb,hc⟩:=h.2 (by omega);exact⟨b,o,e,hb,hc i _ (by unfold bf;rw[List.getElem?_map,af,ag (by omega)];rfl)⟩
theorem nk(K H Z:Nat)(s:Int)(ids:List Nat)(a:Option Addr)(n c:Nat)(w:World)(hk:ed K H Z=true)(hs0:0≤s)(hs1:s<4294967296)(hx:Rd w w.heap.size a n (bf ids))(hi:∀i∈ids,i≤65535)(hn:n≤1000):
 Calls prog 29 #[bL K H Z,.int .u32 s,.slice a n c] w fun e w'=>∃v,e=.returned v∧(rM (dL K H Z s ids)).ok w' Any [v]∧Below w.heap.size w w':=by
 have hok:=of_decide_eq_true hk;have hl:ids.length=n:=by have:=hx.len;simpa[bf] using this
 have CP:=ae fun w=>qb K H Z w (by omega) (by omega) (by omega);have CR:=ae fun (id:Nat) (hid:id≤65535) w=>Ce K H Z s id w hk (by omega) (by omega) hs0 hs1;have HI:=ae hi;have HL:=ae hl;have HK:=ae hk;have HX:=ae hx
 have S0:Hid (Sx w (w.alloc (.cells #[.int .i64 K,.int .i64 H,.int .i64 Z] 26)) [bu w.heap.size 26 #[.int .i64 K,.int .i64 H,.int .i64 Z],jp a n (bf ids)]):=
  ae (((((Sx.nil w).add (jp a n (bf ids)) hx).alloc _).add (bu _ _ _) (Blk.new w 26 #[.int .i64 K,.int .i64 H,.int .i64 Z])))
 have hH2:H≤4:=by omega
 have hK2:K≤16:=by omega
 clear hx hi hl hok hk;unfold bL at CP CR ⊢;go_enter func29,ntmps29;go_wp2_with fail;generalize w.alloc (.cells #[.int .i64 K,.int .i64 H,.int .i64 Z] 26)=w0 at*;refine(CP.out _).mono ?_;rintro e w1 ⟨v1,rfl,hO,hb⟩;have HB1:=ae hb
 have HO:Hid (OwnS w1 w0.heap.size 23 1 Any v1 ((dL K H Z s (ids.take 0)).map rB)):=ae (by
  have:=(xd hO).base (ah _) (G:=Any) fun _ _=>trivial;unfold dL;rw[List.take_zero,List.map_nil,List.append_nil];exact this)
 obtain⟨b1,n1,cc1,rfl⟩:=HO.out.sl;generalize w.heap.size=P at*;clear hO hb CP;go_wp2_with fail;go_loopw [7,15] (fun v i wr=>∃k:Nat,k≤n∧i=.int .i64 k∧Hid (OwnS wr w0.heap.size 23 1 Any v ((dL K H Z s (ids.take k)).map rB))∧Hid (Below w0.heap.size w0 wr)) (fun _ i _=>n-(intOf i).toNat)
 case atStart=>exact⟨0,by omega,rfl,HO,HB1⟩
 case round=>
  clear HO HB1;obtain⟨k,hkn,rfl,HO,HB⟩:=hrel;have S1:=ae (S0.out.step HB.out);obtain⟨bv,nv,cv,rfl⟩:=HO.out.sl;by_cases hlt:k<n
  ·have hltI:(k:Int)<(n:Int):=by omega
   have hkl:k<ids.length:=(by rw[HL.out];exact hlt);obtain⟨b,o,rfl,hb,cq⟩:=gJ (S1.out.rd 1 rfl) hlt;have hid:ids.getD k 0≤65535:=HI.out _ (by rw[getD_at hkl];exact aU hkl);have HSN:=ae (wE K H Z s hkl);have hsl:((dL K H Z s (ids.take k)).map rB).length≤1000000:=(by rw[aG,kG,aI];omega);have HRE:=ae (Dx (s:=s) (id:=(ids.getD k 0:Nat)) HK.out (by omega) (by omega));have HRL:=ae (pq (s:=s) (id:=(ids.getD k 0:Nat)) HK.out (by omega) (by omega));obtain⟨k0,k1,k2⟩:=iA (S1.out.blk 0 rfl);generalize ids.getD k 0=x at*;clear hkl;go_wp2_with fail;refine(CR.out x hid wr).mono ?_;rintro e w3 ⟨g,n3,rfl,hK,rfl,hb3⟩;rw[HRE.out] at hK;have HB3:=ae (HB.out.trans (hb3.mono HB.out.size));have HO3:=ae (HO.out.new hb3);have HK3:=ae hK;have hC3:=HB3.out.size;have hlen:(iV K H Z s x).length=((K:Int)+H).toNat:=(by rw[HRL.out.1];omega);have HNE:Hid (some g≠(Value.slice bv nv cv).ownBlock):=ae (HO3.out.ty hK (by decide));have HLN:=ae hlen;have hq:=fun W a l c=>run_neq_slice_nil (P:=prog) W 23 5 a l c underlying23;clear hK hb3 hlen cq k0 k1 k2 HO S1 HB;generalize ((K:Int)+H).toNat=N at*
   go_wp2_with (at_builtin;refine dJ (w:=w3) rfl _ _ rfl underlying33 bQ rfl (by decide) (by decide) HO3.out (az _ _) hC3 hsl (R:=rB (iV K H Z s x)) ?r1 rfl rfl rfl ?_)
   case r1=>
    have h1:(rB (iV K H Z s x)).ok w3 (fun b=>Any b∧some b≠(Value.slice bv nv cv).ownBlock) [.slice (some ⟨g,0,none⟩) (iV K H Z s x).length (iV K H Z s x).length]:=jJ HK3.out ⟨trivial,HNE.out⟩ (by rw[HRL.out.1];unfold maxLen;omega);rw[HLN.out] at h1;exact h1
   intro v4 w4 hO4 hb4;rw[←HSN.out] at hO4;have HO4:=ae hO4;have HB4:=ae (HB3.out.trans hb4);clear hO4 hb4 HO3 HK3 HB3 hC3;obtain⟨b4,n4,c4,rfl⟩:=HO4.out.sl;go_wp2_with fail;go_roundw
   case rel=>(try((repeat apply Exists.intro);refine⟨?_,rfl⟩));exact⟨k+1,by omega,by go_num,HO4,HB4⟩
   case measure=>simp[intOf];omega
  ·obtain rfl:k=n:=by omega
   rw[aO (by rw[HL.out];exact ah _)] at HO;go_wp2_with fail;go_ret;exact⟨_,rfl,(rM _).any HO.out.rep,S1.out.1⟩
theorem ky{w:World}{ops:Array Oper}{rest:List Oper}{o:Oper}{a:Act}{Q:Exit→Act→World→Prop}(hgd:o.guard=none)(s x:Operand){C y:Nat}{i:Int}{v:Value}{xs:List Nat}(hi:i=(y:Int))
 (ho:o.op=.call { callee:=.builtin .append,args:=#[s,x],argTypes:=#[24,24] })
 (h:OwnI w C v xs)(hC:C≤w.heap.size)(hl:xs.length≤1000000)(hs:a.eval s=v)(hx:a.eval x=.slice (some ⟨w.heap.size,0,none⟩) 1 1)
 (K:∀v' w2,OwnI w2 C v' (xs++[y])→Below C w w2→wpList prog ops Q rest (a.put o.dst v') w2):
 wpList prog ops Q (o :: rest) a (w.alloc (.cells #[.int .i64 i] 3)):=by
 subst hi;have hba:=(az w.heap.size w).alloc (ah _) (.cells #[.int .i64 (y:Int)] 3);have h1:OwnI (w.alloc (.cells #[.int .i64 (y:Int)] 3)) C v xs:=eZ h hba;have hC1:=aQ hC hba.size;have hcell:=dO w #[.int .i64 (y:Int)] 3 0;have hbC:=hba.mono hC;generalize w.alloc (.cells #[.int .i64 (y:Int)] 3)=w1 at*;refine jo (P:=prog) w1 hgd s x 24 ho C 3 (.int .i64 0) 8 underlying24 dK rfl v xs.length (bf xs) hs h1 w.heap.size (.int .i64 (y:Int)) hx hcell rfl (by omega) (by unfold maxLen;omega) hC1 fun v' w2 hown hg hat=> ?_;refine K v' w2 ?_ (hbC.trans ((az _ _).grown hg hC1 fun g hg=>(World.ownsRow.lt h1 g hg).1));unfold OwnI;rw[aJ];have e:bf (xs++[y])=bf xs++[.int .i64 (y:Int)]:=by unfold bf;rw[aW];rfl
 rw[e];exact hown
theorem OwnI.sl{w:World}{C:Nat}{v:Value}{l:List Nat}(h:OwnI w C v l):∃a n c,v=.slice a n c:=by
 obtain⟨a,c,e,_⟩:=bV h;exact⟨a,_,c,e⟩
def rI(l:List Nat):Rp:=rC (bf l)
theorem gI{l:List Nat}{w:World}{C:Nat}{v:Value}(h:OwnI w C v l):(rI l).ok w (Fr C) [v]:=Ju h
theorem dB{l:List Nat}{w:World}{F:Nat→Prop}{v:Value}{n:Nat}(h:(rI l).ok w F [v])(hn:l.length=n):∃a c,v=.slice a n c∧Rd w w.heap.size a n (bf l)∧(a=none→c=0)∧n≤c∧c≤maxLen:=by
 subst hn;have:=Ak h
 rwa [sS] at this
theorem oN(K H Z:Nat)(w:World)(hk:ed K H Z=true):
 Calls prog 21 #[bL K H Z] w fun e w'=>∃v,e=.returned v∧OwnI w' w.heap.size v (List.range K)∧Below w.heap.size w w':=by
 have hok:=of_decide_eq_true hk;have hK1:K≤16:=by omega
 have hK0:1≤K:=by omega
 have HB0:=ae ((az w.heap.size w).alloc (ah _) (.cells #[.int .i64 K,.int .i64 H,.int .i64 Z] 26));have HO0:=ae (OwnI.nil (w.alloc (.cells #[.int .i64 K,.int .i64 H,.int .i64 Z] 26)) w.heap.size);clear hok hk;have hlt:¬(16:Int)<(K:Int):=by omega
 have hlt2:(0:Int)<(K:Int):=by omega
 unfold bL;go_enter func21,ntmps21;go_wp2_with fail;generalize w.alloc (.cells #[.int .i64 K,.int .i64 H,.int .i64 Z] 26)=w0 at*;go_loopw [3,9] (fun v i wr=>∃k:Nat,k≤K∧i=.int .i64 k∧Hid (OwnI wr w.heap.size v (List.range k))∧Hid (Below w.heap.size w wr)) (fun _ i _=>K-(intOf i).toNat)
 case atStart=>exact⟨0,by omega,rfl,HO0,HB0⟩
 case round=>
  clear HO0 HB0;obtain⟨k,hkn,rfl,HO,HB⟩:=hrel;obtain⟨bv,nv,cv,rfl⟩:=HO.out.sl;by_cases hkK:k<K
  ·have hkI:(k:Int)<(K:Int):=by omega
   go_wp2_with (at_builtin;refine ky (w:=wr) (y:=k) rfl _ _ ?hi rfl HO.out HB.out.size (by rw[List.length_range];omega) rfl rfl ?_)
   case hi=>first | rfl | trivial
   intro v2 w2 hO hb;rw[←List.range_succ] at hO;have HO2:=ae hO;have HB2:=ae (HB.out.trans hb);clear hO hb HO HB;obtain⟨b2,n2,c2,rfl⟩:=HO2.out.sl;go_wp2_with fail;go_roundw
   case rel=>(try((repeat apply Exists.intro);refine⟨?_,rfl⟩));exact⟨k+1,by omega,by go_num,HO2,HB2⟩
   case measure=>simp[intOf];omega
  ·obtain rfl:k=K:=by omega
   go_wp2_with fail;go_ret;exact⟨_,rfl,HO.out,HB.out⟩
theorem yR(K H Z:Nat)(s:Int)(ids:List Nat)(a:Option Addr)(n c:Nat)(w:World)(hk:ed K H Z=true)(hs0:0≤s)(hs1:s<4294967296)(hx:Rd w w.heap.size a n (bf ids))(hi:∀i∈ids,i≤65535)(hn:n≤1000):
 Calls prog 47 #[bL K H Z,.int .u32 s,.slice a n c] w fun e w'=>e=.returned (.int .i64 ((dh (dL K H Z s ids)).length:Nat))∧Below w.heap.size w w':=by
 have hok:=of_decide_eq_true hk;have hl:ids.length=n:=by have:=hx.len;simpa[bf] using this
 have CM:=ae fun w (h:Rd w w.heap.size a n (bf ids))=>nk K H Z s ids a n c w hk hs0 hs1 h hi hn;have HWF:=ae (pu (s:=s) hk hi);have HLN:Hid ((dL K H Z s ids).length=H+n):=ae (by rw[kG,hl])
 have S0:Hid (Sx w (w.alloc (.cells #[.int .i64 K,.int .i64 H,.int .i64 Z] 26)) [bu w.heap.size 26 #[.int .i64 K,.int .i64 H,.int .i64 Z],jp a n (bf ids)]):=
  ae (((((Sx.nil w).add (jp a n (bf ids)) hx).alloc _).add (bu _ _ _) (Blk.new w 26 #[.int .i64 K,.int .i64 H,.int .i64 Z])))
 have hH2:H≤4:=by omega
 have hK2:K≤16:=by omega
 clear hx hi hl hok hk;unfold bL at CM ⊢;generalize dL K H Z s ids=M at*;go_enter func47,ntmps47;go_wp2_with fail;generalize w.alloc (.cells #[.int .i64 K,.int .i64 H,.int .i64 Z] 26)=w0 at*;generalize w.heap.size=P at*;obtain⟨k0,k1,k2⟩:=iA (S0.out.blk 0 rfl)
 go_region_held3 (fun w'=>w'.cell? ⟨P,0,none⟩=some (.int .i64 K)∧w'.cell? ⟨P,1,none⟩=some (.int .i64 H)∧w'.cell? ⟨P,2,none⟩=some (.int .i64 Z)) (go_keep) (first
  | (go_at_call 28
     refine(ou _).mono ?_;rintro e wA ⟨g,rfl,hg,hF,hb⟩;have S1:=ae ((S0.out.drew.step hb).add (eFp (some ⟨g,0,none⟩)) (Fp.of hF));obtain⟨n0,n1,n2⟩:=iA (S1.out.blk 1 rfl);clear hg hF hb)
  | (go_at_call 29
     have S1x:=S1;refine(CM.out _ (S1.out.rd 2 rfl)).mono ?_;rintro e wB ⟨v,rfl,hR,hb⟩;obtain⟨a1,c1,rfl,hM,-⟩:=dS hR HLN.out;have S2:=ae ((S1.out.step hb).add (qp a1 (H+n) M) hM);obtain⟨q0,q1,q2⟩:=iA (S2.out.blk 2 rfl);clear hR hM hb)
  | (go_at_call 86
     refine(J6 (some ⟨g,0,none⟩) (K+H) (H+n) c1 M a1 _ (S2.out.fp 1 rfl) (S2.out.get 0 rfl) HWF.out (by omega) (by omega)).mono ?_;rintro e wC ⟨rfl,hb⟩;have S3:=ae (S2.out.step hb);obtain⟨p0,p1,p2⟩:=iA (S3.out.blk 2 rfl);clear hb))
 all_goals(
  go_wp2_with fail;go_ret;exact⟨rfl,S3.out.1⟩)
def dP(K H Z:Nat)(s:Int)(ids:List Nat):Bool:=decide ((dh (dL K H Z s ids)).length=K+H)
theorem rA(K H Z:Nat)(s:Int)(ids:List Nat)(a:Option Addr)(n c:Nat)(w:World)(hk:ed K H Z=true)(hs0:0≤s)(hs1:s<4294967296)(hx:Rd w w.heap.size a n (bf ids))(hi:∀i∈ids,i≤65535)(hn:n≤1000):
 Calls prog 20 #[bL K H Z,.int .u32 s,.slice a n c] w fun e w'=>e=.returned (.bool (dP K H Z s ids))∧Below w.heap.size w w':=by
 have CM:=ae fun w=>eP K H Z w;rw[hk] at CM;have CR:=ae fun w (h:Rd w w.heap.size a n (bf ids))=>yR K H Z s ids a n c w hk hs0 hs1 h hi hn;have CC:=ae fun w=>lU K H Z w;have hcol:gV K H Z=((K+H:Nat):Int):=by unfold gV;rw[if_pos hk,Int.natCast_add]
 rw[hcol] at CC
 have S0:Hid (Sx w (w.alloc (.cells #[.int .i64 K,.int .i64 H,.int .i64 Z] 26)) [bu w.heap.size 26 #[.int .i64 K,.int .i64 H,.int .i64 Z],jp a n (bf ids)]):=
  ae (((((Sx.nil w).add (jp a n (bf ids)) hx).alloc _).add (bu _ _ _) (Blk.new w 26 #[.int .i64 K,.int .i64 H,.int .i64 Z])))
 have HQ:Hid (dP K H Z s ids=decide ((dh (dL K H Z s ids)).length=K+H)):=ae rfl;clear hx hi hk hcol;unfold bL at CM CR CC ⊢;generalize (dh (dL K H Z s ids)).length=r at*;generalize K+H=N at*;go_enter func20,ntmps20;go_wp2_with fail;generalize w.alloc (.cells #[.int .i64 K,.int .i64 H,.int .i64 Z] 26)=w0 at*;generalize w.heap.size=P at*;obtain⟨k0,k1,k2⟩:=iA (S0.out.blk 0 rfl)
 go_region_held3 (fun w'=>w'.cell? ⟨P,0,none⟩=some (.int .i64 K)∧w'.cell? ⟨P,1,none⟩=some (.int .i64 H)∧w'.cell? ⟨P,2,none⟩=some (.int .i64 Z)) (go_keep) (first
  | (go_at_call 26
     refine(CM.out _).mono ?_;rintro e wA ⟨rfl,hb⟩;have S1:=ae (S0.out.drew.step hb);obtain⟨n0,n1,n2⟩:=iA (S1.out.blk 0 rfl);clear hb)
  | (go_at_call 47
     refine(CR.out _ (S1.out.rd 1 rfl)).mono ?_;rintro e wB ⟨rfl,hb⟩;have S2:=ae (S1.out.step hb);obtain⟨q0,q1,q2⟩:=iA (S2.out.blk 0 rfl);clear hb)
  | (go_at_call 48
     refine(CC.out _).mono ?_;rintro e wC ⟨rfl,hb⟩;have S3:=ae (S2.out.step hb);obtain⟨p0,p1,p2⟩:=iA (S3.out.blk 0 rfl);clear hb))
 all_goals(
  go_wp2_with fail;go_ret;refine⟨pO ?_,S3.out.1⟩;rw[HQ.out,Bool.eq_iff_iff,beq_iff_eq,decide_eq_true_iff];omega)
theorem jl(K H Z:Nat)(s:Int)(w:World)(hk:ed K H Z=true)(hs0:0≤s)(hs1:s<4294967296):
 Calls prog 7 #[bL K H Z,.int .u32 s] w fun e w'=>e=.returned (.bool (dP K H Z s (List.range K)))∧Below w.heap.size w w':=by
 have hok:=of_decide_eq_true hk;have CA:=ae fun w=>oN K H Z w hk;have CF:=ae fun a c w (h:Rd w w.heap.size a K (bf (List.range K)))=>rA K H Z s (List.range K) a K c w hk hs0 hs1 h (fun i hi=>by have:=List.mem_range.1 hi;omega) (by omega)
 have S0:Hid (Sx w (w.alloc (.cells #[.int .i64 K,.int .i64 H,.int .i64 Z] 26)) [bu w.heap.size 26 #[.int .i64 K,.int .i64 H,.int .i64 Z]]):=
  ae ((((Sx.nil w).alloc _).add (bu _ _ _) (Blk.new w 26 #[.int .i64 K,.int .i64 H,.int .i64 Z])))
 clear hk hok;unfold bL at CA CF ⊢;generalize dP K H Z s (List.range K)=r at*;go_enter func7,ntmps7;go_wp2_with fail;generalize w.alloc (.cells #[.int .i64 K,.int .i64 H,.int .i64 Z] 26)=w0 at*;generalize w.heap.size=P at*;obtain⟨k0,k1,k2⟩:=iA (S0.out.blk 0 rfl)
 go_region_held3 (fun w'=>w'.cell? ⟨P,0,none⟩=some (.int .i64 K)∧w'.cell? ⟨P,1,none⟩=some (.int .i64 H)∧w'.cell? ⟨P,2,none⟩=some (.int .i64 Z)) (go_keep) (first
  | (go_at_call 21
     refine(CA.out _).mono ?_;rintro e wA ⟨v,rfl,hO,hb⟩;obtain⟨a1,c1,rfl,hr,-⟩:=dB (gI hO) List.length_range;have S1:=ae ((S0.out.drew.step hb).add (jp a1 K (bf (List.range K))) hr);obtain⟨n0,n1,n2⟩:=iA (S1.out.blk 1 rfl);clear hb hO hr)
  | (go_at_call 20
     refine(CF.out _ _ _ (S1.out.rd 0 rfl)).mono ?_;rintro e wB ⟨rfl,hb⟩;have S2:=ae (S1.out.step hb);obtain⟨q0,q1,q2⟩:=iA (S2.out.blk 1 rfl);clear hb))
 all_goals(
  go_wp2_with fail;go_ret;exact⟨rfl,S2.out.1⟩)
theorem Dc(K H Z:Nat)(s:Int)(ids:List Nat)(a:Option Addr)(n c:Nat)(w:World)(hk:ed K H Z=true)(hs0:0≤s)(hs1:s<4294967296)(hx:Rd w w.heap.size a n (bf ids))(hi:∀i∈ids,i≤65535)(hn:n≤1000):
 Calls prog 85 #[bL K H Z,.int .u32 s,.slice a n c] w fun e w'=>∃v,e=.returned v∧(rM (dL K H Z s ids)).ok w' Any [v]∧Below w.heap.size w w':=by
 have hok:=of_decide_eq_true hk;have hl:ids.length=n:=by have:=hx.len;simpa[bf] using this
 have CM:=ae fun w=>mM K H Z w;rw[hk] at CM;have CP:=ae fun w=>vW K H Z w (by omega) (by omega) (by omega);have CR:=ae fun (id:Nat) (hid:id≤65535) w=>zZ K H Z s id w hk (by omega) (by omega) hs0 hs1;have CI:=ae fun (id:Nat) w=>qJ id w;have HI:=ae hi;have HL:=ae hl;have HK:=ae hk
 have S00:Hid (Sx w (w.alloc (.cells #[.int .i64 K,.int .i64 H,.int .i64 Z] 26)) [bu w.heap.size 26 #[.int .i64 K,.int .i64 H,.int .i64 Z],jp a n (bf ids)]):=
  ae (((((Sx.nil w).add (jp a n (bf ids)) hx).alloc _).add (bu _ _ _) (Blk.new w 26 #[.int .i64 K,.int .i64 H,.int .i64 Z])))
 have hH2:H≤4:=by omega
 have hK2:K≤16:=by omega
 clear hx hi hl hok hk;unfold bL at CM CP CR ⊢;go_enter func85,ntmps85;go_wp2_with fail;generalize w.alloc (.cells #[.int .i64 K,.int .i64 H,.int .i64 Z] 26)=w00 at*;generalize w.heap.size=P at*;refine(CM.out _).mono ?_;rintro e w0 ⟨rfl,hb⟩;have S0:=ae (S00.out.step hb);obtain⟨k0,k1,k2⟩:=iA (S0.out.blk 0 rfl);clear hb S00 CM;go_wp2_with fail;refine(CP.out _).mono ?_;rintro e w1 ⟨v1,rfl,hO,hb⟩;have HB1:=ae hb
 have HO:Hid (OwnS w1 w0.heap.size 23 1 Any v1 ((dL K H Z s (ids.take 0)).map rB)):=ae (by
  have:=(xd hO).base (ah _) (G:=Any) fun _ _=>trivial;unfold dL;rw[List.take_zero,List.map_nil,List.append_nil];exact this)
 obtain⟨b1,n1,cc1,rfl⟩:=HO.out.sl;clear hO hb CP k0 k1 k2;go_wp2_with fail;go_loopw [7,17] (fun v i wr=>∃k:Nat,k≤n∧i=.int .i64 k∧Hid (OwnS wr w0.heap.size 23 1 Any v ((dL K H Z s (ids.take k)).map rB))∧Hid (Below w0.heap.size w0 wr)) (fun _ i _=>n-(intOf i).toNat)
 case atStart=>exact⟨0,by omega,rfl,HO,HB1⟩
 case round=>
  clear HO HB1;obtain⟨k,hkn,rfl,HO,HB⟩:=hrel;have S1:=ae (S0.out.step HB.out);obtain⟨bv,nv,cv,rfl⟩:=HO.out.sl;by_cases hlt:k<n
  ·have hltI:(k:Int)<(n:Int):=by omega
   have hkl:k<ids.length:=(by rw[HL.out];exact hlt);obtain⟨b,o,rfl,hb,cq⟩:=gJ (S1.out.rd 1 rfl) hlt;have hid:ids.getD k 0≤65535:=HI.out _ (by rw[getD_at hkl];exact aU hkl);have HSN:=ae (wE K H Z s hkl);have hsl:((dL K H Z s (ids.take k)).map rB).length≤1000000:=(by rw[aG,kG,aI];omega);have HRE:=ae (Dx (s:=s) (id:=(ids.getD k 0:Nat)) HK.out (by omega) (by omega));have HRL:=ae (pq (s:=s) (id:=(ids.getD k 0:Nat)) HK.out (by omega) (by omega));obtain⟨k0,k1,k2⟩:=iA (S1.out.blk 0 rfl);generalize ids.getD k 0=x at*;have hdc:decide (0≤(x:Int)∧(x:Int)≤65535)=true:=decide_eq_true (by omega);have CI2:=ae (CI.out x);rw[hdc] at CI2;clear hkl hdc;go_wp2_with fail;refine(CI2.out wr).mono ?_;rintro e w2 ⟨rfl,rfl⟩;go_wp2_with fail;refine(CR.out x hid wr).mono ?_;rintro e w3 ⟨g,n3,rfl,hK,rfl,hb3⟩;rw[HRE.out] at hK;have HB3:=ae (HB.out.trans (hb3.mono HB.out.size));have HO3:=ae (HO.out.new hb3);have HK3:=ae hK;have hC3:=HB3.out.size;have hlen:(iV K H Z s x).length=((K:Int)+H).toNat:=(by rw[HRL.out.1];omega);have HNE:Hid (some g≠(Value.slice bv nv cv).ownBlock):=ae (HO3.out.ty hK (by decide));have HLN:=ae hlen;clear hK hb3 hlen cq k0 k1 k2 HO S1 HB;generalize ((K:Int)+H).toNat=N at*
   go_wp2_with (at_builtin;refine dJ (w:=w3) rfl _ _ rfl underlying33 bQ rfl (by decide) (by decide) HO3.out (az _ _) hC3 hsl (R:=rB (iV K H Z s x)) ?r1 rfl rfl rfl ?_)
   case r1=>
    have h1:(rB (iV K H Z s x)).ok w3 (fun b=>Any b∧some b≠(Value.slice bv nv cv).ownBlock) [.slice (some ⟨g,0,none⟩) (iV K H Z s x).length (iV K H Z s x).length]:=jJ HK3.out ⟨trivial,HNE.out⟩ (by rw[HRL.out.1];unfold maxLen;omega);rw[HLN.out] at h1;exact h1
   intro v4 w4 hO4 hb4;rw[←HSN.out] at hO4;have HO4:=ae hO4;have HB4:=ae (HB3.out.trans hb4);clear hO4 hb4 HO3 HK3 HB3 hC3;obtain⟨b4,n4,c4,rfl⟩:=HO4.out.sl;go_wp2_with fail;go_roundw
   case rel=>(try((repeat apply Exists.intro);refine⟨?_,rfl⟩));exact⟨k+1,by omega,by go_num,HO4,HB4⟩
   case measure=>simp[intOf];omega
  ·obtain rfl:k=n:=by omega
   rw[aO (by rw[HL.out];exact ah _)] at HO;go_wp2_with fail;go_ret;exact⟨_,rfl,(rM _).any HO.out.rep,S1.out.1⟩
theorem Df(K H Z:Nat)(s:Int)(ids:List Nat)(a:Option Addr)(n c:Nat)(w:World)(hk:ed K H Z=true)(hs0:0≤s)(hs1:s<4294967296)(hx:Rd w w.heap.size a n (bf ids))(hi:∀i∈ids,i≤65535)(hn:n≤1000):
 Calls prog 45 #[bL K H Z,.int .u32 s,.slice a n c] w fun e w'=>e=.returned (.int .i64 ((dh (dL K H Z s ids)).length:Nat))∧Below w.heap.size w w':=by
 have hok:=of_decide_eq_true hk;have hl:ids.length=n:=by have:=hx.len;simpa[bf] using this
 have CM:=ae fun w (h:Rd w w.heap.size a n (bf ids))=>Dc K H Z s ids a n c w hk hs0 hs1 h hi hn;have HWF:=ae (pu (s:=s) hk hi);have HLN:Hid ((dL K H Z s ids).length=H+n):=ae (by rw[kG,hl])
 have S0:Hid (Sx w (w.alloc (.cells #[.int .i64 K,.int .i64 H,.int .i64 Z] 26)) [jp a n (bf ids)]):=
  ae (((Sx.nil w).add (jp a n (bf ids)) hx).alloc _)
 have hH2:H≤4:=by omega
 have hK2:K≤16:=by omega
 clear hx hi hl hok hk;unfold bL at CM ⊢;generalize dL K H Z s ids=M at*;go_enter func45,ntmps45;go_wp2_with fail;generalize w.alloc (.cells #[.int .i64 K,.int .i64 H,.int .i64 Z] 26)=w0 at*;refine(CM.out _ (S0.out.rd 0 rfl)).mono ?_;rintro e wB ⟨v,rfl,hR,hb⟩;obtain⟨a1,c1,rfl,hM,-⟩:=dS hR HLN.out;have S2:=ae ((S0.out.step hb).add (qp a1 (H+n) M) hM);clear hR hM hb;go_wp2_with fail;refine(Io (K+H) (H+n) c1 M a1 _ (S2.out.get 0 rfl) HWF.out (by omega) (by omega)).mono ?_;rintro e wC ⟨rfl,hb⟩;have S3:=ae (S2.out.step hb);clear hb;go_wp2_with fail;go_ret;exact⟨rfl,S3.out.1⟩
theorem JW(K H Z:Nat)(s:Int)(ids:List Nat)(a:Option Addr)(n c:Nat)(w:World)(hk:ed K H Z=true)(hs0:0≤s)(hs1:s<4294967296)(hx:Rd w w.heap.size a n (bf ids))(hi:∀i∈ids,i≤65535)(hn:n≤1000):
 Calls prog 17 #[bL K H Z,.int .u32 s,.slice a n c] w fun e w'=>e=.returned (.bool (dP K H Z s ids))∧Below w.heap.size w w':=by
 have CM:=ae fun w=>mM K H Z w;rw[hk] at CM;have CR:=ae fun w (h:Rd w w.heap.size a n (bf ids))=>Df K H Z s ids a n c w hk hs0 hs1 h hi hn;have CC:=ae fun w=>uL K H Z w;have hcol:gV K H Z=((K+H:Nat):Int):=by unfold gV;rw[if_pos hk,Int.natCast_add]
 rw[hcol] at CC
 have S0:Hid (Sx w (w.alloc (.cells #[.int .i64 K,.int .i64 H,.int .i64 Z] 26)) [bu w.heap.size 26 #[.int .i64 K,.int .i64 H,.int .i64 Z],jp a n (bf ids)]):=
  ae (((((Sx.nil w).add (jp a n (bf ids)) hx).alloc _).add (bu _ _ _) (Blk.new w 26 #[.int .i64 K,.int .i64 H,.int .i64 Z])))
 have HQ:Hid (dP K H Z s ids=decide ((dh (dL K H Z s ids)).length=K+H)):=ae rfl;clear hx hi hk hcol;unfold bL at CM CR CC ⊢;generalize (dh (dL K H Z s ids)).length=r at*;generalize K+H=N at*;go_enter func17,ntmps17;go_wp2_with fail;generalize w.alloc (.cells #[.int .i64 K,.int .i64 H,.int .i64 Z] 26)=w0 at*;generalize w.heap.size=P at*;obtain⟨k0,k1,k2⟩:=iA (S0.out.blk 0 rfl)
 go_region_held3 (fun w'=>w'.cell? ⟨P,0,none⟩=some (.int .i64 K)∧w'.cell? ⟨P,1,none⟩=some (.int .i64 H)∧w'.cell? ⟨P,2,none⟩=some (.int .i64 Z)) (go_keep) (first
  | (go_at_call 44
     refine(CM.out _).mono ?_;rintro e wA ⟨rfl,hb⟩;have S1:=ae (S0.out.drew.step hb);obtain⟨n0,n1,n2⟩:=iA (S1.out.blk 0 rfl);clear hb)
  | (go_at_call 45
     refine(CR.out _ (S1.out.rd 1 rfl)).mono ?_;rintro e wB ⟨rfl,hb⟩;have S2:=ae (S1.out.step hb);obtain⟨q0,q1,q2⟩:=iA (S2.out.blk 0 rfl);clear hb)
  | (go_at_call 46
     refine(CC.out _).mono ?_;rintro e wC ⟨rfl,hb⟩;have S3:=ae (S2.out.step hb);obtain⟨p0,p1,p2⟩:=iA (S3.out.blk 0 rfl);clear hb))
 all_goals(
  go_wp2_with fail;go_ret;refine⟨pO ?_,S3.out.1⟩;rw[HQ.out,Bool.eq_iff_iff,beq_iff_eq,decide_eq_true_iff];omega)
theorem CV(a b c:Int)(w:World)(ha: -9223372036854775808≤a∧a≤9223372036854775807)(hb: -9223372036854775808≤b∧b≤9223372036854775807)(hc: -9223372036854775808≤c∧c≤9223372036854775807):
 Calls prog 4 #[.int .i64 a,.int .i64 b,.int .i64 c] w fun e w'=>e=.returned (bL (1+a%6) (1+b%3) (1+c%9))∧Below w.heap.size w w':=by
 have CA:=ae fun w=>gW a 6 w ha (by omega) (by omega);have CB:=ae fun w=>gW b 3 w hb (by omega) (by omega);have CC:=ae fun w=>gW c 9 w hc (by omega) (by omega);have a1:=Int.emod_nonneg a (show(6:Int)≠0 by omega);have a2:=Int.emod_lt_of_pos a (show(0:Int)<6 by omega);have b1:=Int.emod_nonneg b (show(3:Int)≠0 by omega);have b2:=Int.emod_lt_of_pos b (show(0:Int)<3 by omega);have c1:=Int.emod_nonneg c (show(9:Int)≠0 by omega);have c2:=Int.emod_lt_of_pos c (show(0:Int)<9 by omega);generalize a%6=x at*;generalize b%3=y at*;generalize c%9=z at*;clear ha hb hc;go_enter func4,ntmps4;go_wp2_with fail;refine(CA.out _).mono ?_;rintro e w1 ⟨rfl,rfl⟩;go_wp2_with fail;refine(CB.out _).mono ?_;rintro e w1 ⟨rfl,rfl⟩;go_wp2_with fail;refine(CC.out _).mono ?_;rintro e w1 ⟨rfl,rfl⟩;go_wp2_with fail;refine bodyPost_ret (results_cell_row rfl _ _ w.heap.size 26 _ (0,0) _ rfl (Blk.new w 26 #[.int .i64 (1+x),.int .i64 (1+y),.int .i64 (1+z)]) underlying26 rfl (by kernel_rfl)) rfl ?_;exact⟨rfl,(az _ _).alloc (ah _) _⟩
theorem JP(zs:List Int)(B:Nat)(a:Option Addr)(n c k:Nat)(w:World)(hx:Rd w B a n (zs.map (Value.int .i64))):
 Calls prog 13 #[.slice a n c,.int .i64 k] w fun e w'=>e=.returned (.int .i64 (zs.getD k 0))∧w=w':=by
 have hl:zs.length=n:=by have:=hx.len;simpa using this
 by_cases hk:k<n
 ·have hkI:(k:Int)<(n:Int):=by omega
  obtain⟨b,o,rfl,hb,hc⟩:=hx.2 (by omega);have cq:=hc k (.int .i64 (zs.getD k 0)) (by rw[List.getElem?_map,af,ag (by omega)];rfl);generalize zs.getD k 0=z at*;clear hc hx hl;go_enter func13,ntmps13;go_wp2_with fail;go_ret;exact⟨rfl,rfl⟩
 ·have hkI:¬(k:Int)<(n:Int):=by omega
  have e:zs.getD k 0=0:=(by rw[af,List.getElem?_eq_none (by omega)];rfl);rw[e];clear hx hl e;go_enter func13,ntmps13;go_wp2_with fail;go_ret;exact⟨rfl,rfl⟩
theorem kY(K H S:Nat)(w:World)(hK:K≤16)(hS:S≤24):
 Calls prog 25 #[bL K H S] w fun e w'=>e=.returned (.int .i64 (K*S:Nat))∧Below w.heap.size w w':=by
 have hb:=(az w.heap.size w).alloc (ah _) (.cells #[.int .i64 K,.int .i64 H,.int .i64 S] 26);have HB:=ae hb;clear hb;have hm:K*S≤16*24:=Nat.mul_le_mul hK hS;have hmI:(K:Int)*(S:Int)=((K*S:Nat):Int):=by rw[Int.natCast_mul]
 have hw:IntKind.i64.wrap ((K*S:Nat):Int)=((K*S:Nat):Int):=by rw[IntKind.wrap_i64];omega
 generalize K*S=q at*;unfold bL;go_enter func25,ntmps25;go_wp2_with fail;go_ret
 first
 | exact⟨rfl,HB.out⟩
 | exact⟨congrArg (fun x=>Ending.returned (.int .i64 x)) hmI,HB.out⟩
def iB(q n:Nat):Nat:=if n=0 then 0 else (n-1)/q+1
theorem lC{w:World}{g:Nat}{t:TypeId}{x y z:Value}(h:Blk w g t #[x,y,z]):w.cell? ⟨g,0,none⟩=some x∧w.cell? ⟨g,1,none⟩=some y∧w.cell? ⟨g,2,none⟩=some z:=⟨h.cell 0,h.cell 1,h.cell 2⟩
theorem ja(K H S n:Nat)(w:World)(hk:ed K H S=true)(hn:n≤1000000):
 Calls prog 24 #[bL K H S,.int .i64 n] w fun e w'=>e=.returned (.int .i64 (iB (K*S) n:Nat))∧Below w.heap.size w w':=by
 have hok:=of_decide_eq_true hk;have CM:=ae fun w=>eP K H S w;have CS:=ae fun w=>kY K H S w (by omega) (by omega);rw[hk] at CM;have HX0:=ae (Blk.new w 26 #[.int .i64 K,.int .i64 H,.int .i64 S]);have HB0:=ae ((az w.heap.size w).alloc (ah _) (.cells #[.int .i64 K,.int .i64 H,.int .i64 S] 26));have hq1:1≤K*S:=Nat.mul_le_mul (show 1≤K by omega) (show 1≤S by omega);have hq2:K*S≤16*24:=Nat.mul_le_mul (by omega) (by omega);generalize K*S=q at*;unfold bL at CM CS ⊢;clear hok hk;go_enter func24,ntmps24;go_wp2_with fail;generalize w.alloc (.cells #[.int .i64 K,.int .i64 H,.int .i64 S] 26)=w0 at*;by_cases h0:n=0
 ·subst h0
  refine(CM.out _).mono ?_;rintro e w1 ⟨rfl,hb⟩;have HB1:=ae (HB0.out.trans (hb.mono HB0.out.size));clear hb;go_wp2_with fail;go_ret;exact⟨rfl,HB1.out⟩
 ·have hnI:¬(n:Int)≤0:=by omega
  have hn0:¬n=0:=h0;refine(CM.out _).mono ?_;rintro e w1 ⟨rfl,hb⟩;have HB1:=ae (HB0.out.trans (hb.mono HB0.out.size));have HX1:=ae (HX0.out.below hb HX0.out.lt);obtain⟨k0,k1,k2⟩:=lC HX1.out;have hqI:¬(q:Int)=0:=(by omega);have hqb:((q:Int) == 0)=false:=by simp;omega
  have hd:((n:Int)-1).tdiv (q:Int)=(((n-1)/q:Nat):Int):=by
   rw[show(n:Int)-1=((n-1:Nat):Int) by omega];rfl
  have hdl:(n-1)/q≤1000000:=aQ (Nat.div_le_self _ _) (by omega);have HC:Hid (iB q n=(n-1)/q+1):=ae (by unfold iB;rw[if_neg h0]);generalize (n-1)/q=d at*;clear hb CM HX0 HB0;go_wp2_with fail;refine(CS.out _).mono ?_;rintro e w2 ⟨rfl,hb⟩;have HB2:=ae (HB1.out.trans (hb.mono HB1.out.size));clear hb;go_wp2_with fail;go_ret;exact⟨by rw[HC.out];first | rfl | (congr 2),HB2.out⟩
def mZ(s:Nat):Nat:=if s%2=1 then s/2 ^^^ 3988292384 else s/2
def lj:Nat→Nat→Nat | 0,s=>s | k+1,s=>lj k (mZ s)
def vA(s x:Nat):Nat:=lj 8 (s ^^^ x)
def gX(l:List Nat)(s:Nat):Nat:=l.foldl vA s
def qh(l:List Nat):Nat:=gX l 4294967295 ^^^ 4294967295
theorem J8(a b:Nat):mZ (a ^^^ b)=mZ a ^^^ mZ b:=by
 have h1:(a ^^^ b)/2=a/2 ^^^ b/2:=by
  apply Nat.eq_of_testBit_eq;intro i;rw[Nat.testBit_xor,Nat.testBit_div_two,Nat.testBit_div_two,Nat.testBit_div_two,Nat.testBit_xor]
 have h2:(a ^^^ b)%2=(a%2+b%2)%2:=by
  have e:=Nat.testBit_xor a b 0;simp only[Nat.testBit_zero] at e;have ha:a%2=0∨a%2=1:=(by omega);have hb:b%2=0∨b%2=1:=(by omega);have hc:(a ^^^ b)%2=0∨(a ^^^ b)%2=1:=(by omega);rcases ha with ha | ha <;> rcases hb with hb | hb <;> rcases hc with hc | hc <;> simp[ha,hb,hc] at e ⊢
 unfold mZ;rw[h1,h2];have ha:a%2=0∨a%2=1:=by omega
 have hb:b%2=0∨b%2=1:=by omega
 rcases ha with ha | ha <;> rcases hb with hb | hb <;> simp only[ha,hb,Nat.reduceAdd,Nat.reduceMod,if_true,if_false,Nat.zero_ne_one]
 ·rw[Nat.xor_assoc]
 ·rw[Nat.xor_assoc,Nat.xor_comm (b/2),←Nat.xor_assoc]
 ·rw[Nat.xor_assoc,Nat.xor_comm 3988292384,Nat.xor_assoc,Nat.xor_self,Nat.xor_zero]
theorem J9(k:Nat):∀a b,lj k (a ^^^ b)=lj k a ^^^ lj k b:=by
 induction k with
 | zero=>intro a b;rfl
 | succ k ih=>intro a b;rw[lj,lj,lj,J8,ih]
theorem Ka(s t x y:Nat):vA (s ^^^ t) (x ^^^ y)=vA s x ^^^ vA t y:=by
 unfold vA;rw[←J9];congr 1;rw[Nat.xor_assoc,Nat.xor_assoc,←Nat.xor_assoc t x y,Nat.xor_comm t x,Nat.xor_assoc x t y]
theorem Kb:∀(l d:List Nat) (s t:Nat),l.length=d.length→gX (List.zipWith (·^^^ ·) l d) (s ^^^ t)=gX l s ^^^ gX d t:=by
 intro l
 induction l with
 | nil=>intro d s t h;cases d with
   | nil=>rfl
   | cons=>simp at h
 | cons x l ih=>intro d s t h;cases d with
   | nil=>simp at h
   | cons y d=>
     show gX (List.zipWith _ l d) (vA (s ^^^ t) (x ^^^ y))=gX l (vA s x) ^^^ gX d (vA t y);rw[Ka];exact ih d _ _ (by simpa using h)
theorem Et{s:Nat}(h:s<4294967296):mZ s<4294967296:=by
 unfold mZ;split
 ·exact Nat.xor_lt_two_pow (n:=32) (by omega) (by omega)
 ·omega
theorem GR{s:Nat}(h:s<4294967296)(h0:mZ s=0):s=0:=by
 unfold mZ at h0;split at h0
 ·rename_i h1
  have:s/2=3988292384:=by
   have e:=congrArg (·^^^ 3988292384) h0;simp only[Nat.xor_assoc,Nat.xor_self,Nat.xor_zero,Nat.zero_xor] at e;exact e
  omega
 ·omega
theorem Eu(k:Nat):∀ {s:Nat},s<4294967296→lj k s<4294967296:=by
 induction k with
 | zero=>intro s h;exact h
 | succ k ih=>intro s h;exact ih (Et h)
theorem xu(k:Nat):∀ {s:Nat},s<4294967296→lj k s=0→s=0:=by
 induction k with
 | zero=>intro s _ h;exact h
 | succ k ih=>intro s h h0;exact GR h (ih (Et h) h0)
theorem Ev{s x:Nat}(h:s<4294967296)(hx:x<256):vA s x<4294967296:=
 Eu 8 (Nat.xor_lt_two_pow (n:=32) h (by omega))
theorem mX:∀(l:List Nat) (s:Nat),s<4294967296→(∀x∈l,x<256)→gX l s<4294967296:=by
 intro l
 induction l with
 | nil=>intro s h _;exact h
 | cons x l ih=>intro s h hl;exact ih _ (Ev h (hl x (by simp))) fun y hy=>hl y (by simp[hy])
theorem wh(k:Nat):∀ {s:Nat},s<4294967296→gX (List.replicate k 0) s=0→s=0:=by
 induction k with
 | zero=>intro s _ h;exact h
 | succ k ih=>
   intro s h h0;have h1:=ih (s:=vA s 0) (Ev h (by omega)) h0;unfold vA at h1;rw[Nat.xor_zero] at h1;exact xu 8 h h1
theorem iM(k:Nat):gX (List.replicate k 0) 0=0:=by
 induction k with
 | zero=>rfl
 | succ k ih=>exact ih
theorem jQ(a b:List Nat)(s:Nat):gX (a++b) s=gX b (gX a s):=List.foldl_append
theorem one1:gX [1] 0=1996959894:=by decide +kernel
theorem one2:gX [1,0] 0=421212481:=by decide +kernel
theorem one3:gX [1,0,0] 0=29518391:=by decide +kernel
theorem burst(i r m:Nat)(hm:m<256):gX (List.replicate i 0++([1,0,0,m]++List.replicate r 0)) 0≠0:=by
 intro h;rw[jQ,iM,jQ] at h;have h1:=wh r (mX _ _ (by omega) (by intro x hx;simp at hx;omega)) h;have h2:gX ([1,0,0]++[m]) 0=0:=h1;rw[jQ,one3] at h2;have h3:lj 8 (29518391 ^^^ m)=0:=h2;have h4:=xu 8 (Nat.xor_lt_two_pow (n:=32) (by omega) (by omega)) h3
 have h5:m=29518391:=by
  have e:=congrArg (29518391 ^^^ ·) h4;simp only[←Nat.xor_assoc,Nat.xor_self,Nat.zero_xor,Nat.xor_zero] at e;exact e
 omega
def b4(s:Nat):List Nat:=[s%256,s/256%256,s/65536%256,s/16777216%256]
def d9(kind:Nat)(body:List Nat):List Nat:=[87,115,1,kind]++(body++List.replicate (55-body.length) 0)
def cellL(kind:Nat)(body:List Nat):List Nat:=d9 kind body++(b4 (qh (d9 kind body))++[165])
def fI(b:List Nat):Prop:=b.length=64∧1≤b.getD 3 0∧b=cellL (b.getD 3 0) ((b.drop 4).take 55)
theorem qG{kind:Nat}{body:List Nat}(h:body.length≤55):(d9 kind body).length=59:=by simp[d9];omega
theorem gT{kind:Nat}{body:List Nat}(h:body.length≤55):(cellL kind body).length=64:=by simp[cellL,b4,qG h]
theorem I3{a b:List Nat}{i:Nat}(h:i<a.length):(a++b).getD i 0=a.getD i 0:=by rw[af,af,List.getElem?_append_left h]
theorem I4{a b:List Nat}{i:Nat}:(a++b).getD (a.length+i) 0=b.getD i 0:=by rw[af,af,List.getElem?_append_right (by omega)];congr 2;omega
theorem rf(a b k:Nat):(a ^^^ b)%2 ^ k=a%2 ^ k ^^^ b%2 ^ k:=by
 apply Nat.eq_of_testBit_eq;intro i;rw[Nat.testBit_mod_two_pow,Nat.testBit_xor,Nat.testBit_xor,Nat.testBit_mod_two_pow,Nat.testBit_mod_two_pow];by_cases h:i<k <;> simp[h]
theorem zV(a b k:Nat):(a ^^^ b)/2 ^ k=a/2 ^ k ^^^ b/2 ^ k:=by
 apply Nat.eq_of_testBit_eq;intro i;rw[Nat.testBit_div_two_pow,Nat.testBit_xor,Nat.testBit_xor,Nat.testBit_div_two_pow,Nat.testBit_div_two_pow]
theorem Nj(x c i:Nat):(b4 (x ^^^ c)).getD i 0=(b4 x).getD i 0 ^^^ (b4 c).getD i 0:=by
 have h0:∀k,(x ^^^ c)/2 ^ k%2 ^ 8=(x/2 ^ k%2 ^ 8) ^^^ (c/2 ^ k%2 ^ 8):=fun k=>by rw[zV,rf]
 match i with
 | 0=>exact rf x c 8
 | 1=>exact h0 8
 | 2=>exact h0 16
 | 3=>exact h0 24
 | i+4=>simp[b4]
theorem Nk{x y:Nat}(hx:x<4294967296)(hy:y<4294967296)(h:∀i,i<4→(b4 x).getD i 0=(b4 y).getD i 0):x=y:=by
 have h0:x%256=y%256:=h 0 (by omega);have h1:x/256%256=y/256%256:=h 1 (by omega);have h2:x/65536%256=y/65536%256:=h 2 (by omega);have h3:x/16777216%256=y/16777216%256:=h 3 (by omega);omega
def dl(at_ m i:Nat):Nat:=if i=at_ then 1 else if i=at_+3 then m else 0
theorem spoilt{b b':List Nat}{at_ m:Nat}(hb:fI b)(h1:b.getD 3 0=1)(hby:∀x∈b,x<256)(ha:at_≤60)(hm:m<256)(hl:b'.length=64)(hd:∀i,i<64→b'.getD i 0=b.getD i 0 ^^^ dl at_ m i):¬fI b':=by
 rintro⟨-,hk,he⟩;obtain⟨hbl,-,hbe⟩:=hb;have hbd:((b.drop 4).take 55).length=55:=by rw[aI,List.length_drop];omega
 have hbd':((b'.drop 4).take 55).length=55:=by rw[aI,List.length_drop];omega
 have hhead:∀(c:List Nat),c.length=64→c=cellL (c.getD 3 0) ((c.drop 4).take 55)→c.take 59=d9 (c.getD 3 0) ((c.drop 4).take 55)∧(c.getD 0 0=87∧c.getD 1 0=115∧c.getD 2 0=1)∧∀i,i<4→c.getD (59+i) 0=(b4 (qh (c.take 59))).getD i 0:=fun c hc hce=>by
  have hcl:((c.drop 4).take 55).length=55:=(by rw[aI,List.length_drop];omega);have hhl:(d9 (c.getD 3 0) ((c.drop 4).take 55)).length=59:=qG (by omega)
  have e1:c.take 59=d9 (c.getD 3 0) ((c.drop 4).take 55):=by
   conv=>lhs;rw[hce]
   unfold cellL;exact List.take_left' hhl
  refine⟨e1,⟨?_,?_,?_⟩,fun i hi=> ?_⟩
  ·rw[hce];rfl
  ·rw[hce];rfl
  ·rw[hce];rfl
  ·rw[e1]
   conv=>lhs;rw[hce]
   unfold cellL;have:=I4 (a:=d9 (c.getD 3 0) ((c.drop 4).take 55)) (b:=b4 (qh (d9 (c.getD 3 0) ((c.drop 4).take 55)))++[165]) (i:=i);rw[hhl] at this;rw[this];exact I3 (by show i<4;exact hi)
 obtain⟨e1,⟨m0,m1,m2⟩,e2⟩:=hhead b hbl hbe;obtain⟨e1',⟨m0',m1',m2'⟩,e2'⟩:=hhead b' hl he;have d0:=hd 0 (by omega);have d1:=hd 1 (by omega);have d2:=hd 2 (by omega);have d3:=hd 3 (by omega);rw[m0,m0'] at d0;rw[m1,m1'] at d1;rw[m2,m2'] at d2;rw[h1] at d3
 have hat:4≤at_:=by
  rcases Nat.lt_or_ge at_ 4 with h | h
  ·exfalso
   have:at_=0∨at_=1∨at_=2∨at_=3:=(by omega);rcases this with rfl | rfl | rfl | rfl
   ·rw[show dl 0 m 0=1 from if_pos rfl] at d0;revert d0;decide
   ·rw[show dl 1 m 1=1 from if_pos rfl] at d1;revert d1;decide
   ·rw[show dl 2 m 2=1 from if_pos rfl] at d2;revert d2;decide
   ·rw[d3,show dl 3 m 3=1 from if_pos rfl] at hk;revert hk;decide
  ·exact h
 have hlt:∀c:List Nat,(∀x∈c,x<256)→qh c<4294967296:=fun c hc=>Nat.xor_lt_two_pow (n:=32) (mX c _ (by omega) hc) (by omega);have hby59:∀x∈b.take 59,x<256:=fun x hx=>hby x (List.mem_of_mem_take hx)
 have hD:b'.take 59=List.zipWith (·^^^ ·) (b.take 59) ((List.range 59).map (dl at_ m)):=by
  refine List.ext_getElem (by simp[hl,hbl]) fun i h3 h4=> ?_;have hi:i<59:=(by rw[aI] at h3;omega);rw[List.getElem_zipWith,List.getElem_take,List.getElem_take,List.getElem_map,List.getElem_range];have:=hd i (by omega);rw[af,af,ag (by omega),ag (by omega)] at this;exact this
 have hcrc:qh (b'.take 59)=qh (b.take 59) ^^^ gX ((List.range 59).map (dl at_ m)) 0:=by
  unfold qh;have:=Kb (b.take 59) ((List.range 59).map (dl at_ m)) 4294967295 0 (by simp[hbl]);rw[Nat.xor_zero] at this;rw[hD,this,Nat.xor_assoc,Nat.xor_assoc,Nat.xor_comm 4294967295]
 have hbytes:∀i,i<4→(b4 (gX ((List.range 59).map (dl at_ m)) 0)).getD i 0=dl at_ m (59+i):=fun i hi=>by
  have x1:=e2' i hi;rw[hcrc,Nj,←e2 i hi,hd (59+i) (by omega)] at x1;have x2:=congrArg (b.getD (59+i) 0 ^^^ ·) x1;simp only[←Nat.xor_assoc,Nat.xor_self,Nat.zero_xor] at x2;exact x2.symm
 have hdb:∀x∈(List.range 59).map (dl at_ m),x<256:=fun x hx=>by
  obtain⟨i,_,rfl⟩:=List.mem_map.1 hx;unfold dl;split
  ·omega
  ·split <;> omega
 rcases Nat.lt_or_ge at_ 56 with h56 | h56
 ·
  have hz:gX ((List.range 59).map (dl at_ m)) 0=0:=Nk (mX _ _ (by omega) hdb) (by omega) fun i hi=>by
   rw[hbytes i hi];unfold dl;rw[if_neg (by omega),if_neg (by omega)]
   match i,hi with
   | 0,_=>rfl
   | 1,_=>rfl
   | 2,_=>rfl
   | 3,_=>rfl
  refine burst at_ (55-at_) m hm (Eq.trans (congrArg (fun l=>gX l 0) ?_) hz);refine List.ext_getElem (by simp;omega) fun i h3 h4=> ?_;rw[List.getElem_map,List.getElem_range];unfold dl;have hi:i<59:=(by simpa using h4);by_cases c1:i<at_
  ·rw[List.getElem_append_left (by simpa using c1),List.getElem_replicate,if_neg (by omega),if_neg (by omega)]
  ·rw[List.getElem_append_right (by simpa using c1)]
   simp only[aN];by_cases c2:i-at_<4
   ·have:i-at_=0∨i-at_=1∨i-at_=2∨i-at_=3:=by omega
    rcases this with c | c | c | c
    ·rw[if_pos (by omega)];simp[c]
    ·rw[if_neg (by omega),if_neg (by omega)];simp[c]
    ·rw[if_neg (by omega),if_neg (by omega)];simp[c]
    ·rw[if_neg (by omega),if_pos (by omega)];simp[c]
   ·rw[List.getElem_append_right (by simp;omega),List.getElem_replicate,if_neg (by omega),if_neg (by omega)]
 ·have hcases:at_=56∨at_=57∨at_=58∨at_=59∨at_=60:=by omega
  rcases hcases with rfl | rfl | rfl | rfl | rfl
  ·have x:=hbytes 1 (by omega)
   have e:(List.range 59).map (dl 56 m)=List.replicate 56 0++[1,0,0]:=rfl;rw[e,jQ,iM,one3] at x
   revert x
   show ¬(29518391/256%256=dl 56 m 60);simp[dl]
  ·have x:=hbytes 0 (by omega)
   have e:(List.range 59).map (dl 57 m)=List.replicate 57 0++[1,0]:=rfl;rw[e,jQ,iM,one2] at x
   revert x
   show ¬(421212481%256=dl 57 m 59);simp[dl]
  ·have x:=hbytes 0 (by omega)
   have e:(List.range 59).map (dl 58 m)=List.replicate 58 0++[1]:=rfl;rw[e,jQ,iM,one1] at x
   revert x
   show ¬(1996959894%256=dl 58 m 59);simp[dl]
  ·have x:=hbytes 0 (by omega)
   have e:(List.range 59).map (dl 59 m)=List.replicate 59 0:=rfl;rw[e,iM] at x
   revert x
   show ¬(0%256=dl 59 m 59);simp[dl]
  ·have x:=hbytes 1 (by omega)
   have e:(List.range 59).map (dl 60 m)=List.replicate 59 0:=rfl;rw[e,iM] at x
   revert x
   show ¬(0/256%256=dl 60 m 60);simp[dl]
end Go.Proofs.YtofgapdnadbgkaaGreatDoor
