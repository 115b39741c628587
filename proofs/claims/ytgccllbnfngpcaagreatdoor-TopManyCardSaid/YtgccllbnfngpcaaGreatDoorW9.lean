import Derived.Test.YtgccllbnfngpcaaGreatDoorW8
import Derived.Laws.CopyRow
import Derived.Shelf.Bytes.SlSmallAll
import Derived.Lib.Bytes
set_option linter.unusedVariables false
set_option maxRecDepth 100000
set_option maxHeartbeats 400000000
namespace Go.Proofs.YtgccllbnfngpcaaGreatDoor
open Go.RowKit _root_.Go.Proofs.Tryz List
open Value (int slice pointer bool)
open IntKind (i64)
open Ending (returned)
open Obj (cells)
theorem jv{w:World}{ops:Array Oper}{rest:List Oper}{o:Oper}{a:Act}{Q:Exit->Act->World->Prop}(hgd:o.guard=none)(s x:Operand){C y:Nat}{i:Int}{v:Value}{xs:List Nat}(hi:i=(y:Int))
 (ho:o.op=.call { callee:=.builtin .append,args:=#[s,x],argTypes:=#[22,22] })
 (h:OwnI w C v xs)(hC:C<=w.heap.size)(hl:xs.length<=1000000)(hs:a.eval s=v)(hx:a.eval x=slice (some ⟨w.heap.size,0,none⟩) 1 1)
 (K:∀v' w2,OwnI w2 C v' (xs++[y])->Below C w w2->wpList prog ops Q rest (a.put o.dst v') w2):
 wpList prog ops Q (o :: rest) a (w.alloc (cells #[int i64 i] 3)):=by
 subst hi;have hba:=(az w.heap.size w).alloc (ah _) (cells #[int i64 (y:Int)] 3);have h1:OwnI (w.alloc (cells #[int i64 (y:Int)] 3)) C v xs:=fQ h hba;have hC1:=aO hC hba.size;have hcell:=dZ w #[int i64 (y:Int)] 3 0;have hbC:=hba.mono hC;generalize w.alloc (cells #[int i64 (y:Int)] 3)=w1 at*;refine jN (P:=prog) w1 hgd s x 22 ho C 3 (int i64 0) 8 underlying22 dY rfl v xs.length (bG xs) hs h1 w.heap.size (int i64 (y:Int)) hx hcell rfl (by omega) (by unfold maxLen;omega) hC1 fun v' w2 hown hg hat=> ?_;refine K v' w2 ?_ (hbC.trans ((az _ _).grown hg hC1 fun g hg=>(World.ownsRow.lt h1 g hg).1));unfold OwnI;rw[aH];have e:bG (xs++[y])=bG xs++[int i64 (y:Int)]:=by unfold bG;rw[aQ];rfl
 rw[e];exact hown
theorem OwnI.sl{w:World}{C:Nat}{v:Value}{l:List Nat}(h:OwnI w C v l):∃a n c,v=slice a n c:=by
 obtain⟨a,c,e,_⟩:=dB h;exact⟨a,_,c,e⟩
def rI(l:List Nat):Rp:=rC (bG l)
theorem d9{l:List Nat}{w:World}{C:Nat}{v:Value}(h:OwnI w C v l):(rI l).ok w (Fr C) [v]:=JY h
theorem dA{l:List Nat}{w:World}{F:Nat->Prop}{v:Value}{n:Nat}(h:(rI l).ok w F [v])(hn:l.length=n):∃a c,v=slice a n c/\Rd w w.heap.size a n (bG l)/\(a=none->c=0)/\n<=c/\c<=maxLen:=by
 subst hn;have:=Ar h
 rwa [tV] at this
theorem qF(K H Z:Nat)(w:World)(hk:eD K H Z=true):
 Calls prog 218 #[cE K H Z] w fun e w'=>∃v,e=returned v/\OwnI w' w.heap.size v (range K)/\Below w.heap.size w w':=by
 have hok:=aZ hk;have hK1:K<=16:=by omega
 have hK0:1<=K:=by omega
 have HB0:=ae ((az w.heap.size w).alloc (ah _) (cells #[int i64 K,int i64 H,int i64 Z] 25));have HO0:=ae (OwnI.nil (w.alloc (cells #[int i64 K,int i64 H,int i64 Z] 25)) w.heap.size);clear hok hk;have hlt:¬(16:Int)<(K:Int):=by omega
 have hlt2:(0:Int)<(K:Int):=by omega
 unfold cE;go_enter func218,ntmps218;go_wp2_with fail;generalize w.alloc (cells #[int i64 K,int i64 H,int i64 Z] 25)=w0 at*;go_loopw [3,9] (fun v i wr=>∃k:Nat,k<=K/\i=int i64 k/\Hid (OwnI wr w.heap.size v (range k))/\Hid (Below w.heap.size w wr)) (fun _ i _=>K-(intOf i).toNat)
 case atStart=>exact⟨0,by omega,rfl,HO0,HB0⟩
 case round=>
  clear HO0 HB0;obtain⟨k,hkn,rfl,HO,HB⟩:=hrel;obtain⟨bv,nv,cv,rfl⟩:=HO.out.sl;by_cases hkK:k<K
  ·have hkI:(k:Int)<(K:Int):=by omega
   go_wp2_with (at_builtin;refine jv (w:=wr) (y:=k) rfl _ _ ?hi rfl HO.out HB.out.size (by rw[aY];omega) rfl rfl ?_)
   case hi=>first | rfl | trivial
   intro v2 w2 hO hb;rw[<-range_succ] at hO;have HO2:=ae hO;have HB2:=ae (HB.out.trans hb);clear hO hb HO HB;obtain⟨b2,n2,c2,rfl⟩:=HO2.out.sl;go_wp2_with fail;go_roundw
   case rel=>exact⟨k+1,by omega,by go_num,HO2,HB2⟩
   case measure=>simp[intOf];omega
  ·obtain rfl:k=K:=by omega
   go_wp2_with fail;go_ret;exact⟨_,rfl,HO.out,HB.out⟩
theorem AZ(K H Z:Nat)(s:Int)(ids:List Nat)(a:Option Addr)(n c:Nat)(w:World)(hk:eD K H Z=true)(hs0:0<=s)(hs1:s<4294967296)(hx:Rd w w.heap.size a n (bG ids))(hi:∀i∈ids,i<=65535)(hn:n<=1000):
 Calls prog 231 #[cE K H Z,.int .u32 s,slice a n c] w fun e w'=>e=returned (int i64 ((dE (dV K H Z s ids)).length:Nat))/\Below w.heap.size w w':=by
 have hok:=aZ hk;have hl:ids.length=n:=by have:=hx.len;simpa[bG] using this
 have CM:=ae fun w (h:Rd w w.heap.size a n (bG ids))=>oG K H Z s ids a n c w hk hs0 hs1 h hi hn;have HWF:=ae (qp (s:=s) hk hi);have HLN:Hid ((dV K H Z s ids).length=H+n):=ae (by rw[ll,hl])
 have S0:Hid (Sx w (w.alloc (cells #[int i64 K,int i64 H,int i64 Z] 25)) [bQ w.heap.size 25 #[int i64 K,int i64 H,int i64 Z],kT a n (bG ids)]):=
  ae (((((Sx.nil w).add (kT a n (bG ids)) hx).alloc _).add (bQ _ _ _) (Blk.new w 25 #[int i64 K,int i64 H,int i64 Z])))
 have hH2:H<=4:=by omega
 have hK2:K<=16:=by omega
 clear hx hi hl hok hk;unfold cE at CM ⊢;generalize dV K H Z s ids=M at*;go_enter func231,ntmps231;go_wp2_with fail;generalize w.alloc (cells #[int i64 K,int i64 H,int i64 Z] 25)=w0 at*;generalize w.heap.size=P at*;obtain⟨k0,k1,k2⟩:=iU (S0.out.blk 0 rfl)
 go_region_held3 (fun w'=>w'.cell? ⟨P,0,none⟩=some (int i64 K)/\w'.cell? ⟨P,1,none⟩=some (int i64 H)/\w'.cell? ⟨P,2,none⟩=some (int i64 Z)) (go_keep) (first
  | (go_at_call 216
     refine(oZ _).mono ?_;rintro e wA ⟨g,rfl,hg,hF,hb⟩;have S1:=ae ((S0.out.drew.step hb).add (eFp (some ⟨g,0,none⟩)) (Fp.of hF));obtain⟨n0,n1,n2⟩:=iU (S1.out.blk 1 rfl);clear hg hF hb)
  | (go_at_call 217
     have S1x:=S1;refine(CM.out _ (S1.out.rd 2 rfl)).mono ?_;rintro e wB ⟨v,rfl,hR,hb⟩;obtain⟨a1,c1,rfl,hM,-⟩:=fM hR HLN.out;have S2:=ae ((S1.out.step hb).add (uH a1 (H+n) M) hM);obtain⟨q0,q1,q2⟩:=iU (S2.out.blk 2 rfl);clear hR hM hb)
  | (go_at_call 290
     refine(K6 (some ⟨g,0,none⟩) (K+H) (H+n) c1 M a1 _ (S2.out.fp 1 rfl) (S2.out.get 0 rfl) HWF.out (by omega) (by omega)).mono ?_;rintro e wC ⟨rfl,hb⟩;have S3:=ae (S2.out.step hb);obtain⟨p0,p1,p2⟩:=iU (S3.out.blk 2 rfl);clear hb))
 all_goals(
  go_wp2_with fail;go_ret;exact⟨rfl,S3.out.1⟩)
def dc(K H Z:Nat)(s:Int)(ids:List Nat):Bool:=decide ((dE (dV K H Z s ids)).length=K+H)
theorem su(K H Z:Nat)(s:Int)(ids:List Nat)(a:Option Addr)(n c:Nat)(w:World)(hk:eD K H Z=true)(hs0:0<=s)(hs1:s<4294967296)(hx:Rd w w.heap.size a n (bG ids))(hi:∀i∈ids,i<=65535)(hn:n<=1000):
 Calls prog 173 #[cE K H Z,.int .u32 s,slice a n c] w fun e w'=>e=returned (bool (dc K H Z s ids))/\Below w.heap.size w w':=by
 have CM:=ae fun w=>fS K H Z w;rw[hk] at CM;have CR:=ae fun w (h:Rd w w.heap.size a n (bG ids))=>AZ K H Z s ids a n c w hk hs0 hs1 h hi hn;have CC:=ae fun w=>mE K H Z w;have hcol:iE K H Z=((K+H:Nat):Int):=by unfold iE;rw[bf hk,Int.natCast_add]
 rw[hcol] at CC
 have S0:Hid (Sx w (w.alloc (cells #[int i64 K,int i64 H,int i64 Z] 25)) [bQ w.heap.size 25 #[int i64 K,int i64 H,int i64 Z],kT a n (bG ids)]):=
  ae (((((Sx.nil w).add (kT a n (bG ids)) hx).alloc _).add (bQ _ _ _) (Blk.new w 25 #[int i64 K,int i64 H,int i64 Z])))
 have HQ:Hid (dc K H Z s ids=decide ((dE (dV K H Z s ids)).length=K+H)):=ae rfl;clear hx hi hk hcol;unfold cE at CM CR CC ⊢;generalize (dE (dV K H Z s ids)).length=r at*;generalize K+H=N at*;go_enter func173,ntmps173;go_wp2_with fail;generalize w.alloc (cells #[int i64 K,int i64 H,int i64 Z] 25)=w0 at*;generalize w.heap.size=P at*;obtain⟨k0,k1,k2⟩:=iU (S0.out.blk 0 rfl)
 go_region_held3 (fun w'=>w'.cell? ⟨P,0,none⟩=some (int i64 K)/\w'.cell? ⟨P,1,none⟩=some (int i64 H)/\w'.cell? ⟨P,2,none⟩=some (int i64 Z)) (go_keep) (first
  | (go_at_call 88
     refine(CM.out _).mono ?_;rintro e wA ⟨rfl,hb⟩;have S1:=ae (S0.out.drew.step hb);obtain⟨n0,n1,n2⟩:=iU (S1.out.blk 0 rfl);clear hb)
  | (go_at_call 231
     refine(CR.out _ (S1.out.rd 1 rfl)).mono ?_;rintro e wB ⟨rfl,hb⟩;have S2:=ae (S1.out.step hb);obtain⟨q0,q1,q2⟩:=iU (S2.out.blk 0 rfl);clear hb)
  | (go_at_call 232
     refine(CC.out _).mono ?_;rintro e wC ⟨rfl,hb⟩;have S3:=ae (S2.out.step hb);obtain⟨p0,p1,p2⟩:=iU (S3.out.blk 0 rfl);clear hb))
 all_goals(
  go_wp2_with fail;go_ret;refine⟨qz ?_,S3.out.1⟩;rw[HQ.out,Bool.eq_iff_iff,beq_iff_eq,decide_eq_true_iff];omega)
theorem lZ(K H Z:Nat)(s:Int)(w:World)(hk:eD K H Z=true)(hs0:0<=s)(hs1:s<4294967296):
 Calls prog 214 #[cE K H Z,.int .u32 s] w fun e w'=>e=returned (bool (dc K H Z s (range K)))/\Below w.heap.size w w':=by
 have hok:=aZ hk;have CA:=ae fun w=>qF K H Z w hk;have CF:=ae fun a c w (h:Rd w w.heap.size a K (bG (range K)))=>su K H Z s (range K) a K c w hk hs0 hs1 h (fun i hi=>by have:=bA.1 hi;omega) (by omega)
 have S0:Hid (Sx w (w.alloc (cells #[int i64 K,int i64 H,int i64 Z] 25)) [bQ w.heap.size 25 #[int i64 K,int i64 H,int i64 Z]]):=
  ae ((((Sx.nil w).alloc _).add (bQ _ _ _) (Blk.new w 25 #[int i64 K,int i64 H,int i64 Z])))
 clear hk hok;unfold cE at CA CF ⊢;generalize dc K H Z s (range K)=r at*;go_enter func214,ntmps214;go_wp2_with fail;generalize w.alloc (cells #[int i64 K,int i64 H,int i64 Z] 25)=w0 at*;generalize w.heap.size=P at*;obtain⟨k0,k1,k2⟩:=iU (S0.out.blk 0 rfl)
 go_region_held3 (fun w'=>w'.cell? ⟨P,0,none⟩=some (int i64 K)/\w'.cell? ⟨P,1,none⟩=some (int i64 H)/\w'.cell? ⟨P,2,none⟩=some (int i64 Z)) (go_keep) (first
  | (go_at_call 218
     refine(CA.out _).mono ?_;rintro e wA ⟨v,rfl,hO,hb⟩;obtain⟨a1,c1,rfl,hr,-⟩:=dA (d9 hO) aY;have S1:=ae ((S0.out.drew.step hb).add (kT a1 K (bG (range K))) hr);obtain⟨n0,n1,n2⟩:=iU (S1.out.blk 1 rfl);clear hb hO hr)
  | (go_at_call 173
     refine(CF.out _ _ _ (S1.out.rd 0 rfl)).mono ?_;rintro e wB ⟨rfl,hb⟩;have S2:=ae (S1.out.step hb);obtain⟨q0,q1,q2⟩:=iU (S2.out.blk 1 rfl);clear hb))
 all_goals(
  go_wp2_with fail;go_ret;exact⟨rfl,S2.out.1⟩)
theorem Eb(K H Z:Nat)(s:Int)(ids:List Nat)(a:Option Addr)(n c:Nat)(w:World)(hk:eD K H Z=true)(hs0:0<=s)(hs1:s<4294967296)(hx:Rd w w.heap.size a n (bG ids))(hi:∀i∈ids,i<=65535)(hn:n<=1000):
 Calls prog 153 #[cE K H Z,.int .u32 s,slice a n c] w fun e w'=>∃v,e=returned v/\(rM (dV K H Z s ids)).ok w' Any [v]/\Below w.heap.size w w':=by
 have hok:=aZ hk;have hl:ids.length=n:=by have:=hx.len;simpa[bG] using this
 have CM:=ae fun w=>ni K H Z w;rw[hk] at CM;have CP:=ae fun w=>wT K H Z w (by omega) (by omega) (by omega);have CR:=ae fun (id:Nat) (hid:id<=65535) w=>zR K H Z s id w hk (by omega) (by omega) hs0 hs1;have CI:=ae fun (id:Nat) w=>qW id w;have HI:=ae hi;have HL:=ae hl;have HK:=ae hk
 have S00:Hid (Sx w (w.alloc (cells #[int i64 K,int i64 H,int i64 Z] 25)) [bQ w.heap.size 25 #[int i64 K,int i64 H,int i64 Z],kT a n (bG ids)]):=
  ae (((((Sx.nil w).add (kT a n (bG ids)) hx).alloc _).add (bQ _ _ _) (Blk.new w 25 #[int i64 K,int i64 H,int i64 Z])))
 have hH2:H<=4:=by omega
 have hK2:K<=16:=by omega
 clear hx hi hl hok hk;unfold cE at CM CP CR ⊢;go_enter func153,ntmps153;go_wp2_with fail;generalize w.alloc (cells #[int i64 K,int i64 H,int i64 Z] 25)=w00 at*;generalize w.heap.size=P at*;refine(CM.out _).mono ?_;rintro e w0 ⟨rfl,hb⟩;have S0:=ae (S00.out.step hb);obtain⟨k0,k1,k2⟩:=iU (S0.out.blk 0 rfl);clear hb S00 CM;go_wp2_with fail;refine(CP.out _).mono ?_;rintro e w1 ⟨v1,rfl,hO,hb⟩;have HB1:=ae hb
 have HO:Hid (OwnS w1 w0.heap.size 30 1 Any v1 ((dV K H Z s (ids.take 0)).map rB)):=ae (by
  have:=(xA hO).base (ah _) (G:=Any) fun _ _=>trivial;unfold dV;rw[take_zero,map_nil,append_nil];exact this)
 obtain⟨b1,n1,cc1,rfl⟩:=HO.out.sl;clear hO hb CP k0 k1 k2;go_wp2_with fail;go_loopw [7,17] (fun v i wr=>∃k:Nat,k<=n/\i=int i64 k/\Hid (OwnS wr w0.heap.size 30 1 Any v ((dV K H Z s (ids.take k)).map rB))/\Hid (Below w0.heap.size w0 wr)) (fun _ i _=>n-(intOf i).toNat)
 case atStart=>exact⟨0,by omega,rfl,HO,HB1⟩
 case round=>
  clear HO HB1;obtain⟨k,hkn,rfl,HO,HB⟩:=hrel;have S1:=ae (S0.out.step HB.out);obtain⟨bv,nv,cv,rfl⟩:=HO.out.sl;by_cases hlt:k<n
  ·have hltI:(k:Int)<(n:Int):=by omega
   have hkl:k<ids.length:=(by rw[HL.out];exact hlt);obtain⟨b,o,rfl,hb,cq⟩:=iz (S1.out.rd 1 rfl) hlt;have hid:ids.getD k 0<=65535:=HI.out _ (by rw[getD_at hkl];exact aP hkl);have HSN:=ae (xQ K H Z s hkl);have hsl:((dV K H Z s (ids.take k)).map rB).length<=1000000:=(by rw[aC,ll,aG];omega);have HRE:=ae (EW (s:=s) (id:=(ids.getD k 0:Nat)) HK.out (by omega) (by omega));have HRL:=ae (ql (s:=s) (id:=(ids.getD k 0:Nat)) HK.out (by omega) (by omega));obtain⟨k0,k1,k2⟩:=iU (S1.out.blk 0 rfl);generalize ids.getD k 0=x at*;have hdc:decide (0<=(x:Int)/\(x:Int)<=65535)=true:=ba (by omega);have CI2:=ae (CI.out x);rw[hdc] at CI2;clear hkl hdc;go_wp2_with fail;refine(CI2.out wr).mono ?_;rintro e w2 ⟨rfl,rfl⟩;go_wp2_with fail;refine(CR.out x hid wr).mono ?_;rintro e w3 ⟨g,n3,rfl,hK,rfl,hb3⟩;rw[HRE.out] at hK;have HB3:=ae (HB.out.trans (hb3.mono HB.out.size));have HO3:=ae (HO.out.new hb3);have HK3:=ae hK;have hC3:=HB3.out.size;have hlen:(iO K H Z s x).length=((K:Int)+H).toNat:=(by rw[HRL.out.1];omega);have HNE:Hid (some g≠(Value.slice bv nv cv).ownBlock):=ae (HO3.out.ty hK (by decide));have HLN:=ae hlen;clear hK hb3 hlen cq k0 k1 k2 HO S1 HB;generalize ((K:Int)+H).toNat=N at*
   go_wp2_with (at_builtin;refine fF (w:=w3) rfl _ _ rfl underlying45 dI rfl (by decide) (by decide) HO3.out (az _ _) hC3 hsl (R:=rB (iO K H Z s x)) ?r1 rfl rfl rfl ?_)
   case r1=>
    have h1:(rB (iO K H Z s x)).ok w3 (fun b=>Any b/\some b≠(Value.slice bv nv cv).ownBlock) [slice (some ⟨g,0,none⟩) (iO K H Z s x).length (iO K H Z s x).length]:=lQ HK3.out ⟨trivial,HNE.out⟩ (by rw[HRL.out.1];unfold maxLen;omega);rw[HLN.out] at h1;exact h1
   intro v4 w4 hO4 hb4;rw[<-HSN.out] at hO4;have HO4:=ae hO4;have HB4:=ae (HB3.out.trans hb4);clear hO4 hb4 HO3 HK3 HB3 hC3;obtain⟨b4,n4,c4,rfl⟩:=HO4.out.sl;go_wp2_with fail;go_roundw
   case rel=>exact⟨k+1,by omega,by go_num,HO4,HB4⟩
   case measure=>simp[intOf];omega
  ·obtain rfl:k=n:=by omega
   rw[aJ (by rw[HL.out];exact ah _)] at HO;go_wp2_with fail;go_ret;exact⟨_,rfl,(rM _).any HO.out.rep,S1.out.1⟩
theorem Ec(K H Z:Nat)(s:Int)(ids:List Nat)(a:Option Addr)(n c:Nat)(w:World)(hk:eD K H Z=true)(hs0:0<=s)(hs1:s<4294967296)(hx:Rd w w.heap.size a n (bG ids))(hi:∀i∈ids,i<=65535)(hn:n<=1000):
 Calls prog 97 #[cE K H Z,.int .u32 s,slice a n c] w fun e w'=>e=returned (int i64 ((dE (dV K H Z s ids)).length:Nat))/\Below w.heap.size w w':=by
 have hok:=aZ hk;have hl:ids.length=n:=by have:=hx.len;simpa[bG] using this
 have CM:=ae fun w (h:Rd w w.heap.size a n (bG ids))=>Eb K H Z s ids a n c w hk hs0 hs1 h hi hn;have HWF:=ae (qp (s:=s) hk hi);have HLN:Hid ((dV K H Z s ids).length=H+n):=ae (by rw[ll,hl])
 have S0:Hid (Sx w (w.alloc (cells #[int i64 K,int i64 H,int i64 Z] 25)) [kT a n (bG ids)]):=
  ae (((Sx.nil w).add (kT a n (bG ids)) hx).alloc _)
 have hH2:H<=4:=by omega
 have hK2:K<=16:=by omega
 clear hx hi hl hok hk;unfold cE at CM ⊢;generalize dV K H Z s ids=M at*;go_enter func97,ntmps97;go_wp2_with fail;generalize w.alloc (cells #[int i64 K,int i64 H,int i64 Z] 25)=w0 at*;refine(CM.out _ (S0.out.rd 0 rfl)).mono ?_;rintro e wB ⟨v,rfl,hR,hb⟩;obtain⟨a1,c1,rfl,hM,-⟩:=fM hR HLN.out;have S2:=ae ((S0.out.step hb).add (uH a1 (H+n) M) hM);clear hR hM hb;go_wp2_with fail;refine(J3 (K+H) (H+n) c1 M a1 _ (S2.out.get 0 rfl) HWF.out (by omega) (by omega)).mono ?_;rintro e wC ⟨rfl,hb⟩;have S3:=ae (S2.out.step hb);clear hb;go_wp2_with fail;go_ret;exact⟨rfl,S3.out.1⟩
theorem Lb(K H Z:Nat)(s:Int)(ids:List Nat)(a:Option Addr)(n c:Nat)(w:World)(hk:eD K H Z=true)(hs0:0<=s)(hs1:s<4294967296)(hx:Rd w w.heap.size a n (bG ids))(hi:∀i∈ids,i<=65535)(hn:n<=1000):
 Calls prog 47 #[cE K H Z,.int .u32 s,slice a n c] w fun e w'=>e=returned (bool (dc K H Z s ids))/\Below w.heap.size w w':=by
 have CM:=ae fun w=>ni K H Z w;rw[hk] at CM;have CR:=ae fun w (h:Rd w w.heap.size a n (bG ids))=>Ec K H Z s ids a n c w hk hs0 hs1 h hi hn;have CC:=ae fun w=>uU K H Z w;have hcol:iE K H Z=((K+H:Nat):Int):=by unfold iE;rw[bf hk,Int.natCast_add]
 rw[hcol] at CC
 have S0:Hid (Sx w (w.alloc (cells #[int i64 K,int i64 H,int i64 Z] 25)) [bQ w.heap.size 25 #[int i64 K,int i64 H,int i64 Z],kT a n (bG ids)]):=
  ae (((((Sx.nil w).add (kT a n (bG ids)) hx).alloc _).add (bQ _ _ _) (Blk.new w 25 #[int i64 K,int i64 H,int i64 Z])))
 have HQ:Hid (dc K H Z s ids=decide ((dE (dV K H Z s ids)).length=K+H)):=ae rfl;clear hx hi hk hcol;unfold cE at CM CR CC ⊢;generalize (dE (dV K H Z s ids)).length=r at*;generalize K+H=N at*;go_enter func47,ntmps47;go_wp2_with fail;generalize w.alloc (cells #[int i64 K,int i64 H,int i64 Z] 25)=w0 at*;generalize w.heap.size=P at*;obtain⟨k0,k1,k2⟩:=iU (S0.out.blk 0 rfl)
 go_region_held3 (fun w'=>w'.cell? ⟨P,0,none⟩=some (int i64 K)/\w'.cell? ⟨P,1,none⟩=some (int i64 H)/\w'.cell? ⟨P,2,none⟩=some (int i64 Z)) (go_keep) (first
  | (go_at_call 96
     refine(CM.out _).mono ?_;rintro e wA ⟨rfl,hb⟩;have S1:=ae (S0.out.drew.step hb);obtain⟨n0,n1,n2⟩:=iU (S1.out.blk 0 rfl);clear hb)
  | (go_at_call 97
     refine(CR.out _ (S1.out.rd 1 rfl)).mono ?_;rintro e wB ⟨rfl,hb⟩;have S2:=ae (S1.out.step hb);obtain⟨q0,q1,q2⟩:=iU (S2.out.blk 0 rfl);clear hb)
  | (go_at_call 98
     refine(CC.out _).mono ?_;rintro e wC ⟨rfl,hb⟩;have S3:=ae (S2.out.step hb);obtain⟨p0,p1,p2⟩:=iU (S3.out.blk 0 rfl);clear hb))
 all_goals(
  go_wp2_with fail;go_ret;refine⟨qz ?_,S3.out.1⟩;rw[HQ.out,Bool.eq_iff_iff,beq_iff_eq,decide_eq_true_iff];omega)
theorem Eh(a b c:Int)(w:World)(ha: -9223372036854775808<=a/\a<=9223372036854775807)(hb: -9223372036854775808<=b/\b<=9223372036854775807)(hc: -9223372036854775808<=c/\c<=9223372036854775807):
 Calls prog 40 #[int i64 a,int i64 b,int i64 c] w fun e w'=>e=returned (cE (1+a%6) (1+b%3) (1+c%9))/\Below w.heap.size w w':=by
 have CA:=ae fun w=>eM a 6 w ha (by omega) (by omega);have CB:=ae fun w=>eM b 3 w hb (by omega) (by omega);have CC:=ae fun w=>eM c 9 w hc (by omega) (by omega);have a1:=Int.emod_nonneg a (show(6:Int)≠0 by omega);have a2:=Int.emod_lt_of_pos a (show(0:Int)<6 by omega);have b1:=Int.emod_nonneg b (show(3:Int)≠0 by omega);have b2:=Int.emod_lt_of_pos b (show(0:Int)<3 by omega);have c1:=Int.emod_nonneg c (show(9:Int)≠0 by omega);have c2:=Int.emod_lt_of_pos c (show(0:Int)<9 by omega);generalize a%6=x at*;generalize b%3=y at*;generalize c%9=z at*;clear ha hb hc;go_enter func40,ntmps40;go_wp2_with fail;refine(CA.out _).mono ?_;rintro e w1 ⟨rfl,rfl⟩;go_wp2_with fail;refine(CB.out _).mono ?_;rintro e w1 ⟨rfl,rfl⟩;go_wp2_with fail;refine(CC.out _).mono ?_;rintro e w1 ⟨rfl,rfl⟩;go_wp2_with fail;refine bodyPost_ret (results_cell_row rfl _ _ w.heap.size 25 _ (0,0) _ rfl (Blk.new w 25 #[int i64 (1+x),int i64 (1+y),int i64 (1+z)]) underlying25 rfl (by kernel_rfl)) rfl ?_;exact⟨rfl,(az _ _).alloc (ah _) _⟩
theorem Lv(zs:List Int)(B:Nat)(a:Option Addr)(n c k:Nat)(w:World)(hx:Rd w B a n (zs.map (Value.int .i64))):
 Calls prog 41 #[slice a n c,int i64 k] w fun e w'=>e=returned (int i64 (zs.getD k 0))/\w=w':=by
 have hl:zs.length=n:=by have:=hx.len;simpa using this
 by_cases hk:k<n
 ·have hkI:(k:Int)<(n:Int):=by omega
  obtain⟨b,o,rfl,hb,hc⟩:=hx.2 (by omega);have cq:=hc k (int i64 (zs.getD k 0)) (by rw[List.getElem?_map,af,ag (by omega)];rfl);generalize zs.getD k 0=z at*;clear hc hx hl;go_enter func41,ntmps41;go_wp2_with fail;go_ret;exact⟨rfl,rfl⟩
 ·have hkI:¬(k:Int)<(n:Int):=by omega
  have e:zs.getD k 0=0:=(by rw[af,List.getElem?_eq_none (by omega)];rfl);rw[e];clear hx hl e;go_enter func41,ntmps41;go_wp2_with fail;go_ret;exact⟨rfl,rfl⟩
theorem pG(K H S:Nat)(w:World)(hK:K<=16)(hS:S<=24):
 Calls prog 156 #[cE K H S] w fun e w'=>e=returned (int i64 (K*S:Nat))/\Below w.heap.size w w':=by
 have hb:=(az w.heap.size w).alloc (ah _) (cells #[int i64 K,int i64 H,int i64 S] 25);have HB:=ae hb;clear hb;have hm:K*S<=16*24:=bn hK hS;have hmI:(K:Int)*(S:Int)=((K*S:Nat):Int):=by rw[Int.natCast_mul]
 have hw:IntKind.i64.wrap ((K*S:Nat):Int)=((K*S:Nat):Int):=by rw[IntKind.wrap_i64];omega
 generalize K*S=q at*;unfold cE;go_enter func156,ntmps156;go_wp2_with fail;go_ret
 first
 | exact⟨rfl,HB.out⟩
 | exact⟨congrArg (fun x=>Ending.returned (int i64 x)) hmI,HB.out⟩
def iB(q n:Nat):Nat:=if n=0 then 0 else (n-1)/q+1
theorem pF{w:World}{g:Nat}{t:TypeId}{x y z:Value}(h:Blk w g t #[x,y,z]):w.cell? ⟨g,0,none⟩=some x/\w.cell? ⟨g,1,none⟩=some y/\w.cell? ⟨g,2,none⟩=some z:=⟨h.cell 0,h.cell 1,h.cell 2⟩
theorem kN(K H S n:Nat)(w:World)(hk:eD K H S=true)(hn:n<=1000000):
 Calls prog 103 #[cE K H S,int i64 n] w fun e w'=>e=returned (int i64 (iB (K*S) n:Nat))/\Below w.heap.size w w':=by
 have hok:=aZ hk;have CM:=ae fun w=>fS K H S w;have CS:=ae fun w=>pG K H S w (by omega) (by omega);rw[hk] at CM;have HX0:=ae (Blk.new w 25 #[int i64 K,int i64 H,int i64 S]);have HB0:=ae ((az w.heap.size w).alloc (ah _) (cells #[int i64 K,int i64 H,int i64 S] 25));have hq1:1<=K*S:=bn (show 1<=K by omega) (show 1<=S by omega);have hq2:K*S<=16*24:=bn (by omega) (by omega);generalize K*S=q at*;unfold cE at CM CS ⊢;clear hok hk;go_enter func103,ntmps103;go_wp2_with fail;generalize w.alloc (cells #[int i64 K,int i64 H,int i64 S] 25)=w0 at*;by_cases h0:n=0
 ·subst h0
  refine(CM.out _).mono ?_;rintro e w1 ⟨rfl,hb⟩;have HB1:=ae (HB0.out.trans (hb.mono HB0.out.size));clear hb;go_wp2_with fail;go_ret;exact⟨rfl,HB1.out⟩
 ·have hnI:¬(n:Int)<=0:=by omega
  have hn0:¬n=0:=h0;refine(CM.out _).mono ?_;rintro e w1 ⟨rfl,hb⟩;have HB1:=ae (HB0.out.trans (hb.mono HB0.out.size));have HX1:=ae (HX0.out.below hb HX0.out.lt);obtain⟨k0,k1,k2⟩:=pF HX1.out;have hqI:¬(q:Int)=0:=(by omega);have hqb:((q:Int) == 0)=false:=by simp;omega
  have hd:((n:Int)-1).tdiv (q:Int)=(((n-1)/q:Nat):Int):=by
   rw[show(n:Int)-1=((n-1:Nat):Int) by omega];rfl
  have hdl:(n-1)/q<=1000000:=aO (Nat.div_le_self _ _) (by omega);have HC:Hid (iB q n=(n-1)/q+1):=ae (by unfold iB;rw[bg h0]);generalize (n-1)/q=d at*;clear hb CM HX0 HB0;go_wp2_with fail;refine(CS.out _).mono ?_;rintro e w2 ⟨rfl,hb⟩;have HB2:=ae (HB1.out.trans (hb.mono HB1.out.size));clear hb;go_wp2_with fail;go_ret;exact⟨by rw[HC.out];first | rfl | (congr 2),HB2.out⟩
def wP(s:Nat):Nat:=if s%2=1 then s/2 ^^^ 3988292384 else s/2
def uY:Nat->Nat->Nat | 0,s=>s | k+1,s=>uY k (wP s)
def crcS(s x:Nat):Nat:=uY 8 (s ^^^ x)
def rD(l:List Nat)(s:Nat):Nat:=l.foldl crcS s
def AC(l:List Nat):Nat:=rD l 4294967295 ^^^ 4294967295
theorem My{s:Nat}(h:s<4294967296):wP s<4294967296:=by
 unfold wP;split
 ·exact Nat.xor_lt_two_pow (n:=32) (by omega) (by omega)
 ·omega
theorem EI(k:Nat):∀ {s:Nat},s<4294967296->uY k s<4294967296:=by
 induction k with
 | zero=>intro s h;exact h
 | succ k ih=>intro s h;exact ih (My h)
theorem MB{s x:Nat}(h:s<4294967296)(hx:x<256):crcS s x<4294967296:=
 EI 8 (Nat.xor_lt_two_pow (n:=32) h (by omega))
theorem yU:∀(l:List Nat) (s:Nat),s<4294967296->(∀x∈l,x<256)->rD l s<4294967296:=by
 intro l
 induction l with
 | nil=>intro s h _;exact h
 | cons x l ih=>intro s h hl;exact ih _ (MB h (hl x (by simp))) fun y hy=>hl y (by simp[hy])
theorem J8(a b:List Nat)(s:Nat):rD (a++b) s=rD b (rD a s):=foldl_append
def b4(s:Nat):List Nat:=[s%256,s/256%256,s/65536%256,s/16777216%256]
def gI(kind:Nat)(body:List Nat):List Nat:=[87,115,1,kind]++(body++replicate (55-body.length) 0)
def cellL(kind:Nat)(body:List Nat):List Nat:=gI kind body++(b4 (AC (gI kind body))++[165])
def kx(b:List Nat):Prop:=b.length=64/\1<=b.getD 3 0/\b=cellL (b.getD 3 0) ((b.drop 4).take 55)
theorem x8{kind:Nat}{body:List Nat}(h:body.length<=55):(gI kind body).length=59:=by simp[gI];omega
theorem je{kind:Nat}{body:List Nat}(h:body.length<=55):(cellL kind body).length=64:=by simp[cellL,b4,x8 h]
theorem Hp(k:Nat):∀s,uY (k+1) s=wP (uY k s):=by
 induction k with
 | zero=>intro s;rfl
 | succ k ih=>intro s;show uY (k+1) (wP s)=wP (uY k (wP s));exact ih (wP s)
theorem Hq{xs:List Nat}{k:Nat}(h:k<xs.length)(s:Nat):rD (xs.take (k+1)) s=uY 8 (rD (xs.take k) s ^^^ xs.getD k 0):=by
 rw[aN h,J8,af,ag h];rfl
theorem Nr(xs:List Nat)(B:Nat)(a:Option Addr)(n c:Nat)(w:World)(hx:Rd w B a n (bF xs))(hb:By xs)(hn:n<=1000000):
 Calls prog 207 #[slice a n c] w fun e w'=>e=returned (.int .u32 (AC xs:Nat))/\∃j,w'=w.drewN j:=by
 have HX:=ae hx;have HB:=ae hb;have HL:Hid (xs.length=n):=ae (by have:=hx.len;rwa [bI] at this);clear hx hb;go_enter func207,ntmps207;go_wp2_with fail;go_loopw [3,9] (fun s i wr=>∃k:Nat,k<=n/\i=int i64 k/\s=.int .u32 (rD (xs.take k) 4294967295:Nat)/\Hid (∃j,wr=w.drewN j)) (fun _ i _=>n-(intOf i).toNat)
 case atStart=>exact⟨0,by omega,rfl,rfl,ae ⟨0,rfl⟩⟩
 case round=>
  obtain⟨k,hk,rfl,rfl,HJ⟩:=hrel;obtain⟨j,hj⟩:=HJ.out;clear HJ;by_cases hkn:k<n
  ·have hknI:(k:Int)<(n:Int):=by omega
   have hkx:k<xs.length:=(by rw[HL.out];exact hkn);obtain⟨b1,o1,rfl,hb1,hcc⟩:=HX.out.atB hkn;have cq:wr.cell? ⟨b1,o1+k,none⟩=some (.int .u8 (xs.getD k 0:Nat)):=(by rw[hj];exact hcc k hkn);have hx256:=getD_lt HB.out k;have hs32:=yU (xs.take k) 4294967295 (by omega) fun y hy=>HB.out y (bD hy);have HST:=ae (Hq hkx 4294967295);have HJ:=ae hj;clear hcc hj hkx;generalize hs2e:rD (xs.take (k+1)) 4294967295=s2 at*;have HST2:=ae hs2e;clear hs2e;generalize rD (xs.take k) 4294967295=s0 at*;generalize xs.getD k 0=x at*;have hxr:=u32_xor_nat s0 x hs32 (by omega);have hs1:s0 ^^^ x<4294967296:=Nat.xor_lt_two_pow (n:=32) hs32 (by omega);generalize hs1e:s0 ^^^ x=s1 at*;have HS1:=ae hs1e;clear hs1e;go_wp2_with fail;clear cq hxr;go_loopw [3,17] (fun s i wq=>∃t:Nat,t<=8/\i=int i64 t/\s=.int .u32 (uY t s1:Nat)/\wq=wr) (fun _ i _=>8-(intOf i).toNat)
   case atStart=>exact⟨0,by omega,rfl,rfl,rfl⟩
   case round=>
    obtain⟨t,ht,rfl,rfl,hw⟩:=hrel;have HW:=ae hw;clear hw;by_cases ht8:t<8
    ·have ht8I:(t:Int)<8:=by omega
     have hv:=EI t hs1;have HN:=ae (Hp t s1);generalize hn1:uY (t+1) s1=v1 at*;have HN1:=ae hn1;clear hn1;generalize uY t s1=v at*;have hand:=u32_and_nat v 1 hv (by omega);rw[Nat.and_one_is_mod] at hand;by_cases hodd:v%2=1
     ·have e1:v1=v/2 ^^^ 3988292384:=by rw[HN.out];unfold wP;rw[bf hodd]
      rw[hodd] at hand;have hand1:bits .and .u32 (v:Int) 1=1:=hand;have hdiv:(v:Int)/2=((v/2:Nat):Int):=(by omega);have hxr:=u32_xor_nat (v/2) 3988292384 (by omega) (by omega);have hxr1:bits .xor .u32 ((v/2:Nat):Int) 3988292384=(v1:Int):=(by rw[e1];exact hxr);generalize v/2=v2 at*;clear hand hxr e1 hodd;go_wp2_with fail;go_roundw
      case rel=>exact⟨t+1,by omega,by go_num,by rw[HN1.out],HW.out⟩
      case measure=>simp[intOf];omega
     ·have e1:v1=v/2:=by rw[HN.out];unfold wP;rw[bg hodd]
      have h0:v%2=0:=(by omega);rw[h0] at hand;have hand1:bits .and .u32 (v:Int) 1=0:=hand;have hdiv:(v:Int)/2=(v1:Int):=(by omega);clear hand e1 hodd h0;go_wp2_with fail;go_roundw
      case rel=>exact⟨t+1,by omega,by go_num,by rw[HN1.out],HW.out⟩
      case measure=>simp[intOf];omega
    ·obtain rfl:t=8:=by omega
     have HJ2:Hid (∃j,wr=w.drewN j):=ae ⟨j,by rw[HW.out,HJ.out]⟩;go_wp2_with fail;go_roundw
     case rel=>exact⟨k+1,by omega,by go_num,by rw[HST2.out,HST.out],HJ2⟩
     case measure=>simp[intOf];omega
  ·obtain rfl:k=n:=by omega
   rw[aJ (by rw[HL.out];exact ah _)];have hs32:=yU xs 4294967295 (by omega) HB.out;have hx:=u32_xor_nat 4294967295 (rD xs 4294967295) (by omega) hs32;rw[Nat.xor_comm] at hx;have HX1:Hid (bits .xor .u32 IntKind.u32.max (rD xs 4294967295:Nat)=(AC xs:Nat)):=ae hx;have HJ:=ae hj;clear hx hj hs32;generalize rD xs 4294967295=s at*;go_wp2_with fail;go_ret;exact⟨congrArg (fun x=>Ending.returned (.int .u32 x)) HX1.out,j,HJ.out⟩
def bT(n:Nat):Nat->List Nat | 0=>[] | k+1=>n/256 ^ k%256 :: bT n k
def eu(l:List Nat):Nat:=l.foldl (fun n x=>n*256+x) 0
theorem cG(n k:Nat):(bT n k).length=k:=by
 induction k with
 | zero=>rfl
 | succ k ih=>simp[bT,ih]
theorem fC(n k:Nat):∀x∈bT n k,x<256:=by
 induction k with
 | zero=>intro x hx;simp[bT] at hx
 | succ k ih=>
   intro x hx;rcases mem_cons.1 hx with h | h
   ·rw[h];exact Nat.mod_lt _ (by omega)
   ·exact ih x h
theorem told1{n:Nat}(h:n<256):eu (bT n 1)=n:=by simp[eu,bT];omega
theorem told2{n:Nat}(h:n<65536):eu (bT n 2)=n:=by simp[eu,bT];omega
theorem told3{n:Nat}(h:n<16777216):eu (bT n 3)=n:=by simp[eu,bT];omega
theorem told4{n:Nat}(h:n<4294967296):eu (bT n 4)=n:=by simp[eu,bT];omega
def jH(obj blk id K H Z seed:Nat)(d:List Nat):List Nat:=bT obj 3++bT blk 1++bT id 2++[K,H,Z]++bT seed 4++d
theorem kX(obj blk id K H Z seed:Nat)(d:List Nat):(jH obj blk id K H Z seed d).length=13+d.length:=by simp[jH,cG];omega
theorem cell_of{kind:Nat}{body:List Nat}(hk:1<=kind)(hb:body.length<=55):kx (cellL kind body)/\(cellL kind body).getD 3 0=kind/\((cellL kind body).drop 4).take 55=body++replicate (55-body.length) 0:=by
 have h3:(cellL kind body).getD 3 0=kind:=rfl
 have h4:((cellL kind body).drop 4).take 55=body++replicate (55-body.length) 0:=by
  have e:(cellL kind body).drop 4=(body++replicate (55-body.length) 0)++(b4 (AC (gI kind body))++[165]):=rfl;rw[e];exact take_left' (by simp;omega)
 refine⟨⟨je hb,by rw[h3];exact hk,?_⟩,h3,h4⟩;rw[h3,h4]
 have e:gI kind (body++replicate (55-body.length) 0)=gI kind body:=by
  unfold gI;have:(body++replicate (55-body.length) 0).length=55:=(by simp;omega);rw[this];simp
 unfold cellL;rw[e]
theorem qR{P:Program}(w:World)(T ty elem:TypeId)(hu:P.underlying T=some (.slice elem))(hsz:(P.info? elem).map (·.size)=some 1)(g o dLen dCap:Nat)(a:Option Addr)(sLen sCap:Nat)
 (cur:List Value)(t:TypeId)(hg:w.heap[g]? =some (.cells cur.toArray t (0,0)))(cs:List Value)(hn:cs.length=Nat.min sLen dLen)
 (hpos:0<cs.length->∃ad,a=some ad/\∀j v,cs[j]? =some v->w.cell? (ad.add j)=some v)(hfit:o+cs.length<=cur.length)(h1:∀v∈cs,v.oneCell'=true):
 ∃w',(Builtin.copy_ #[T,T] ty #[slice (some ⟨g,o,none⟩) dLen dCap,slice a sLen sCap]).run P w=.ok (goInt cs.length) w'/\Blk w' g t (splice cur o cs).toArray/\w.grownBy w' (some g):=by
 by_cases h0:cs.length=0
 ·obtain rfl:cs=[]:=eq_nil_of_length_eq_zero h0
  exact⟨w,run_copy_none (P:=P) w T T ty elem _ _ dLen dCap sLen sCap hu hsz (by simpa using hn.symm),by simpa[splice,Blk] using hg,⟨rfl,rfl,rfl,ah _,fun _ _ _=>rfl⟩⟩
 ·obtain⟨ad,rfl,hsrc⟩:=hpos (by omega)
  exact⟨_,run_copy_row (P:=P) w T T ty elem g o dLen dCap ad sLen sCap cur.toArray t cs hu hsz hg hn hsrc (by simpa using hfit) h1,by simpa[splice,Blk] using setRow_heap w g cur.toArray _ t _ hg,
   ⟨rfl,rfl,rfl,by simp[World.setRow],fun k _ hk=>setRow_other w g k _ (fun e=>hk (by rw[e]))⟩⟩
theorem kO(L X:List Nat)(o:Nat):splice (bF L) o (bF X)=bF (splice L o X):=by
 unfold splice bF;rw[aQ,aQ,map_take,map_drop,aC]
theorem BX{w:World}{g k:Nat}{L:List Nat}(h:Blk w g 5 (bJ L))(hk:k<=L.length):Rd w w.heap.size (some ⟨g,0,none⟩) k (bF (L.take k)):=by
 refine⟨by rw[bI,aG];omega,fun _=>⟨g,0,rfl,h.lt,fun i u hu=> ?_⟩⟩;rw[Nat.zero_add,h.cell i];unfold bF at hu;rw[List.getElem?_map,List.getElem?_take] at hu;split at hu
 ·simpa[bJ,bF] using hu
 ·simp at hu
def rQ(s k:Nat):List Nat:=(b4 s).take k++replicate (5-k) 0
theorem BZ(s:Nat){k:Nat}(hk:k<4):(rQ s k).set k ((b4 s).getD k 0)=rQ s (k+1):=by
 match k,hk with
 | 0,_=>rfl
 | 1,_=>rfl
 | 2,_=>rfl
 | 3,_=>rfl
theorem FL(s:Nat):(rQ s 4).set 4 165=b4 s++[165]:=rfl
theorem FM{kind:Nat}{body:List Nat}(hb:body.length<=55):splice (splice (replicate 64 0) 0 [87,115,1,kind]) 4 body=gI kind body++replicate 5 0:=by
 have e:splice (replicate 64 0) 0 [87,115,1,kind]=[87,115,1,kind]++replicate 60 0:=rfl;rw[e]
 have e2:splice ([87,115,1,kind]++replicate 60 0) 4 body=[87,115,1,kind]++(body++(replicate 60 0).drop body.length):=by
  unfold splice;rw[take_left' (by rfl),drop_append];simp
 rw[e2,drop_replicate];unfold gI;have e3:replicate (60-body.length) 0=replicate (55-body.length) 0++replicate 5 (0:Nat):=by rw[replicate_append_replicate];congr 1;omega
 rw[e3];simp
theorem ug{H R:List Nat}{k v:Nat}(hH:H.length=59):(H++R).set (59+k) v=H++R.set k v:=by
 rw[set_append_right _ _ (by omega)];congr 2;omega
theorem uh(kind:Nat)(body:List Nat)(a:Option Addr)(n c:Nat)(w:World)(hk1:1<=kind)(hk2:kind<=255)(hx:Rd w w.heap.size a n (bF body))(hb:By body)(hn:n<=55):
 Calls prog 142 #[int i64 kind,slice a n c] w fun e w'=>∃g,e=returned (slice (some ⟨g,0,none⟩) 64 64)/\w.heap.size<=g/\Blk w' g 5 (bJ (cellL kind body))/\Below w.heap.size w w':=by
 have hlb:body.length=n:=by have:=hx.len;rwa [bI] at this
 have hmk:∀w:World,(Instr.makeSlice 30 (int i64 64) (int i64 64)).run prog w=.ok (slice (some ⟨w.heap.size,0,none⟩) 64 64) (w.alloc (cells (bJ (replicate 64 0)) 5)):=fun w=>dD (n:=64) (by omega) w;have hinf:(prog.info? 5).map (·.size)=some 1:=by kernel_rfl
 have h1:¬(kind:Int)<1:=by omega
 have h2:¬(255:Int)<(kind:Int):=by omega
 have h3:¬(55:Int)<(n:Int):=by omega
 have hkm:(kind:Int)%256=(kind:Int):=by omega
 have hw1:=Blk.new w 5 (bJ (replicate 64 0));obtain⟨w1,hw1e⟩:∃w1,w1=w.alloc (cells (bJ (replicate 64 0)) 5):=⟨_,rfl⟩;rw[<-hw1e] at hw1;have hsz1:w1.heap.size=w.heap.size+1:=by rw[hw1e];simp
 have hb1:Below w.heap.size w w1:=by rw[hw1e];exact(az _ _).alloc (ah _) _
 have hw2:=(hw1.alloc (cells (bJ [87,115,1,kind]) 5));have hl2:=Blk.new w1 5 (bJ [87,115,1,kind]);obtain⟨w2,hw2e⟩:∃w2,w2=w1.alloc (cells (bJ [87,115,1,kind]) 5):=⟨_,rfl⟩;rw[<-hw2e] at hw2 hl2;have hb2:Below w.heap.size w w2:=by rw[hw2e];exact hb1.alloc hb1.size _
 obtain⟨w3,hrun3,hblk3,hgr3⟩:=qR (P:=prog) w2 30 3 5 underlying30 hinf w.heap.size 0 64 64 (some ⟨w1.heap.size,0,none⟩) 4 4 (bF (replicate 64 0)) 5 hw2 (bF [87,115,1,kind]) rfl
  (fun _=>⟨_,rfl,fun j v hv=>by rw[Addr.add_lit,Nat.zero_add,hl2.cell j];simpa[bJ] using hv⟩) (by rw[bI,bI,aI];show 0+4<=64;omega) (iy _)
 rw[kO] at hblk3;have hb3:Below w.heap.size w w3:=hb2.grown hgr3 hb2.size (fun g hg=>by simp at hg;omega);have hx3:=hx.below hb3 (ah _)
 obtain⟨w4,hrun4,hblk4,hgr4⟩:=qR (P:=prog) w3 30 3 5 underlying30 hinf w.heap.size 4 60 60 a n c (bF (splice (replicate 64 0) 0 [87,115,1,kind])) 5 hblk3 (bF body) (by rw[bI,hlb];exact(Nat.min_eq_left (by omega)).symm)
  (fun h=>by
    obtain⟨b,o,rfl,hbb,hc⟩:=hx3.2 (by rw[bI] at h;omega);refine⟨⟨b,o,none⟩,rfl,fun j v hv=> ?_⟩;rw[Addr.add_lit];exact hc j v hv) (by rw[bI,bI,hlb];show 4+n<=64;omega) (iy _)
 rw[kO,FM (by omega)] at hblk4;have hb4:Below w.heap.size w w4:=hb3.grown hgr4 hb3.size (fun g hg=>by simp at hg;omega);have hhl:(gI kind body).length=59:=x8 (by omega)
 have hhb:By (gI kind body):=by
  intro x hx;unfold gI at hx;rcases bz.1 hx with hx | hx
  ·simp at hx;omega
  ·rcases bz.1 hx with hx | hx
   ·exact hb x hx
   ·exact By.zeros _ x hx
 have HK4:Hid (Blk w4 w.heap.size 5 (bJ (gI kind body++rQ (AC (gI kind body)) 0))):=ae hblk4
 have hrd:Rd w4 w4.heap.size (some ⟨w.heap.size,0,none⟩) 59 (bF (gI kind body)):=by
  have:=BX HK4.out (k:=59) (by rw[aH,hhl];omega)
  rwa [take_left' hhl] at this
 have CS:=ae (Nr (gI kind body) _ (some ⟨w.heap.size,0,none⟩) 59 64 w4 hrd hhb (by omega));have HB4:=ae hb4;have HHL:=ae hhl;have hc32:AC (gI kind body)<4294967296:=Nat.xor_lt_two_pow (n:=32) (yU _ _ (by omega) hhb) (by omega);have HCL:Hid (cellL kind body=gI kind body++(b4 (AC (gI kind body))++[165])):=ae rfl;rw[hsz1] at hrun3;have hrow:bJ [87,115,1,kind]= #[.int .u8 87,.int .u8 115,.int .u8 1,.int .u8 (kind:Int)]:=rfl;rw[hrow] at hw2e;subst hw2e;subst hw1e;clear hsz1 hrow hw1 hw2 hl2 hblk3 hgr3 hblk4 hgr4 hb1 hb2 hb3 hb4 hx hx3 hrd hhl hhb hinf hlb hb;generalize bJ (replicate 64 0)=Z0 at*;generalize hH:gI kind body=H at*;have HH:=ae hH;clear hH;generalize hS:AC H=S at*;have HS:=ae hS;clear hS;go_enter func142,ntmps142
 go_wp2_with (first | simp only[hmk] | simp only[hrun3] | simp only[hrun4])
 refine CS.out.mono ?_;rintro e w5 ⟨rfl,j5,rfl⟩;have HK5:Hid (Blk (w4.drewN j5) w.heap.size 5 (bJ (H++rQ S 0))):=ae (HK4.out.drewN j5);have HB5:=ae (below_drewN HB4.out j5);generalize w4.drewN j5=w5 at*;clear CS HK4 HB4 hmk hrun3 hrun4
 have HSB:Hid (∀i,(b4 S).getD i 0<256):=ae fun i=>by
  match i with
  | 0=>exact Nat.mod_lt _ (by omega)
  | 1=>exact Nat.mod_lt _ (by omega)
  | 2=>exact Nat.mod_lt _ (by omega)
  | 3=>exact Nat.mod_lt _ (by omega)
  | i+4=>simp[b4]
 generalize hG:w.heap.size=G at*;have HG:=ae hG;clear hG;go_wp2_with fail;go_loopw [32] (fun i wr=>∃k:Nat,k<=4/\i=int i64 k/\Hid (Blk wr G 5 (bJ (H++rQ S k)))/\Hid (Below G w wr)) (fun i _=>4-(intOf i).toNat)
 case atStart=>exact⟨0,by omega,rfl,HK5,HB5⟩
 case round=>
  clear HK5 HB5;obtain⟨k,hk,rfl,HK,HB⟩:=hrel;by_cases hk4:k<4
  ·have hk4I:(k:Int)<4:=by omega
   have hset:=HK.out.set (59+k) (.int .u8 ((b4 S).getD k 0:Nat));rw[j6,ug HHL.out,BZ S hk4] at hset;have hfr:=HK.out.frozen (59+k)
   obtain⟨u,hu⟩:∃u,wr.cell? ⟨G,59+k,none⟩=some u:=by
    refine⟨_,(HK.out.cell (59+k)).trans (Array.getElem?_eq_getElem ?_)⟩;rw[jO,aH,HHL.out];have:(rQ S k).length=5:=(by simp[rQ,b4];omega);omega
   have HSET:=ae hset;have HBN:Hid (Below G w (wr.setCell ⟨G,59+k,none⟩ (.int .u8 ((b4 S).getD k 0:Nat)))):=ae (HB.out.setCell (p:=⟨G,59+k,none⟩) (ah _) _);clear hset HK HB;have hcase:k=0\/k=1\/k=2\/k=3:=(by omega);rcases hcase with rfl | rfl | rfl | rfl
   ·have hv:(((b4 S).getD 0 0:Nat):Int)=(S:Int)%256:=by show((S%256:Nat):Int)=_;omega
    rw[hv] at HSET HBN;clear hv HSB;go_wp2_with fail;exact⟨⟨1,by omega,rfl,HSET,HBN⟩,by simp[intOf]⟩
   ·have hv:(((b4 S).getD 1 0:Nat):Int)=(S:Int)/256%256:=by show((S/256%256:Nat):Int)=_;omega
    rw[hv] at HSET HBN;clear hv HSB;go_wp2_with fail;exact⟨⟨2,by omega,rfl,HSET,HBN⟩,by simp[intOf]⟩
   ·have hv:(((b4 S).getD 2 0:Nat):Int)=(S:Int)/65536%256:=by show((S/65536%256:Nat):Int)=_;omega
    rw[hv] at HSET HBN;clear hv HSB;go_wp2_with fail;exact⟨⟨3,by omega,rfl,HSET,HBN⟩,by simp[intOf]⟩
   ·have hv:(((b4 S).getD 3 0:Nat):Int)=(S:Int)/16777216:=by show((S/16777216%256:Nat):Int)=_;omega
    rw[hv] at HSET HBN;clear hv HSB;go_wp2_with fail;exact⟨⟨4,by omega,rfl,HSET,HBN⟩,by simp[intOf]⟩
  ·obtain rfl:k=4:=by omega
   have hset:=HK.out.set (59+4) (.int .u8 ((165:Nat):Int));rw[j6,ug HHL.out,FL,<-HCL.out] at hset;have hfr:=HK.out.frozen 63
   obtain⟨u,hu⟩:∃u,wr.cell? ⟨G,63,none⟩=some u:=by
    refine⟨_,(HK.out.cell 63).trans (Array.getElem?_eq_getElem ?_)⟩;rw[jO,aH,HHL.out];show 63<59+5;omega
   have HSET:Hid (Blk (wr.setCell ⟨G,63,none⟩ (.int .u8 165)) G 5 (bJ (cellL kind body))):=ae hset;have HBN:Hid (Below G w (wr.setCell ⟨G,63,none⟩ (.int .u8 165))):=ae (HB.out.setCell (p:=⟨G,63,none⟩) (ah _) _);clear hset HK HB;go_wp2_with fail;go_ret;exact⟨G,rfl,by rw[HG.out];exact ah _,HSET.out,by rw[HG.out];exact HBN.out⟩
theorem zM(kind:Int)(a:Option Addr)(n c:Nat)(w:World)(hk:kind<1):
 Calls prog 142 #[int i64 kind,slice a n c] w fun e w'=>e=returned (slice none 0 0)/\w=w':=by
 go_enter func142,ntmps142;go_wp2_with fail;go_ret;exact⟨rfl,rfl⟩
def mD(xs:List Nat):List Int:=xs.map fun x:Nat=>(x:Int)
theorem Mq{xs ys:List Nat}(hx:By xs)(hy:By ys):((strOfNums (mD xs)).toList=(strOfNums (mD ys)).toList)↔xs=ys:=by
 constructor
 ·intro h
  have e:=h;rw[Lib.strOfNums_toList,Lib.strOfNums_toList] at e;unfold Lib.bytesOf mD at e;rw[map_map,map_map] at e;have hl:xs.length=ys.length:=(by have:=congrArg List.length e;simpa using this);refine ext_getElem hl fun i h1 h2=> ?_;have e2:=congrArg (fun l=>l[i]?) e;simp only[List.getElem?_map,ag h1,ag h2,Option.map_some,Function.comp,Int.toNat_natCast,Option.some.injEq] at e2;have e3:=congrArg UInt8.toNat e2;have b1:=hx _ (aP h1);have b2:=hy _ (aP h2);simp only[UInt8.toNat_ofNat'] at e3;omega
 ·intro h;rw[h]
theorem CH{w:World}{B:Nat}{a:Option Addr}{n:Nat}{xs:List Nat}(h:Rd w B a n (bF xs))(c:Nat):(convert 30 9 (slice a n c)).run prog w=.ok (.string (strOfNums (mD xs))) w:=by
 have hl:xs.length=n:=by have:=h.len;rwa [bI] at this
 rcases Nat.eq_zero_or_pos n with h0 | h0
 ·subst h0
  obtain rfl:xs=[]:=eq_nil_of_length_eq_zero hl;exact run_convert_bytes_zero (P:=prog) w 30 5 underlying30 underlying5 a c 9 underlying9
 ·obtain⟨b,o,rfl,hb,hc⟩:=h.2 h0
  refine run_convert_bytes_arg (P:=prog) w 30 5 underlying30 underlying5 b o n c (mD xs) (by simpa[mD] using hl) ?_ 9 underlying9;intro i hi;have:=hc i (.int .u8 (xs.getD i 0:Nat)) (dX (by rw[hl];exact hi))
  have e:(mD xs).getD i 0=(xs.getD i 0:Int):=by
   unfold mD;have hi2:i<xs.length:=(by rw[hl];exact hi);rw[af,List.getElem?_map,ag hi2,af,ag hi2];rfl
  first
  | (rw[e];exact this)
  | (simpa[e] using this)
theorem kJ(xs ys:List Nat)(B C:Nat)(a b:Option Addr)(n m c d:Nat)(w:World)(hx:Rd w B a n (bF xs))(hy:Rd w C b m (bF ys))(hbx:By xs)(hby:By ys):
 Calls prog 94 #[slice a n c,slice b m d] w fun e w'=>e=returned (bool (decide (xs=ys)))/\w=w':=by
 have h1:=CH hx c;have h2:=CH hy d;have HS:=ae (Mq hbx hby);clear hx hy hbx hby;generalize strOfNums (mD xs)=s1 at*;generalize strOfNums (mD ys)=s2 at*;go_enter func94,ntmps94
 go_wp2_with (first | simp only[h1] | simp only[h2])
 go_ret;have e:(s1.toList == s2.toList)=decide (xs=ys):=by rw[Bool.eq_iff_iff,beq_iff_eq,decide_eq_true_iff];exact HS.out
 exact⟨congrArg (fun x=>Ending.returned (.bool x)) e,rfl⟩
theorem qG{w:World}{B:Nat}{a:Option Addr}{n:Nat}{xs:List Nat}(h:Rd w B a n (bF xs)){o k:Nat}(hk:0<k)(hok:o+k<=n):∃b p,a=some ⟨b,p,none⟩/\b<B/\Rd w B (some ⟨b,p+o,none⟩) k (bF ((xs.drop o).take k)):=by
 have hl:xs.length=n:=by have:=h.len;rwa [bI] at this
 obtain⟨b,p,rfl,hb,hc⟩:=h.2 (by omega);refine⟨b,p,rfl,hb,by rw[bI,aG,length_drop];omega,fun _=>⟨b,p+o,rfl,hb,fun i u hu=> ?_⟩⟩;unfold bF at hu;rw[List.getElem?_map,List.getElem?_take] at hu;split at hu
 ·rw[List.getElem?_drop] at hu
  have:=hc (o+i) u (by unfold bF;rw[List.getElem?_map];exact hu)
  rwa [show p+(o+i)=p+o+i by omega] at this
 ·simp at hu
theorem xE(bs:List Nat)(a:Option Addr)(c:Nat)(w:World)(hx:Rd w w.heap.size a 64 (bF bs))(hb:By bs)(hc:64<=c/\c<=maxLen):
 Calls prog 78 #[slice a 64 c] w fun e w'=>
  (kx bs->∃v,e=returned (.tuple #[int i64 (bs.getD 3 0:Nat),v,bool true])/\OwnB w' w.heap.size v ((bs.drop 4).take 55))/\(¬kx bs->e=returned (.tuple #[int i64 0,slice none 0 0,bool false]))/\Below w.heap.size w w':=by
 have hl:bs.length=64:=by have:=hx.len;rwa [bI] at this
 obtain⟨b,p,rfl,hbb,hpart⟩:=qG hx (o:=4) (k:=55) (by omega) (by omega);obtain⟨b',p',e,hb3,hcc⟩:=hx.atB (k:=3) (by omega);obtain⟨rfl,rfl⟩:b=b'/\p=p':=by simpa using e
 have c3:=hcc 3 (by omega);have hbd:((bs.drop 4).take 55).length=55:=by rw[aG,length_drop];omega
 have hby:By ((bs.drop 4).take 55):=fun x hx=>hb x (mem_of_mem_drop (bD hx));have hk256:=getD_lt hb 3;have HP:=ae hpart;have HX:=ae hx;have HBY:=ae hby;have HBS:=ae hb;have HBD:=ae hbd;have HL:=ae hl;obtain⟨hc1,hc2⟩:=hc;have hc59:(59:Int)<=(c:Int):=by omega
 have hc4:(4:Int)<=(c:Int):=by omega
 have hcne:¬c=4:=by omega
 clear hcc hpart hx hby e hb hbd hl;obtain⟨kd,hkd⟩:∃kd,bs.getD 3 0=kd:=⟨_,rfl⟩;obtain⟨bd,hbde⟩:∃bd,(bs.drop 4).take 55=bd:=⟨_,rfl⟩;rw[hkd] at c3 hk256 ⊢;rw[hbde] at HP HBY HBD ⊢;have hw64:wrap64 (kd:Int)=(kd:Int):=by have h:=IntKind.wrap_i64 (kd:Int);first | (rw[show wrap64 (kd:Int)=IntKind.i64.wrap (kd:Int) from rfl,h];omega) | (unfold wrap64;omega)
 have hw64b:IntKind.i64.wrap (kd:Int)=(kd:Int):=by rw[IntKind.wrap_i64];omega
 have hdec:kx bs↔(1<=kd/\bs=cellL kd bd):=by
  unfold kx;rw[hkd,hbde];exact⟨fun h=>h.2,fun h=>⟨HL.out,h⟩⟩
 have HD:=ae hdec;clear hkd hbde hdec;have CC:=ae fun (w1:World) (h:Rd w1 w1.heap.size (some ⟨b,p+4,none⟩) 55 (bF bd))=>dP bd _ (some ⟨b,p+4,none⟩) 55 (c-4) w1 h (ah _) (fun e=>by cases e) (by omega);go_enter func78,ntmps78;go_wp2_with fail
 go_region_held3 (fun w'=>w'.cell? ⟨b,p+3,none⟩=some (.int .u8 (kd:Nat))) (go_keep) (first
  | (go_at_call 86
     refine(CC.out w.drew (HP.out.below ((az w.heap.size w).drew) (ah _))).mono ?_;rintro e wA ⟨v,rfl,hO,hbA⟩;obtain⟨a1,c1,rfl,hr1,hn1⟩:=hO.rd2 HBD.out;have n0:=(hbA.cell (p:=⟨b,p+3,none⟩) hbb).trans c3;have HO:=ae hO;have HR:=ae hr1;have HBA:Hid (Below w.heap.size w wA):=ae (((az w.heap.size w).drew).trans hbA);have HXA:=ae (HX.out.below HBA.out (ah _));clear hO hr1 hbA))
 clear CC HP HX c3
 try rw[hw64]
 have hsz:w.heap.size<=wA.heap.size:=HBA.out.size;by_cases hk0:kd<1
 ·have hk0I:(kd:Int)<1:=by omega
  have CP:=ae (zM (kd:Int) a1 55 c1 wA hk0I);have hno:¬kx bs:=fun h=>(by have:=(HD.out.1 h).1;omega);have CE:=ae (kJ bs [] wA.heap.size 0 (some ⟨b,p,none⟩) none 64 0 c 0 wA (HXA.out.more hsz) (uC _ _ _) HBS.out (by intro x hx;simp at hx));rw[decide_eq_false (fun e=>by have:=HL.out;rw[e] at this;simp at this)] at CE;have HNO:=ae hno;clear hno;go_wp2_with fail;refine CP.out.mono ?_;rintro e wB ⟨rfl,rfl⟩;go_wp2_with fail;refine CE.out.mono ?_;rintro e wC ⟨rfl,rfl⟩;go_wp2_with fail;go_ret3;exact⟨fun h=>absurd h HNO.out,fun _=>rfl,HBA.out⟩
 ·have CP:=ae (uh kd bd a1 55 c1 wA (by omega) (by omega) HR.out HBY.out (by omega))
  have hk1:¬(kd:Int)<1:=(by omega);go_wp2_with fail;refine CP.out.mono ?_;rintro e wB ⟨g,rfl,hg,hK,hbB⟩;have hlc:(cellL kd bd).length=64:=je (by rw[HBD.out];omega);have hrc:=nk hK;rw[hlc] at hrc;have HBB:=ae (HBA.out.trans (hbB.mono hsz))
  have hcb:By (cellL kd bd):=by
   intro x hx;unfold cellL gI at hx;simp only[bz] at hx;rcases hx with(h | h | h) | h | h
   ·simp at h;omega
   ·exact HBY.out x h
   ·rw[eq_of_mem_replicate h];decide
   ·simp[b4] at h;omega
   ·simp at h;omega
  have CE:=ae (kJ bs (cellL kd bd) wB.heap.size wB.heap.size (some ⟨b,p,none⟩) (some ⟨g,0,none⟩) 64 64 c 64 wB ((HXA.out.below (hbB.mono hsz) (ah _)).more (aO hsz hbB.size)) hrc HBS.out hcb);have HO2:=ae ((HO.out.below hbB));clear hK hrc hcb hlc hbB hg CP;by_cases hc:bs=cellL kd bd
  ·rw[ba hc] at CE
   have HY:Hid (kx bs):=ae (HD.out.2 ⟨by omega,hc⟩);clear hc;go_wp2_with fail;refine CE.out.mono ?_;rintro e wC ⟨rfl,rfl⟩;go_wp2_with fail;go_ret3;exact⟨fun _=>⟨_,rfl,HO2.out.base (ah _)⟩,fun h=>absurd HY.out h,HBB.out⟩
  ·rw[decide_eq_false hc] at CE
   have HNO:Hid (¬kx bs):=ae fun h=>hc (HD.out.1 h).2;clear hc;go_wp2_with fail;refine CE.out.mono ?_;rintro e wC ⟨rfl,rfl⟩;go_wp2_with fail;go_ret3;exact⟨fun h=>absurd h HNO.out,fun _=>rfl,HBB.out⟩
def gq(q:Nat)(l:List Nat)(i:Nat):List Nat:=(l.drop (i*q)).take q++replicate (q-((l.drop (i*q)).take q).length) 0
def lS(q:Nat)(l:List Nat):List (List Nat):=(range (iB q l.length)).map (gq q l)
theorem AX(q:Nat)(l:List Nat)(i:Nat):(gq q l i).length=q:=by
 unfold gq;rw[aH,aI];have:((l.drop (i*q)).take q).length<=q:=by rw[aG];omega
 omega
theorem cnt_lt{q n i:Nat}(hq:1<=q)(hi:i<iB q n):i*q<n:=by
 unfold iB at hi;split at hi
 ·omega
 ·rename_i h0
  have h1:i<=(n-1)/q:=(by omega);have h2:=Nat.mul_le_mul_right q h1;have h3:=Nat.div_mul_le_self (n-1) q;omega
theorem EO(q n:Nat):iB q n<=n:=by
 unfold iB;split
 ·omega
 ·have:=Nat.div_le_self (n-1) q
  omega
theorem AY(K H Z:Nat)(l:List Nat)(a:Option Addr)(n c:Nat)(w:World)(hk:eD K H Z=true)(hx:Rd w w.heap.size a n (bF l))(hn:n<=1000)(hc:n<=c)(hm:c<=maxLen):
 Calls prog 157 #[cE K H Z,slice a n c] w fun e w'=>∃v,e=returned v/\(rM (lS (K*Z) l)).ok w' (Fr w.heap.size) [v]/\Below w.heap.size w w':=by
 have hok:=aZ hk;have hl:l.length=n:=by have:=hx.len;rwa [bI] at this
 have CC:=ae fun w=>kN K H Z n w hk (by omega);have CS:=ae fun w=>pG K H Z w (by omega) (by omega);have hq1:1<=K*Z:=bn (show 1<=K by omega) (show 1<=Z by omega);have hq2:K*Z<=16*24:=bn (by omega) (by omega);have HSP:Hid (lS (K*Z) l=(range (iB (K*Z) n)).map (gq (K*Z) l)):=ae (by unfold lS;rw[hl]);have hcl:=ae fun i=>cnt_lt (q:=K*Z) (n:=n) (i:=i) hq1;have hcn:=EO (K*Z) n
 have S0:Hid (Sx w (w.alloc (cells #[int i64 K,int i64 H,int i64 Z] 25)) [bQ w.heap.size 25 #[int i64 K,int i64 H,int i64 Z],kT a n (bF l)]):=
  ae (((((Sx.nil w).add (kT a n (bF l)) hx).alloc _).add (bQ _ _ _) (Blk.new w 25 #[int i64 K,int i64 H,int i64 Z])))
 have hs0:w.heap.size<=(w.alloc (cells #[int i64 K,int i64 H,int i64 Z] 25)).heap.size:=by simp
 have HL:=ae hl;clear hx hl hok hk;unfold maxLen at hm;unfold cE at CC CS ⊢;generalize lS (K*Z) l=SP at*;generalize K*Z=q at*;have hmk:∀w:World,(Instr.makeSlice 30 (int i64 (q:Int)) (int i64 (q:Int))).run prog w=.ok (slice (some ⟨w.heap.size,0,none⟩) q q) (w.alloc (cells (bJ (replicate q 0)) 5)):=fun w=>dD (n:=q) (by omega) w;have hinf:(prog.info? 5).map (·.size)=some 1:=by kernel_rfl
 generalize hcnt:iB q n=N at*;have HN:=ae hcnt;clear hcnt;go_enter func157,ntmps157;go_wp2_with fail;generalize w.alloc (cells #[int i64 K,int i64 H,int i64 Z] 25)=w0 at*;refine(CC.out _).mono ?_;rintro e w1 ⟨rfl,hb⟩;have HB1:=ae hb;have HO1:Hid (OwnS w1 w0.heap.size 30 1 (Fr w0.heap.size) (slice none 0 0) (((range 0).map (gq q l)).map rB)):=ae (OwnS.nil _ _ _ _ _);clear hb CC;go_wp2_with fail;go_loopw [5,12] (fun v i wr=>∃k:Nat,k<=N/\i=int i64 k/\Hid (OwnS wr w0.heap.size 30 1 (Fr w0.heap.size) v (((range k).map (gq q l)).map rB))/\Hid (Below w0.heap.size w0 wr)) (fun _ i _=>N-(intOf i).toNat)
 case atStart=>exact⟨0,by omega,rfl,HO1,HB1⟩
 case round=>
  clear HO1 HB1;obtain⟨k,hkn,rfl,HO,HB⟩:=hrel;have S1:=ae (S0.out.step HB.out);obtain⟨bv,nv,cv,rfl⟩:=HO.out.sl;by_cases hlt:k<N
  ·have hltI:(k:Int)<(N:Int):=by omega
   have hkq:=hcl.out k hlt;obtain⟨b,o,ea,hb,-⟩:=(S1.out.rd 1 rfl).2 (by omega);have hfit:(l.drop (k*q)).length=n-k*q:=(by rw[length_drop,HL.out]);obtain⟨b',p',ea',hb',hpart⟩:=qG (S1.out.rd 1 rfl) (o:=k*q) (k:=n-k*q) (by omega) (by omega);subst ea;injection ea' with ea';injection ea' with e1 e2 _;subst e1 e2;rw[aJ (by rw[hfit];exact ah _)] at hpart;obtain⟨k0,k1,k2⟩:=pF (S1.out.blk 0 rfl);have HRS:Hid (((range (k+1)).map (gq q l)).map rB=((range k).map (gq q l)).map rB++[rB (gq q l k)]):=ae (by rw[range_succ,aQ,aQ];rfl);have hsl:(((range k).map (gq q l)).map rB).length<=1000000:=(by simp;omega);have hmI:(k:Int)*(q:Int)=((k*q:Nat):Int):=(by rw[Int.natCast_mul]);have HBP:Hid (gq q l k=(l.drop (k*q)).take q++replicate (q-((l.drop (k*q)).take q).length) 0):=ae rfl;have HBL:=ae (AX q l k);have HPART:=ae hpart;have HFIT:=ae hfit;clear hpart hb' hfit;generalize l.drop (k*q)=D at*;generalize gq q l k=BP at*;generalize k*q=lo at*;go_wp2_with fail;refine(CS.out _).mono ?_;rintro e w2 ⟨rfl,hb2⟩;have S2:=ae (S1.out.step hb2);have HB2:=ae (HB.out.trans (hb2.mono HB.out.size));have HO2:=ae (HO.out.new hb2);have HP2:=ae ((HPART.out.below hb2 (ah _)).more hb2.size);have hsz2:=hb2.size;clear hb2 HO HB S1 HPART k0 k1 k2;have S3:=ae (S2.out.alloc (cells (bJ (replicate q 0)) 5));obtain⟨k0,k1,k2⟩:=pF (S3.out.blk 0 rfl);clear S3
   go_wp2_with (simp only[])
   clear k0 k1 k2;have hZ0:=Blk.new w2 5 (bJ (replicate q 0));have hba:=(az w2.heap.size w2).alloc (ah _) (cells (bJ (replicate q 0)) 5);have hsa:(w2.alloc (cells (bJ (replicate q 0)) 5)).heap.size=w2.heap.size+1:=(by simp);generalize w2.alloc (cells (bJ (replicate q 0)) 5)=w3 at*;refine(CS.out _).mono ?_;rintro e w4 ⟨rfl,hb4⟩;have hZ4:=hZ0.below hb4 hZ0.lt;have hb24:Below w2.heap.size w2 w4:=hba.trans (hb4.mono (by omega));have hP4:=HP2.out.below hb24 (ah _)
   obtain⟨w5,hrun5,hblk5,hg5⟩:=qR (P:=prog) w4 30 3 5 underlying30 hinf w2.heap.size 0 q q (some ⟨b,o+lo,none⟩) (n-lo) (c-lo) (bF (replicate q 0)) 5 hZ4 (bF (D.take q))
    (by rw[bI,aG,HFIT.out];exact Nat.min_comm _ _)
    (fun _=>⟨⟨b,o+lo,none⟩,rfl,fun j v hv=>by
      obtain⟨b2,o2,e1,_,hc2⟩:=hP4.2 (by omega);injection e1 with e1;injection e1 with e1 e2 _;subst e1 e2;rw[Addr.add_lit];refine hc2 j v ?_;unfold bF at hv ⊢;rw[List.getElem?_map,List.getElem?_take] at hv;split at hv
      ·rw[List.getElem?_map];exact hv
      ·cases hv⟩)
    (by rw[bI,bI,aI,aG];omega) (iy _)
   rw[kO] at hblk5
   have hsp:splice (replicate q 0) 0 (D.take q)=BP:=by
    rw[HBP.out];unfold splice;rw[take_zero,nil_append,drop_replicate,Nat.zero_add]
   rw[hsp] at hblk5;have hb25:Below w2.heap.size w2 w5:=hb24.grown hg5 hb24.size (fun g hg=>by simp at hg;omega);have hw0:=HB2.out.size
   have HRB:Hid ((rB BP).ok w5 (fun b=>Fr w0.heap.size b/\some b≠(Value.slice bv nv cv).ownBlock) [slice (some ⟨w2.heap.size,0,none⟩) q q]):=ae (by
    have hbl:BP.length=q:=HBL.out;have:=lQ (F:=fun b=>Fr w0.heap.size b/\some b≠(Value.slice bv nv cv).ownBlock) hblk5 ⟨hw0,fun e=>by have:=(HO2.out.lt _ e.symm).2;omega⟩ (by rw[hbl];unfold maxLen;omega)
    rwa [hbl] at this)
   have HB25:=ae hb25;have S4:=ae (S2.out.step hb24);obtain⟨k0,k1,k2⟩:=pF (S4.out.blk 0 rfl);have hlc:¬c=lo:=(by omega);have hloI:(lo:Int)<=(n:Int):=(by omega);clear hZ0 hba hsa hb4 hZ4 hb24 hP4 hblk5 hg5 hsp hb25 S2 HP2
   go_wp2_with (first
    | simp only[]
    | (at_builtin;refine fF (w:=w2) (w1:=w5) rfl _ _ rfl underlying45 dI rfl (by decide) (by decide) HO2.out HB25.out hw0 hsl (R:=rB BP) HRB.out rfl rfl rfl ?_))
   intro v6 w6 hO6 hb6;rw[<-HRS.out] at hO6;have HO6:=ae hO6;have HB6:=ae (HB2.out.trans hb6);clear hO6 hb6 HO2 HRB HB25 S4 k0 k1 k2 HB2;obtain⟨b6,n6,c6,rfl⟩:=HO6.out.sl;go_wp2_with fail;go_roundw
   case rel=>exact⟨k+1,by omega,by go_num,HO6,HB6⟩
   case measure=>simp[intOf];omega
  ·obtain rfl:k=N:=by omega
   rw[<-HSP.out] at HO;go_wp2_with fail;go_ret;exact⟨_,rfl,(rM _).more HO.out.fr fun b hb _=>aO hs0 hb,S1.out.1⟩
theorem uX(a:Nat)(ha:a<9223372036854775808):(BitVec.ofInt 64 (a:Int)).toNat=a:=by
 rw[BitVec.ofInt_natCast,BitVec.toNat_ofNat];exact Nat.mod_eq_of_lt (by omega)
theorem Da(a b:Nat)(ha:a<9223372036854775808)(hb:b<9223372036854775808):bits .or .i64 (a:Int) (b:Int)=((a ||| b:Nat):Int):=by
 have hx:a ||| b<2 ^ 63:=Nat.or_lt_two_pow (by omega) (by omega)
 show IntKind.i64.wrap ((BitVec.ofInt 64 (a:Int) ||| BitVec.ofInt 64 (b:Int)).toNat:Int)=_;rw[BitVec.toNat_or,uX a ha,uX b hb,IntKind.wrap_i64];omega
theorem join8(s x:Nat)(hx:x<256):s*256 ||| x=s*256+x:=by
 have h:=Nat.two_pow_add_eq_or_of_lt (i:=8) hx s;rw[Nat.mul_comm] at h;exact h.symm
theorem xB{xs:List Nat}{k:Nat}(h:k<xs.length):eu (xs.take (k+1))=eu (xs.take k)*256+xs.getD k 0:=by
 unfold eu;rw[aN h,foldl_append,af,ag h];rfl
theorem Mv{xs:List Nat}(hb:By xs):∀k,k<=xs.length->eu (xs.take k)<256 ^ k:=by
 intro k
 induction k with
 | zero=>intro _;exact Nat.one_pos
 | succ k ih=>
   intro hk;rw[xB (by omega)];have h1:=ih (by omega);have h2:=getD_lt hb k;rw[Nat.pow_succ];omega
theorem Au(xs:List Nat)(B:Nat)(a:Option Addr)(n c:Nat)(w:World)(hx:Rd w B a n (bF xs))(hb:By xs)(hn:n<=4):
 Calls prog 245 #[slice a n c] w fun e w'=>e=returned (int i64 (eu xs:Nat))/\∃j,w'=w.drewN j:=by
 have HX:=ae hx;have HB:=ae hb;have HL:Hid (xs.length=n):=ae (by have:=hx.len;rwa [bI] at this);clear hx hb;go_enter func245,ntmps245;go_wp2_with fail;go_loopw [3,8] (fun s i wr=>∃k:Nat,k<=n/\i=int i64 k/\s=int i64 (eu (xs.take k):Nat)/\Hid (∃j,wr=w.drewN j)) (fun _ i _=>n-(intOf i).toNat)
 case atStart=>exact⟨0,by omega,rfl,rfl,ae ⟨0,rfl⟩⟩
 case round=>
  obtain⟨k,hk,rfl,rfl,HJ⟩:=hrel;obtain⟨j,hj⟩:=HJ.out;clear HJ;by_cases hkn:k<n
  ·have hknI:(k:Int)<(n:Int):=by omega
   have hkx:k<xs.length:=(by rw[HL.out];exact hkn);obtain⟨b1,o1,rfl,hb1,hcc⟩:=HX.out.atB hkn;have cq:wr.cell? ⟨b1,o1+k,none⟩=some (.int .u8 (xs.getD k 0:Nat)):=(by rw[hj];exact hcc k hkn);have hx256:=getD_lt HB.out k;have HST:=ae (xB hkx);have hlt:=Mv HB.out k (by omega);have hp:256 ^ k<=256 ^ 3:=Nat.pow_le_pow_right (by omega) (by omega);have hlt2:eu (xs.take k)<16777216:=aU hlt hp;have HJ:Hid (∃j,wr=w.drewN j):=ae ⟨j,hj⟩;clear hcc hj hkx hlt hp;generalize eu (xs.take k)=s0 at*;generalize xs.getD k 0=x at*;have hor:=Da (s0*256) x (by omega) (by omega);rw[join8 s0 x hx256,<-HST.out] at hor;have hor2:bits .or .i64 ((s0:Int)*256) (x:Int)=((eu (xs.take (k+1)):Nat):Int):=(by rw[<-hor];congr 1);generalize hs2:eu (xs.take (k+1))=s2 at*;have HS2:=ae hs2;clear hor HST hs2;go_wp2_with fail;go_roundw
   case rel=>exact⟨k+1,by omega,by go_num,by rw[HS2.out],HJ⟩
   case measure=>simp[intOf];omega
  ·obtain rfl:k=n:=by omega
   rw[aJ (by rw[HL.out];exact ah _)];have HJ:=ae hj;clear hj;go_wp2_with fail;go_ret;exact⟨rfl,j,HJ.out⟩
