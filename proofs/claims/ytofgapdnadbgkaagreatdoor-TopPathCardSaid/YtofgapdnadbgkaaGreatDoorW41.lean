import Derived.Test.YtofgapdnadbgkaaGreatDoorW40
set_option linter.unusedVariables false
set_option maxRecDepth 100000
set_option maxHeartbeats 400000000
namespace Go.Proofs.YtofgapdnadbgkaaGreatDoor
open Go.RowKit _root_.Go.Proofs.Tryz
section
variable {B:Nat}
theorem FR(nm:ByteArray)(o l:Nat)(tr:List Nat):Dq nm ⟨nm,o,l,tr⟩=true:=by unfold Dq;simp
theorem Ld(K H Z ex t ln g p d0 d1 room:Nat)(nm:ByteArray)(mm:List (List Nat))(X0 X1:List (Option (Nat×List Nat)×List Nat))(w:World)(h:Sto B w g p d0 d1 room (dY K H Z ex ⟨nm,0,ln,[t]⟩) (bU X0) (bU X1))(hk:ed K H Z=true)(ht:t<16)(hm:lm (dY K H Z ex ⟨nm,0,ln,[t]⟩))(hp:sK (dY K H Z ex ⟨nm,0,ln,[t]⟩))
 (hX:∀s,s≤1→(∀x∈kQ X0 X1 s,tO K H Z t x)∧(kQ X0 X1 s).length≤19∧qZ (iz (kQ X0 X1 s)))(h0:nE (dY K H Z ex ⟨nm,0,ln,[t]⟩) (bU X0))(h1:nE (dY K H Z ex ⟨nm,0,ln,[t]⟩) (bU X1))
 (hmid:MidOK K H Z (t:Nat) mm)(hsy:∀x∈jA X0 X1 2,x.1≤65535∧x.2=dn K H Z (t:Nat) mm x.1)(hsl:(jA X0 X1 2).length≤1000)(hfull:dP K H Z (t:Nat) ((jA X0 X1 2).map Prod.fst)=true)(hone:iB (K*Z) ln=1)(hln:ln≤1000):
 Calls prog 95 #[.pointer (some ⟨g,0,none⟩),.string nm] w fun e w'=>∃v,e=.returned (.tuple #[v,.int .i64 0])∧(rB ((kw K H Z (t:Nat) mm K).take ln)).ok w' (Fr w.heap.size) [v]∧Below w.heap.size w w':=by
 have S0:Hid (Sx w w [kJ B g p d0 d1 room (dY K H Z ex ⟨nm,0,ln,[t]⟩) (bU X0) (bU X1)]):=ae ((Sx.nil w).add (kJ B g p d0 d1 room (dY K H Z ex ⟨nm,0,ln,[t]⟩) (bU X0) (bU X1)) h);have CO:=ae fun w (h:Sto B w g p d0 d1 room (dY K H Z ex ⟨nm,0,ln,[t]⟩) (bU X0) (bU X1))=>DX g p d0 d1 room _ _ _ w h;have cf:=fun w (h:Sto B w g p d0 d1 room (dY K H Z ex ⟨nm,0,ln,[t]⟩) (bU X0) (bU X1))=>AR nm g p d0 d1 room _ _ _ w h (by show(1:Nat)≤100;omega);rw[show o6 (Dq nm) (dY K H Z ex ⟨nm,0,ln,[t]⟩).objs=0 from rL (k:=0) (l:=[(⟨nm,0,ln,[t]⟩:dM)]) (by simp) (FR nm 0 ln [t]) fun i hi=>absurd hi (Nat.not_lt_zero i)] at cf;have CF:=ae cf;have CW:=ae fun w (h:Sto B w g p d0 d1 room (dY K H Z ex ⟨nm,0,ln,[t]⟩) (bU X0) (bU X1))=>FN g p d0 d1 room _ _ _ w h (by show(1:Nat)≤1;omega) hm hp h0 h1 rfl;have CL:=ae fun w (h:Sto B w g p d0 d1 room (dY K H Z ex ⟨nm,0,ln,[t]⟩) (bU X0) (bU X1))=>lH g p d0 d1 room _ _ _ w h (by show(2:Nat)≤64;omega) (by intro x hx;simp[dY] at hx;omega);have CS:=ae fun (v1:Value) (al a2:Option Addr) (cl c2:Nat) (F:Nat→Prop) w (h:Sto B w g p d0 d1 room (dY K H Z ex ⟨nm,0,ln,[t]⟩) (bU X0) (bU X1)) (hL:(rI [0,1]).ok w Any [.slice al 2 cl]) (ho:(rS 4 ([(⟨nm,0,ln,[t]⟩:dM)].map bZ)).ok w F [.slice a2 1 c2])=>yU K H Z t ln ex g p d0 d1 room nm _ v1 al a2 cl c2 F X0 X1 w h hL ho hk ht hX;have cd:=fun w=>mr 0 0 t w (by omega) (by omega) (by omega);rw[show 128*0+16*0+t=t by omega] at cd;have CD:=ae cd;have CB:=ae fun (a:Option Addr) (n c:Nat) w (hL:(eu (jA X0 X1 2)).ok w Any [.slice a n c]) (hl:(jA X0 X1 2).length=n)=>wN K H Z n c (t:Nat) a Any (jA X0 X1 2) mm w hk (by omega) (by omega) hL hl (by omega) hmid hsy;rw[hfull] at CB;have CJ:=ae fun (a:Option Addr) (c:Nat) w (hx:(rM [kw K H Z (t:Nat) mm K]).ok w Any [.slice a 1 c])=>tQ K H Z [kw K H Z (t:Nat) mm K] Any a 1 c ln w hk hx rfl hone.symm (by intro x hx;rw[List.mem_singleton.1 hx];exact uO hk hmid K) hln;rw[show([kw K H Z (t:Nat) mm K].flatten)=kw K H Z (t:Nat) mm K by simp] at CJ
 have HCL:=ae (show(kw K H Z (t:Nat) mm K).length≤100000 by
  rw[uO hk hmid K];have hok:=of_decide_eq_true hk;have:=Nat.mul_le_mul (show K≤16 by omega) (show Z≤24 by omega);omega)
 unfold bL at CB CJ;generalize kw K H Z (t:Nat) mm K=res at*;generalize jA X0 X1 2=SY at*;generalize bU X0=R0 at*;generalize bU X1=R1 at*;clear h hk ht hm hp hX h0 h1 hmid hsy hfull hone cd cf;go_enter func95,ntmps95;go_wp2_with fail;refine(CO.out w (S0.out.sto 0 rfl)).mono ?_;rintro e w1 ⟨rfl,hb⟩;have S1:=ae (S0.out.step hb);clear hb CO S0;go_wp2_with fail;refine(CF.out w1 (S1.out.sto 0 rfl)).mono ?_;rintro e w2 ⟨rfl,hb⟩;have S2:=ae (S1.out.step hb);clear hb CF S1;go_wp2_with fail;refine(CW.out w2 (S2.out.sto 0 rfl)).mono ?_;rintro e w3 ⟨rfl,hb⟩;have S3:=ae (S2.out.step hb);clear hb CW S2;obtain⟨-,vd,vo,hst,hd,ho⟩:=S3.out.sto 0 rfl;obtain⟨a2,n2,c2,rfl⟩:=nK ho
 obtain rfl:n2=1:=by
  obtain⟨a',n',c',e',_,_,_,h4,_⟩:=ho;injection e' with e' _;injection e' with _ e2 _;rw[aG] at h4;rw[e2,←h4];rfl
 have ho':(rS 4 ([(⟨nm,0,ln,[t]⟩:dM)].map bZ)).ok w3 (Fu w3) [.slice a2 1 c2]:=ho;obtain⟨b,o,a4,c4,rfl,-,hb,c0,c1,c2',c3',hrt⟩:=yA ho' rfl (i:=0) (by omega);simp only[Nat.zero_mul,Nat.add_zero,List.getD_cons_zero,List.length_cons,List.length_nil,Nat.zero_add] at c0 c1 c2' c3' hrt;obtain⟨k0,k1,k2,k3,k4,k5,k6,k7,-⟩:=bP hst;have HST:=ae hst;have HOB:=ae ho';clear hst hd ho ho' k0 k1 k2 k3 k4 k5 k6;have hba:=(az w3.heap.size w3).alloc (ah _) (.cells #[.string nm,.int .i64 0,.int .i64 ln,.slice a4 1 c4] 190)
 have S4:Hid (Sx w (w3.alloc (.cells #[.string nm,.int .i64 0,.int .i64 ln,.slice a4 1 c4] 190)) [eR (Fu w3) (.slice (some ⟨b,o,none⟩) 1 c2) (rS 4 ([(⟨nm,0,ln,[t]⟩:dM)].map bZ)),eR (Fu w3) (.slice a4 1 c4) (rI [t]),bu w3.heap.size 190 #[.string nm,.int .i64 0,.int .i64 ln,.slice a4 1 c4],kJ B g p d0 d1 room (dY K H Z ex ⟨nm,0,ln,[t]⟩) R0 R1]):=
  ae ((((S3.out.step hba).add (bu _ _ _) (Blk.new w3 _ _)).add (eR (Fu w3) (.slice a4 1 c4) (rI [t])) ((rI _).new hrt hba)).add (eR (Fu w3) (.slice (some ⟨b,o,none⟩) 1 c2) (rS 4 ([(⟨nm,0,ln,[t]⟩:dM)].map bZ))) ((rS 4 _).new HOB.out hba))
 have HS4:=ae (Blk.below HST.out hba (Blk.lt HST.out));clear hba hrt S3 HST HOB;go_upto_region 10 with fail;clear c0 c1 c2' c3' k7 hb;generalize w3.alloc (.cells #[.string nm,.int .i64 0,.int .i64 ln,.slice a4 1 c4] 190)=w4 at*;generalize w3.heap.size=G4 at*;obtain⟨x0,x1,x2,x3⟩:=fB (S4.out.blk 2 rfl);have HJ0:=ae (az w4.heap.size w4);go_wp2_with fail;clear x0 x1 x2 x3;go_loopw [8,37] (fun v i wr=>(i=.int .i64 0∧v=.slice none 0 0∧Hid (wr=w4))∨(i=.int .i64 1∧Hid (∃a c,v=.slice a 1 c∧(rM [res]).ok wr Any [v])∧Hid (Below w4.heap.size w4 wr))) (fun _ i _=>1-(intOf i).toNat)
 case atStart=>exact .inl ⟨rfl,rfl,ae rfl⟩
 case round=>
  clear HJ0;rcases hrel with⟨rfl,rfl,HW⟩ | ⟨rfl,HR,HB⟩
  ·obtain rfl:=HW.out
   obtain⟨at1,ct1,et1,hrt1,-⟩:=dB (S4.out.rep 1 rfl) (n:=1) rfl;injection et1 with et1 _ et3;subst et1 et3;obtain⟨bt,ot,rfl,hbt,hct⟩:=hrt1.2 (by omega);have ct0:wr.cell? ⟨bt,ot,none⟩=some (.int .i64 t):=hct 0 _ rfl;clear hrt1 hct;go_upto_region 13 with fail;clear ct0 hbt;have CLV:Hid (∀W,Below wr.heap.size wr W→Calls prog 110 #[.pointer (some ⟨g,0,none⟩)] W fun e w'=>∃v,e=.returned v∧OwnI w' W.heap.size v [0,1]∧Below W.heap.size W w'):=ae fun W hW=>CL.out W ((S4.out.step hW).sto 3 rfl);have CSV:=ae fun (W:World) (al:Option Addr) (cl:Nat) (hW:Below wr.heap.size wr W) (hL:(rI [0,1]).ok W Any [.slice al 2 cl])=>CS.out vd al (some ⟨b,o,none⟩) cl c2 (Fu w3) W ((S4.out.step hW).sto 3 rfl) hL ((S4.out.step hW).rep 0 rfl);simp only[DZ,zH] at CSV;obtain⟨k0,k1,k2,k3,k4,k5,k6,k7,-⟩:=bP HS4.out;unfold dY at k0 k1 k2 k3 k4 k5;simp only at k0 k1 k2 k3 k4 k5;obtain⟨x0,x1,x2,x3⟩:=fB (S4.out.blk 2 rfl);clear CL CS;go_cut [11] (fun v wx=>∃a n c,v=.slice a n c∧Hid ((eu SY).ok wx Any [.slice a n c])∧Hid (Below wr.heap.size wr wx))
   case first=>
    go_region_law (first
     | (go_simp
        go_at_call 110;refine(CLV.out _ (by first | exact(az _ _).drew | exact az _ _)).mono ?_;rintro r w5 ⟨v5,rfl,ho5,hb5⟩;obtain⟨a5,c5,rfl⟩:=ho5.lenA;have HB5:Hid (Below wr.heap.size wr w5):=ae (by first | exact bA hb5 | exact hb5);have HL5:=ae (Rp.any _ (gI ho5));obtain⟨q0,q1,q2,q3,q4,q5,q6,q7,-⟩:=bP (Blk.below HS4.out HB5.out (Blk.lt HS4.out));unfold dY at q0 q1 q2 q3 q4 q5;simp only at q0 q1 q2 q3 q4 q5;obtain⟨y0,y1,y2,y3⟩:=fB ((S4.out.step HB5.out).blk 2 rfl);clear ho5 hb5;go_simp)
     | (go_simp
        go_at_call 177;refine(CSV.out _ _ _ HB5.out HL5.out).mono ?_;rintro r w6 ⟨a6,n6,c6,rfl,hr6,hb6⟩;have HR6:=ae hr6;have HB6:=ae (HB5.out.trans (hb6.mono HB5.out.size));clear hr6 hb6;go_simp))
    all_goals(
     go_simp;refine ‹∀(a':Act) (w':World),Met _ a' w'→_› _ _ ?_;go_meet;exact⟨a6,n6,c6,rfl,HR6,HB6⟩)
   case rest=>
    obtain⟨a6,n6,c6,rfl,HR6,HB6⟩:=hcut;rename World=>w6
    have hsn:SY.length=n6:=by
     obtain⟨a',n',c',e',_,_,_,h4,_⟩:=HR6.out;injection e' with e' _;injection e' with _ e2 _;rw[aG] at h4;omega
    have CBV:=ae fun (W:World) (hW:Below w6.heap.size w6 W)=>CB.out a6 n6 c6 W ((rS 2 _).new HR6.out hW) hsn;have S7:=ae (S4.out.step HB6.out);have HS7:=ae (Blk.below HS4.out HB6.out (Blk.lt HS4.out));clear k0 k1 k2 k3 k4 k5 k6 k7 x0 x1 x2 x3 CLV CSV CB hsn;obtain⟨k0,k1,k2,k3,k4,k5,k6,k7,-⟩:=bP HS7.out;unfold dY at k0 k1 k2 k3 k4 k5;simp only at k0 k1 k2 k3 k4 k5;obtain⟨x0,x1,x2,x3⟩:=fB (S7.out.blk 2 rfl);go_upto_region 14 with fail;go_cut [12,13] (fun v e wx=>∃a c,v=.slice a res.length c∧e=.int .i64 0∧Hid ((rB res).ok wx Any [.slice a res.length c])∧Hid (Below w6.heap.size w6 wx))
    case first=>
     go_region_law (first
      | (go_simp
         go_at_call 178;refine(CD.out _).mono ?_;rintro r w7 ⟨rfl,rfl⟩;go_simp)
      | (go_simp
         go_at_call 16;refine(CBV.out _ (by first | exact(az _ _).drew | exact az _ _)).mono ?_;rintro r w8 ⟨hf8,-,hb8⟩;obtain⟨v8,rfl,ho8⟩:=hf8 (by first | trivial | rfl);have hr8:=Rp.any _ (eY ho8);obtain⟨a8,c8,rfl,-,-⟩:=ho8.rd2 (n:=res.length) rfl;have HR8:=ae hr8;have HB8:Hid (Below w6.heap.size w6 w8):=ae (by first | exact bA hb8 | exact hb8);clear ho8 hb8 hf8 hr8;go_simp))
     all_goals(
      go_simp;refine ‹∀(a':Act) (w':World),Met _ a' w'→_› _ _ ?_;go_meet;exact⟨a8,c8,rfl,rfl,HR8,HB8⟩)
    case rest=>
     obtain⟨a8,c8,rfl,rfl,HR8,HB8⟩:=hcut;rename World=>w8;clear k0 k1 k2 k3 k4 k5 k6 k7 x0 x1 x2 x3 CBV S7 HS7;have HJ8:=ae (HB6.out.trans (HB8.out.mono HB6.out.size));have HRR:Hid ((rB res).ok w8 (fun b=>Any b∧some b≠(Value.slice none 0 0).ownBlock) [.slice a8 res.length c8]):=ae ((rB _).more HR8.out fun b hb _=>⟨trivial,by simp[Value.ownBlock]⟩)
     go_wp2_with (at_builtin;refine dJ (w:=w8) (w1:=w8) (C:=w8.heap.size) (F:=Any) (v:=.slice none 0 0) (L:=[]) rfl _ _ rfl underlying33 bQ rfl (by decide) (by decide) (OwnS.nil _ _ _ _ _) (az _ _) (ah _) (by simp) (R:=rB res) HRR.out rfl rfl rfl ?_)
     intro v9 w9 hO9 hb9;obtain⟨a9,c9,rfl,-⟩:=hO9.val;have HR9:Hid (∃a c,(Value.slice a9 1 c9)=.slice a 1 c∧(rM [res]).ok w9 Any [.slice a9 1 c9]):=ae ⟨_,_,rfl,hO9.repAny⟩;have HJ9:=ae (HJ8.out.trans (hb9.mono HJ8.out.size));clear hO9 hb9 HRR HR8 HB8;go_wp2_with fail;go_roundw
     case rel=>first | exact .inr ⟨by go_num,HR9,HJ9⟩ | ((repeat apply Exists.intro);exact⟨.inr ⟨by go_num,HR9,HJ9⟩,rfl⟩)
     case measure=>simp[intOf]
  ·obtain⟨a9,c9,rfl,hr9⟩:=HR.out
   have CJV:=ae fun (W:World) (hW:Below wr.heap.size wr W)=>CJ.out a9 c9 W ((rM _).new hr9 hW);have S7:=ae (S4.out.step HB.out);have HS7:=ae (Blk.below HS4.out HB.out (Blk.lt HS4.out));obtain⟨k0,k1,k2,k3,k4,k5,k6,k7,-⟩:=bP HS7.out;unfold dY at k0 k1 k2 k3 k4 k5;simp only at k0 k1 k2 k3 k4 k5;obtain⟨x0,x1,x2,x3⟩:=fB (S7.out.blk 2 rfl);clear hr9 HR CJ CB CL CS CD;go_upto_region 19 with fail
   go_region_law (
    (go_simp
     go_at_call 19;refine(CJV.out _ (by first | exact(az _ _).drew | exact az _ _)).mono ?_;rintro r w8 ⟨v8,rfl,hr8,hb8⟩;have HR8:Hid ((rB (res.take ln)).ok w8 (Fr wr.heap.size) [v8]):=ae hr8;have HB8:Hid (Below wr.heap.size wr w8):=ae (by first | exact bA hb8 | exact hb8);clear hr8 hb8;go_simp))
   all_goals(
    go_simp;go_wp2_with fail;go_ret2;exact⟨_,rfl,(rB _).more HR8.out fun b hb _=>aQ S7.out.1.size hb,(S7.out.step HB8.out).1⟩)
end
end Go.Proofs.YtofgapdnadbgkaaGreatDoor
