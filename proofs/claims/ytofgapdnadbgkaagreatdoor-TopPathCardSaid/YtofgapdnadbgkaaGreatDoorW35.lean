import Derived.Test.YtofgapdnadbgkaaGreatDoorW29
import Derived.Test.YtofgapdnadbgkaaGreatDoorW34
set_option linter.unusedVariables false
set_option maxRecDepth 100000
set_option maxHeartbeats 400000000
namespace Go.Proofs.YtofgapdnadbgkaaGreatDoor
open Go.RowKit _root_.Go.Proofs.Tryz
section
variable {B:Nat}
def Md(w:World)(b:Nat):Prop:=Ty 235 w b∨Ty 23 w b
theorem Md.keep{w w':World}{b:Nat}(h:Md w b)(hk:w'.heap[b]? =w.heap[b]?):Md w' b:=h.elim (fun h=>.inl (h.keep hk)) fun h=>.inr (h.keep hk)
theorem Md.not{w:World}{b:Nat}{t:TypeId}(h:Ty t w b)(h1:t≠235)(h2:t≠23):¬Md w b:=fun hm=>by
 rcases hm with hm | hm
 ·exact h.ne hm h1
 ·exact h.ne hm h2
abbrev ChgD(B:Nat)(w w':World):Prop:=Chg (fun b=>B≤b∧Md w b) w w'
theorem ChgD.trans{a b c:World}(h:ChgD B a b)(k:ChgD B b c):ChgD B a c:=
 ⟨k.os.trans h.os,k.tape.trans h.tape,k.output.trans h.output,aQ h.size k.size,fun i hi hM=>by
   have e:=h.block i hi hM;exact(k.block i (aY hi h.size) fun hm=>hM ⟨hm.1,hm.2.keep e.symm⟩).trans e⟩
theorem ChgD.below{a b:World}(h:Below a.heap.size a b):ChgD B a b:=Chg.of h
theorem ChgD.lo{a b:World}(h:ChgD B a b)(hB:B≤a.heap.size):Below B a b:=Chg.below h hB fun k hk=>hk.1
def vU(s:Nat)(R:List (List Nat))(r:List Nat):List (List Nat):=if s=0 then R++[r] else R
def vV(s:Nat)(R:List (List Nat))(r:List Nat):List (List Nat):=if s=0 then R else R++[r]
theorem ub(g p room:Nat)(R:List (List Nat))(o:Option Nat)(r:List Nat)(a:Option Addr)(c:Nat)(w:World)(h:DrR w g p room R o)(hp:PwS w p)(hr:Rd w w.heap.size a 64 (ba r))(hnil:a=none→c=0)(hroom:R.length<room)(hroom2:room≤512):
 Calls prog 164 #[.pointer (some ⟨g,0,none⟩),.slice a 64 c] w fun e w'=>e=.returned (.int .i64 0)∧∃o',DrR w' g p room (R++[r]) o'∧Chg (fun b=>b=g∨some b=o) w w'∧(o'=o∨∃b,o'=some b∧w.heap.size≤b):=by
 obtain⟨v,wt,h1,h2,h3,h4,h5⟩:=h;subst h4;refine(Gl g p room wt v R r a c w h1 h2 hp hr hnil hroom hroom2 (by omega)).mono ?_;rintro e w' ⟨rfl,v',k1,k2,k3,k4⟩;refine⟨rfl,v'.ownBlock,⟨v',wt+1,k1,k2,by rw[aJ,List.length_singleton];omega,rfl,fun x hx=> ?_⟩,k3,k4⟩;rcases List.mem_append.1 hx with h | h
 ·exact h5 x h
 ·rw[List.mem_singleton.1 h]
  have:=hr.len
  rwa [bg] at this
theorem BG(s p d0 d1 room:Nat)(R0 R1:List (List Nat))(r:List Nat)(a:Option Addr)(c:Nat)(w:World)(hs:s≤1)(h:Drs B w p d0 d1 room R0 R1)(hr:Rd w w.heap.size a 64 (ba r))(hnil:a=none→c=0)(hroom:R0.length<room∧R1.length<room)(hroom2:room≤512):
 Calls prog 164 #[.pointer (some ⟨rT d0 d1 s,0,none⟩),.slice a 64 c] w fun e w'=>e=.returned (.int .i64 0)∧Drs B w' p d0 d1 room (vU s R0 r) (vV s R1 r)∧ChgD B w w':=by
 obtain⟨hp,⟨o0,o1,h0,h1,ha,hlo⟩,hne,hl0,hl1⟩:=h;have t0:=h0.ty;have t1:=h1.ty;have y0:=h0.oty;have y1:=h1.oty;have hs2:s=0∨s=1:=by omega
 rcases hs2 with rfl | rfl
 ·unfold rT vU vV
  simp only[if_true];refine(ub d0 p room R0 o0 r a c w h0 hp hr hnil hroom.1 hroom2).mono ?_;rintro e w' ⟨rfl,o',k1,k2,k3⟩;have hM:∀b,(b=d0∨some b=o0)→Md w b:=fun b hb=>hb.elim (fun e=>.inl (e▸t0)) fun e=>.inr (y0 b e.symm);refine⟨rfl,⟨Blk.chg hp k2 fun hm=>Md.not (Blk.ty hp) (by decide) (by decide) (hM _ hm),⟨o',o1,k1,h1.chg k2 (fun hm=> ?_) (fun b hb hm=> ?_) (fun b hm hu=>Md.not hu (by decide) (by decide) (hM b hm)),fun b e1 e2=> ?_,fun b hb=> ?_⟩,hne,hl0,hl1⟩,k2.mono fun k _ hk=>⟨hk.elim (fun e=>by rw[e];exact hl0) fun e=>hlo k (.inl e.symm),hM k hk⟩⟩
  ·rcases hm with e | e
   ·exact hne e.symm
   ·exact(t1.ne (y0 d1 e.symm) (by decide))
  ·rcases hm with e | e
   ·subst e;exact t0.ne (y1 b hb) (by decide)
   ·exact ha b e.symm hb
  ·rcases k3 with e | ⟨b',e,hb'⟩
   ·exact ha b (e▸e1) e2
   ·rw[e1] at e
    injection e with e;have:=(y1 b e2).lt;omega
  ·rcases hb with hb | hb
   ·rcases k3 with e | ⟨b',e,hb'⟩
    ·exact hlo b (.inl (e▸hb))
    ·rw[hb] at e
     injection e with e;have:=t0.lt;omega
   ·exact hlo b (.inr hb)
 ·unfold rT vU vV
  simp only[show(1:Nat)=0↔False by decide,if_false];refine(ub d1 p room R1 o1 r a c w h1 hp hr hnil hroom.2 hroom2).mono ?_;rintro e w' ⟨rfl,o',k1,k2,k3⟩;have hM:∀b,(b=d1∨some b=o1)→Md w b:=fun b hb=>hb.elim (fun e=>.inl (e▸t1)) fun e=>.inr (y1 b e.symm);refine⟨rfl,⟨Blk.chg hp k2 fun hm=>Md.not (Blk.ty hp) (by decide) (by decide) (hM _ hm),⟨o0,o',h0.chg k2 (fun hm=> ?_) (fun b hb hm=> ?_) (fun b hm hu=>Md.not hu (by decide) (by decide) (hM b hm)),k1,fun b e1 e2=> ?_,fun b hb=> ?_⟩,hne,hl0,hl1⟩,k2.mono fun k _ hk=>⟨hk.elim (fun e=>by rw[e];exact hl1) fun e=>hlo k (.inr e.symm),hM k hk⟩⟩
  ·rcases hm with e | e
   ·exact hne e
   ·exact(t0.ne (y1 d0 e.symm) (by decide))
  ·rcases hm with e | e
   ·subst e;exact t1.ne (y0 b hb) (by decide)
   ·exact ha b hb e.symm
  ·rcases k3 with e | ⟨b',e,hb'⟩
   ·exact ha b e1 (e▸e2)
   ·rw[e2] at e
    injection e with e;have:=(y0 b e1).lt;omega
  ·rcases hb with hb | hb
   ·exact hlo b (.inl hb)
   ·rcases k3 with e | ⟨b',e,hb'⟩
    ·exact hlo b (.inr (e▸hb))
    ·rw[hb] at e
     injection e with e;have:=t1.lt;omega
theorem zG(g p room:Nat)(R:List (List Nat))(o:Option Nat)(w:World)(h:DrR w g p room R o)(hp:PwS w p):
 Calls prog 232 #[.pointer (some ⟨g,0,none⟩)] w fun e w'=>e=.returned (.int .i64 0)∧DrR w' g p room R o∧Chg (·=g) w w':=by
 have t:=h.ty;have y:=h.oty;obtain⟨v,wt,h1,h2,h3,h4,h5⟩:=h;refine(LM g p room wt v w h1 hp).mono ?_;rintro e w' ⟨rfl,k1,k2⟩;exact⟨rfl,⟨v,0,k1,h2.chg k2 (fun b hb e=>(h2.ownTy b hb).ne (e▸t) (by decide)) (fun b e hb=>hb.ne (e▸t) (by decide)),Nat.zero_le _,h4,h5⟩,k2⟩
theorem IR(s p d0 d1 room:Nat)(R0 R1:List (List Nat))(w:World)(hs:s≤1)(h:Drs B w p d0 d1 room R0 R1):
 Calls prog 232 #[.pointer (some ⟨rT d0 d1 s,0,none⟩)] w fun e w'=>e=.returned (.int .i64 0)∧Drs B w' p d0 d1 room R0 R1∧ChgD B w w':=by
 obtain⟨hp,⟨o0,o1,h0,h1,ha,hlo⟩,hne,hl0,hl1⟩:=h;have t0:=h0.ty;have t1:=h1.ty;have y0:=h0.oty;have y1:=h1.oty;have hs2:s=0∨s=1:=by omega
 rcases hs2 with rfl | rfl
 ·unfold rT
  simp only[if_true];refine(zG d0 p room R0 o0 w h0 hp).mono ?_;rintro e w' ⟨rfl,k1,k2⟩;exact⟨rfl,⟨Blk.chg hp k2 fun e=>(Blk.ty hp).ne (e▸t0) (by decide),⟨o0,o1,k1,h1.chg k2 (fun e=>hne e.symm) (fun b hb e=>(y1 b hb).ne (e▸t0) (by decide)) (fun b e hu=>hu.ne (e▸t0) (by decide)),ha,hlo⟩,hne,hl0,hl1⟩,k2.mono fun k _ e=>⟨by rw[e];exact hl0,.inl (e▸t0)⟩⟩
 ·unfold rT
  simp only[show(1:Nat)=0↔False by decide,if_false];refine(zG d1 p room R1 o1 w h1 hp).mono ?_;rintro e w' ⟨rfl,k1,k2⟩;exact⟨rfl,⟨Blk.chg hp k2 fun e=>(Blk.ty hp).ne (e▸t1) (by decide),⟨o0,o1,h0.chg k2 (fun e=>hne e) (fun b hb e=>(y0 b hb).ne (e▸t1) (by decide)) (fun b e hu=>hu.ne (e▸t1) (by decide)),k1,ha,hlo⟩,hne,hl0,hl1⟩,k2.mono fun k _ e=>⟨by rw[e];exact hl1,.inl (e▸t1)⟩⟩
end
section
variable {B:Nat}
def Fd(w:World)(b:Nat):Prop:=¬Md w b
theorem Fd.keep{w w':World}{b:Nat}(h:Fd w b)(hk:w'.heap[b]? =w.heap[b]?):Fd w' b:=fun hm=>h (hm.keep hk.symm)
theorem Rp.chgD(R:Rp){w w':World}{us:List Value}(h:R.ok w (Fd w) us)(hc:ChgD B w w'):R.ok w' (Fd w') us:=
 R.keep h fun b hb hl=>⟨hc.block b hl fun h=>hb h.2,hb.keep (hc.block b hl fun h=>hb h.2)⟩
theorem Rp.fd(R:Rp){w w':World}{us:List Value}(h:R.ok w (Fd w) us)(hb:Below w.heap.size w w'):R.ok w' (Fd w') us:=R.chgD (B:=0) h (ChgD.below hb)
theorem Sto.chgDr{w w':World}{g p d0 d1 room:Nat}{m:dC}{R0 R1 Q0 Q1:List (List Nat)}(h:Sto B w g p d0 d1 room m R0 R1)(hc:ChgD B w w')(hd:Drs B w' p d0 d1 room Q0 Q1):Sto B w' g p d0 d1 room m Q0 Q1:=h.chgD (Chg.mono hc fun _ _ h=>h.2) hd
theorem OwnI.chgD{w w':World}{C:Nat}{v:Value}{l:List Nat}(h:OwnI w C v l)(hc:ChgD B w w'):OwnI w' C v l:=
 h.keepO fun b hb=>hc.block b (h.ltA b hb).2 fun hm=>Md.not (h.ty b hb) (by decide) (by decide) hm.2
theorem IU(L:List Nat)(F:Nat→Prop)(a:Option Addr)(n c:Nat)(g p d0 d1 room:Nat)(m:dC)(R0 R1:List (List Nat))(w:World)(h:Sto B w g p d0 d1 room m R0 R1)(hx:(rI L).ok w F [.slice a n c])(hl:L.length=n)(h0:0<n)(hn:n≤1000)(hL:∀x∈L,x≤1):
 Calls prog 165 #[.func (.func 92) #[.pointer (some ⟨g,0,none⟩)] #[],.slice a n c] w fun e w'=>e=.returned (.int .i64 0)∧Sto B w' g p d0 d1 room m R0 R1∧ChgD B w w':=by
 have CC:=ae (kZ L F a n c w hx hl (by omega));have HL:=ae hl;have HLE:=ae hL;have HS:=ae h;clear h hx hl hL;go_enter func165,ntmps165;go_wp2_with fail;refine CC.out.mono ?_;rintro e w1 ⟨v1,rfl,ho,hb⟩;obtain⟨a1,c1,rfl⟩:=ho.lenA;rw[HL.out] at ho ⊢;have CS:=ae (GD L w.heap.size n c1 a1 w1 ho hb.size h0 (by omega));have HB1:=ae hb;clear ho hb CC;go_wp2_with fail;refine CS.out.mono ?_;rintro e w2 ⟨rfl,ho,hb⟩;have HB2:=ae (HB1.out.trans hb);have CK:=ae (yK (L.mergeSort leB) w.heap.size n c1 a1 w2 ho HB2.out.size h0 (by omega));clear ho hb CS HB1;go_wp2_with fail;refine CK.out.mono ?_;rintro e w3 ⟨L',mm,rfl,hl',hm',hmem,hr,hb⟩;have HB3:=ae (HB2.out.trans hb);have HS3:=ae (HS.out.below HB3.out);have HR3:Hid ((rI L').ok w3 (Fd w3) [.slice a1 mm c1]):=ae ((rI L').more hr fun b hb _=>Md.not hb (by decide) (by decide));have HLE':Hid (∀x∈L',x≤1):=ae fun x hx=>HLE.out x ((fO L).mem_iff.1 (hmem x hx));have HC0:Hid (ChgD B w3 w3):=ae (Chg.refl _ _);have HL':=ae hl';clear hl' hmem hr hb CK HB2 HS HLE HL;go_wp2_with fail;go_loopw [15] (fun i wr=>∃k:Nat,k≤mm∧i=.int .i64 k∧Hid (Sto B wr g p d0 d1 room m R0 R1)∧Hid (ChgD B w3 wr)) (fun i _=>mm-(intOf i).toNat)
 case atStart=>exact⟨0,by omega,rfl,HS3,HC0⟩
 case round=>
  clear HS3 HC0;obtain⟨k,hkn,rfl,HS,HC⟩:=hrel;by_cases hlt:k<mm
  ·have hltI:(k:Int)<(mm:Int):=by omega
   have hkl:k<L'.length:=(by rw[HL'.out];exact hlt);obtain⟨a',c',e,hrd,-⟩:=dB ((rI L').chgD HR3.out HC.out) HL'.out;injection e with e1 e2 e3;subst e1 e3;obtain⟨b,o,rfl,hb,hcc⟩:=hrd.2 (by omega);have cq:=hcc k (.int .i64 (L'.getD k 0:Nat)) (bM hkl);have hx1:=HLE'.out (L'.getD k 0) (by rw[af,ag hkl];exact aU hkl);generalize L'.getD k 0=x at*;have CD:=ae (mF x g p d0 d1 room m R0 R1 wr HS.out hx1);have CY:=ae (IR x p d0 d1 room R0 R1 wr hx1 HS.out.drs);generalize rT d0 d1 x=dx at*;clear hcc hrd hx1 hkl;go_wp2_with fail;refine CD.out.mono ?_;rintro e wx ⟨rfl,rfl⟩;go_wp2_with fail;refine CY.out.mono ?_;rintro e w5 ⟨rfl,hd,hc⟩;have HS5:=ae (HS.out.chgDr hc hd);have HC5:=ae (HC.out.trans hc);clear hd hc CD CY HS HC;go_wp2_with fail;go_roundw
   case rel=>(try((repeat apply Exists.intro);refine⟨?_,rfl⟩));exact⟨k+1,by omega,by go_num,HS5,HC5⟩
   case measure=>simp[intOf];omega
  ·obtain rfl:k=mm:=by omega
   go_wp2_with fail;go_ret;exact⟨rfl,HS.out,(ChgD.below HB3.out).trans HC.out⟩
def cJ(x:Nat×List Nat):Rp:=rP (rV (.int .i64 x.1)) (rB x.2)
def jh(P:List (Nat×List Nat))(R:List (List Nat)):List (List Nat):=P.foldl (fun R x=>vU x.1 R x.2) R
def all1(P:List (Nat×List Nat))(R:List (List Nat)):List (List Nat):=P.foldl (fun R x=>vV x.1 R x.2) R
theorem IV(s:Nat)(R:List (List Nat))(r:List Nat):(vU s R r).length≤R.length+1:=by unfold vU;split <;> simp
theorem IW(s:Nat)(R:List (List Nat))(r:List Nat):(vV s R r).length≤R.length+1:=by unfold vV;split <;> simp
theorem zJ(P:List (Nat×List Nat))(R:List (List Nat)):(jh P R).length≤R.length+P.length:=by
 unfold jh
 induction P generalizing R with
 | nil=>simp
 | cons x P ih=>have h1:=ih (vU x.1 R x.2);have h2:=IV x.1 R x.2;simp only[List.foldl_cons,List.length_cons] at*;omega
theorem zK(P:List (Nat×List Nat))(R:List (List Nat)):(all1 P R).length≤R.length+P.length:=by
 unfold all1
 induction P generalizing R with
 | nil=>simp
 | cons x P ih=>have h1:=ih (vV x.1 R x.2);have h2:=IW x.1 R x.2;simp only[List.foldl_cons,List.length_cons] at*;omega
def lq:Nat×List Nat:=(0,[])
theorem zL{P:List (Nat×List Nat)}{w:World}{F:Nat→Prop}{a:Option Addr}{n c i:Nat}(h:(rS 2 (P.map cJ)).ok w F [.slice a n c])(hl:P.length=n)(hi:i<n):
 ∃b o a2 c2,a=some ⟨b,o,none⟩∧F b∧b<w.heap.size∧w.cell? ⟨b,o+i*2,none⟩=some (.int .i64 (P.getD i lq).1)∧w.cell? ⟨b,o+i*2+1,none⟩=some (.slice a2 (P.getD i lq).2.length c2)∧(rB (P.getD i lq).2).ok w F [.slice a2 (P.getD i lq).2.length c2]:=by
 have hiL:i<P.length:=by omega
 have hR:(P.map cJ)[i]? =some (cJ (P.getD i lq)):=by rw[List.getElem?_map,af,ag hiL];rfl
 obtain⟨b,o,ds,rfl,hF,hb,hok,hlen,hc⟩:=uN h (by decide) hi hR;obtain⟨x,y,rfl,h1,h2⟩:=hok;have hx:x=[.int .i64 (P.getD i lq).1]:=h1.1;subst hx;have l2:=(rB (P.getD i lq).2).len h2;obtain⟨u2,rfl⟩:=List.length_eq_one_iff.1 l2;obtain⟨a2,c2,e,-⟩:=gB h2 rfl;subst e;exact⟨b,o,a2,c2,rfl,hF,hb,hc 0 _ rfl,hc 1 _ rfl,h2⟩
end
def jS(K H Z t:Nat)(x:Nat×List Nat):Rp:=rP (rVs [.int .i64 0,.int .i64 0,.int .i64 x.1,.int .i64 K,.int .i64 H,.int .i64 Z,.int .u32 (t:Nat)]) (rB x.2)
theorem yd{K H Z t:Nat}{L:List (Nat×List Nat)}{w:World}{F:Nat→Prop}{a:Option Addr}{n c i:Nat}(h:(rS 8 (L.map (jS K H Z t))).ok w F [.slice a n c])(hl:L.length=n)(hi:i<n):
 ∃b o a2 c2,a=some ⟨b,o,none⟩∧F b∧b<w.heap.size∧w.cell? ⟨b,o+i*8,none⟩=some (.int .i64 0)∧w.cell? ⟨b,o+i*8+1,none⟩=some (.int .i64 0)∧w.cell? ⟨b,o+i*8+2,none⟩=some (.int .i64 (L.getD i lq).1)∧w.cell? ⟨b,o+i*8+3,none⟩=some (.int .i64 K)∧
  w.cell? ⟨b,o+i*8+4,none⟩=some (.int .i64 H)∧w.cell? ⟨b,o+i*8+5,none⟩=some (.int .i64 Z)∧w.cell? ⟨b,o+i*8+6,none⟩=some (.int .u32 (t:Nat))∧w.cell? ⟨b,o+i*8+7,none⟩=some (.slice a2 (L.getD i lq).2.length c2)∧(rB (L.getD i lq).2).ok w F [.slice a2 (L.getD i lq).2.length c2]:=by
 have hiL:i<L.length:=by omega
 have hR:(L.map (jS K H Z t))[i]? =some (jS K H Z t (L.getD i lq)):=by rw[List.getElem?_map,af,ag hiL];rfl
 obtain⟨b,o,ds,rfl,hF,hb,hok,hlen,hc⟩:=uN h (by decide) hi hR;obtain⟨x,y,rfl,h1,h2⟩:=hok;have hx:x=[.int .i64 0,.int .i64 0,.int .i64 (L.getD i lq).1,.int .i64 K,.int .i64 H,.int .i64 Z,.int .u32 (t:Nat)]:=h1.1;subst hx;have l2:=(rB (L.getD i lq).2).len h2;obtain⟨u2,rfl⟩:=List.length_eq_one_iff.1 l2;obtain⟨a2,c2,e,-⟩:=gB h2 rfl;subst e;exact⟨b,o,a2,c2,rfl,hF,hb,hc 0 _ rfl,hc 1 _ rfl,hc 2 _ rfl,hc 3 _ rfl,hc 4 _ rfl,hc 5 _ rfl,hc 6 _ rfl,hc 7 _ rfl,h2⟩
def qF(K H Z t id:Nat)(v:Value):Array Value:=#[.int .i64 0,.int .i64 0,.int .i64 id,.int .i64 K,.int .i64 H,.int .i64 Z,.int .u32 (t:Nat),v]
theorem uq(K H Z t id:Nat)(v:Value):nW 0 0 id K H Z t v=.agg (qF K H Z t id v):=rfl
theorem D6(K H Z t id:Nat)(v:Value):fC 0 0 id K H Z t v=qF K H Z t id v:=rfl
def RecC8(w:World)(b o:Nat)(K H Z t id:Nat)(v:Value):Prop:=b<w.heap.size∧w.cell? ⟨b,o,none⟩=some (.int .i64 0)∧w.cell? ⟨b,o+1,none⟩=some (.int .i64 0)∧w.cell? ⟨b,o+2,none⟩=some (.int .i64 id)∧w.cell? ⟨b,o+3,none⟩=some (.int .i64 K)∧
 w.cell? ⟨b,o+4,none⟩=some (.int .i64 H)∧w.cell? ⟨b,o+5,none⟩=some (.int .i64 Z)∧w.cell? ⟨b,o+6,none⟩=some (.int .u32 (t:Nat))∧w.cell? ⟨b,o+7,none⟩=some v
theorem RecC8.below{w w':World}{b o K H Z t id:Nat}{v:Value}(h:RecC8 w b o K H Z t id v)(hb:Below w.heap.size w w'):RecC8 w' b o K H Z t id v:=
 ⟨aY h.1 hb.size,(hb.cell (p:=⟨b,o,none⟩) h.1).trans h.2.1,(hb.cell (p:=⟨b,o+1,none⟩) h.1).trans h.2.2.1,(hb.cell (p:=⟨b,o+2,none⟩) h.1).trans h.2.2.2.1,(hb.cell (p:=⟨b,o+3,none⟩) h.1).trans h.2.2.2.2.1,(hb.cell (p:=⟨b,o+4,none⟩) h.1).trans h.2.2.2.2.2.1,
  (hb.cell (p:=⟨b,o+5,none⟩) h.1).trans h.2.2.2.2.2.2.1,(hb.cell (p:=⟨b,o+6,none⟩) h.1).trans h.2.2.2.2.2.2.2.1,(hb.cell (p:=⟨b,o+7,none⟩) h.1).trans h.2.2.2.2.2.2.2.2⟩
theorem yf{K H Z t:Nat}{L:List (Nat×List Nat)}{w:World}{F:Nat→Prop}{b o n c i:Nat}(h:(rS 8 (L.map (jS K H Z t))).ok w F [.slice (some ⟨b,o,none⟩) n c])(hl:L.length=n)(hi:i<n):
 ∃v,RecC8 w b (o+i*8) K H Z t (L.getD i lq).1 v:=by
 obtain⟨b',o',a2,c2,e,-,h0,h1,h2,h3,h4,h5,h6,h7,h8,-⟩:=yd h hl hi;injection e with e;injection e with e1 e2 _;subst e1 e2;exact⟨_,h0,h1,h2,h3,h4,h5,h6,h7,h8⟩
theorem Nf{K H Z t id:Nat}{d:List Nat}{w:World}{F:Nat→Prop}{v:Value}(h:(rB d).ok w F [v]):(jS K H Z t (id,d)).ok w F (qF K H Z t id v).toList:=by
 have e:(qF K H Z t id v).toList=[.int .i64 0,.int .i64 0,.int .i64 id,.int .i64 K,.int .i64 H,.int .i64 Z,.int .u32 (t:Nat)]++[v]:=rfl;rw[e];exact nJ (uM (by intro u hu;simp at hu;rcases hu with rfl | rfl | rfl | rfl | rfl | rfl <;> rfl)) h
theorem K8(b o c:Nat)(w:World)(c0:w.cell? ⟨b,o,none⟩=some (.int .i64 0))(c1:w.cell? ⟨b,o+1,none⟩=some (.int .i64 0))(c2:w.cell? ⟨b,o+2,none⟩=some (.int .i64 1)):Calls prog 291 #[.slice (some ⟨b,o,none⟩) 3 c] w fun e w'=>e=.returned (.int .i64 1)∧w'=w:=by
 go_enter func291,ntmps291;go_wp2_with fail;go_loopw [8] (fun i wr=>∃k:Nat,k≤2∧i=.int .i64 k∧Hid (wr=w)) (fun i _=>2-(intOf i).toNat)
 case atStart=>exact⟨0,by omega,rfl,ae rfl⟩
 case round=>
  obtain⟨k,hk,rfl,HW⟩:=hrel;obtain rfl:=HW.out;have hk3:k=0∨k=1∨k=2:=(by omega);rcases hk3 with rfl | rfl | rfl
  ·go_wp2_with fail
   go_roundw
   case rel=>first | exact⟨1,by omega,by first | rfl | go_num,ae (by first | rfl | trivial)⟩ | ((repeat apply Exists.intro);exact⟨⟨1,by omega,by go_num,ae (by first | rfl | trivial)⟩,rfl⟩)
   case measure=>simp[intOf]
  ·go_wp2_with fail
   go_roundw
   case rel=>first | exact⟨2,by omega,by first | rfl | go_num,ae (by first | rfl | trivial)⟩ | ((repeat apply Exists.intro);exact⟨⟨2,by omega,by go_num,ae (by first | rfl | trivial)⟩,rfl⟩)
   case measure=>simp[intOf]
  ·go_wp2_with fail
   go_ret;exact⟨rfl,rfl⟩
theorem wV(K H Z t x y:Nat)(v1 v2:Value)(w:World)(h:y<x):Calls prog 249 #[nW 0 0 x K H Z t v1,nW 0 0 y K H Z t v2] w fun e w'=>e=.returned (.int .i64 1)∧Below w.heap.size w w':=by
 have CI:=ae fun (p q:Int) w=>Tryz.cmp_Compare_int p q w;have hq0:Lib.compareInt 0 0=0:=by decide
 have hq1:Lib.compareInt (x:Int) (y:Int)=1:=by unfold Lib.compareInt;rw[if_neg (by omega),if_pos (by omega)]
 have hsz1:(w.alloc (.cells (fC 0 0 x K H Z t v1) 45)).heap.size=w.heap.size+1:=by simp
 have HX:=ae ((Blk.new w 45 (fC 0 0 x K H Z t v1)).alloc (.cells (fC 0 0 y K H Z t v2) 45));have HY:Hid (Blk ((w.alloc (.cells (fC 0 0 x K H Z t v1) 45)).alloc (.cells (fC 0 0 y K H Z t v2) 45)) (w.heap.size+1) 45 (fC 0 0 y K H Z t v2)):=ae (by rw[←hsz1];exact Blk.new _ _ _);have HB:Hid (Below w.heap.size w ((w.alloc (.cells (fC 0 0 x K H Z t v1) 45)).alloc (.cells (fC 0 0 y K H Z t v2) 45))):=ae (((az _ _).alloc (ah _) _).alloc (by simp) _);clear hsz1 h;simp only[uq,D6,qF] at*;go_enter func249,ntmps249;go_upto_region 1 with fail;generalize (w.alloc (.cells #[.int .i64 0,.int .i64 0,.int .i64 x,.int .i64 K,.int .i64 H,.int .i64 Z,.int .u32 (t:Nat),v1] 45)).alloc (.cells #[.int .i64 0,.int .i64 0,.int .i64 y,.int .i64 K,.int .i64 H,.int .i64 Z,.int .u32 (t:Nat),v2] 45)=w0 at*;have x0:w0.cell? ⟨w.heap.size,0,none⟩=some (.int .i64 0):=HX.out.cell 0;have x1:w0.cell? ⟨w.heap.size,1,none⟩=some (.int .i64 0):=HX.out.cell 1;have x2:w0.cell? ⟨w.heap.size,2,none⟩=some (.int .i64 x):=HX.out.cell 2;have y0:w0.cell? ⟨w.heap.size+1,0,none⟩=some (.int .i64 0):=HY.out.cell 0;have y1:w0.cell? ⟨w.heap.size+1,1,none⟩=some (.int .i64 0):=HY.out.cell 1;have y2:w0.cell? ⟨w.heap.size+1,2,none⟩=some (.int .i64 y):=HY.out.cell 2
 go_region_held3 (fun w'=>(w'.cell? ⟨w.heap.size,0,none⟩=some (.int .i64 0)∧w'.cell? ⟨w.heap.size,1,none⟩=some (.int .i64 0)∧w'.cell? ⟨w.heap.size,2,none⟩=some (.int .i64 x))∧w'.cell? ⟨w.heap.size+1,0,none⟩=some (.int .i64 0)∧w'.cell? ⟨w.heap.size+1,1,none⟩=some (.int .i64 0)∧w'.cell? ⟨w.heap.size+1,2,none⟩=some (.int .i64 y)) (go_keep) (first
  | (go_at_call 293;refine(CI.out _ _ _).mono ?_;rintro e wx ⟨rfl,rfl⟩;go_simp)
  | (go_at_call 291;refine(K8 _ _ _ _ (by first | exact dO _ _ _ 0 | (go_simp;done)) (by first | exact dO _ _ _ 1 | (go_simp;done)) (by first | exact dO _ _ _ 2 | (go_simp;done))).mono ?_;rintro e wx ⟨rfl,rfl⟩;go_simp))
 all_goals(
  go_simp;go_wp2_with fail;go_ret;exact⟨rfl,(HB.out.alloc HB.out.size _).drew⟩)
theorem Je(K H Z t x y:Nat)(v1 v2:Value)(w:World)(h:y<x):Calls prog 251 #[nW 0 0 x K H Z t v1,nW 0 0 y K H Z t v2] w fun e w'=>e=.returned (.bool false)∧Below w.heap.size w w':=by
 have CO:=ae fun w=>wV K H Z t x y v1 v2 w h;have hsz1:(w.alloc (.cells (fC 0 0 x K H Z t v1) 45)).heap.size=w.heap.size+1:=by simp
 have HX:=ae ((Blk.new w 45 (fC 0 0 x K H Z t v1)).alloc (.cells (fC 0 0 y K H Z t v2) 45));have HY:Hid (Blk ((w.alloc (.cells (fC 0 0 x K H Z t v1) 45)).alloc (.cells (fC 0 0 y K H Z t v2) 45)) (w.heap.size+1) 45 (fC 0 0 y K H Z t v2)):=ae (by rw[←hsz1];exact Blk.new _ _ _);have HB:Hid (Below w.heap.size w ((w.alloc (.cells (fC 0 0 x K H Z t v1) 45)).alloc (.cells (fC 0 0 y K H Z t v2) 45))):=ae (((az _ _).alloc (ah _) _).alloc (by simp) _);clear hsz1 h;simp only[uq,D6,qF] at*;go_enter func251,ntmps251;go_upto_region 1 with fail;generalize (w.alloc (.cells #[.int .i64 0,.int .i64 0,.int .i64 x,.int .i64 K,.int .i64 H,.int .i64 Z,.int .u32 (t:Nat),v1] 45)).alloc (.cells #[.int .i64 0,.int .i64 0,.int .i64 y,.int .i64 K,.int .i64 H,.int .i64 Z,.int .u32 (t:Nat),v2] 45)=w0 at*;obtain⟨x0,x1,x2,x3,x4,x5,x6,x7⟩:=dc HX.out;obtain⟨y0,y1,y2,y3,y4,y5,y6,y7⟩:=dc HY.out;go_wp2_with fail;refine(CO.out w0).mono ?_;rintro e w1 ⟨rfl,hb⟩;have HB1:=ae (HB.out.trans (hb.mono HB.out.size));clear hb;go_wp2_with fail;go_ret;exact⟨rfl,HB1.out⟩
def qZ(L:List (Nat×List Nat)):Prop:=∀i,i+1<L.length→(L.getD i lq).1<(L.getD (i+1) lq).1
theorem Lc(K H Z t:Nat)(L:List (Nat×List Nat))(F:Nat→Prop)(a:Option Addr)(n c:Nat)(w:World)(hx:(rS 8 (L.map (jS K H Z t))).ok w F [.slice a n c])(hl:L.length=n)(hn:n≤1000)(hs:qZ L):
 Calls prog 330 #[.slice a n c,.int .i64 0,.int .i64 n,.func (.func 249) #[] #[]] w fun e w'=>e=.returned (.tuple #[])∧Below w.heap.size w w':=by
 have HX:=ae hx;have HL:=ae hl;have HS:=ae hs;have HB0:=ae (az w.heap.size w);clear hx hl hs;go_enter func330,ntmps330;go_wp2_with fail;go_loopw [8] (fun i wr=>∃k:Nat,k≤n+1∧1≤k∧i=.int .i64 k∧Hid (Below w.heap.size w wr)) (fun i _=>n-(intOf i).toNat)
 case atStart=>exact⟨1,by omega,by omega,rfl,HB0⟩
 case round=>
  clear HB0;obtain⟨k,hkn,hk1,rfl,HB⟩:=hrel;by_cases hlt:k<n
  ·have hltI:(k:Int)<(n:Int):=by omega
   have hkI:(0:Int)<(k:Int):=(by omega);have hk0:0<k:=(by omega);have hkD:decide (0<k)=true:=decide_eq_true hk0;have hkI1:(1:Int)≤(k:Int):=(by omega);obtain⟨q,hq⟩:∃q,q=k-1:=⟨_,rfl⟩;have hw1:IntKind.i64.wrap ((k:Int)-1)=(q:Int):=(by rw[IntKind.wrap_i64];omega);have hqI:(q:Int)<(n:Int):=(by omega);have HR:=ae ((rS 8 _).new HX.out HB.out);obtain⟨b,o,_,_,rfl,-⟩:=yd HR.out HL.out hlt;obtain⟨v1,HP⟩:=yf HR.out HL.out hlt;obtain⟨v2,HQ⟩:=yf (i:=q) HR.out HL.out (by omega);have hlt2:=HS.out q (by rw[HL.out];omega);rw[show q+1=k by omega] at hlt2;have CC:=ae fun v1 v2 w=>wV K H Z t (L.getD k lq).1 (L.getD q lq).1 v1 v2 w hlt2;simp only[uq,qF] at CC;have HP:=ae HP;have HQ:=ae HQ;clear hlt2 hq;generalize (L.getD k lq).1=x at*;generalize (L.getD q lq).1=y at*;go_wp2_with fail;rename World=>wo;go_loopw [9] (fun j wr=>j=.int .i64 k∧Hid (wr=wo)) (fun _ _=>0)
   case atStart=>exact⟨rfl,ae rfl⟩
   case round=>
    obtain⟨rfl,HW⟩:=hrel;obtain rfl:=HW.out;go_upto_region 4 with fail;refine bE (by kernel_rfl) (by kernel_rfl) ?_
    iterate 17 (
     with_reducible refine wpQuiet_step (fun Kq hKq=> ?_)
     go_simp
     first
     | refine hKq _ ?_
     | refine⟨_,fun _ _=>rfl,hKq _ ?_⟩
     | (apply Exists.intro
        refine⟨fun w' hw'=> ?_,hKq _ ?_⟩
        ·obtain⟨-,p0',p1',p2',p3',p4',p5',p6',p7'⟩:=HP.out.below hw'
         obtain⟨-,q0',q1',q2',q3',q4',q5',q6',q7'⟩:=HQ.out.below hw'
         first
         | (go_simp
            first | exact rfl | exact⟨rfl,rfl⟩)
         | (go_at_call 249
            refine(CC.out _ _ w').mono ?_;rintro r w5 ⟨rfl,hb5⟩;exact⟨rfl,hw'.trans (hb5.mono hw'.size)⟩))
     clear hKq Kq)
    with_reducible refine wpQuiet_nil ?_
    intro w5 hw5;have HB5:=ae (HB.out.trans (hw5.mono HB.out.size));clear hw5;go_wp2_with fail;go_roundw
    case rel=>(try((repeat apply Exists.intro);refine⟨?_,rfl⟩));exact⟨k+1,by omega,by omega,by go_num,HB5⟩
    case measure=>simp[intOf];omega
  ·have hltI:¬(k:Int)<(n:Int):=by omega
   go_wp2_with fail
   (try simp only[Exit.inBlock,Exit.then])
   refine bodyPost_end (results_none rfl _ _ _) rfl ?_;exact⟨rfl,HB.out⟩
theorem BR(K H Z t:Nat)(L:List (Nat×List Nat))(F:Nat→Prop)(a:Option Addr)(n c:Nat)(w:World)(hx:(rS 8 (L.map (jS K H Z t))).ok w F [.slice a n c])(hl:L.length=n)(hn:n≤19)(hs:qZ L):
 Calls prog 299 #[.slice a n c,.int .i64 n,.func (.func 249) #[] #[]] w fun e w'=>e=.returned (.tuple #[])∧Below w.heap.size w w':=by
 have CI:=ae (Lc K H Z t L F a n c w hx hl (by omega) hs);have hnI:¬(20:Int)≤(n:Int):=by omega
 have hnJ:¬(20:Int)<(n:Int):=by omega
 clear hx hl hs;go_enter func299,ntmps299;go_wp2_with fail;go_loopw [7,8] (fun i j wr=>i=.int .i64 0∧j=.int .i64 20∧Hid (wr=w)) (fun _ _ _=>0)
 case atStart=>exact⟨rfl,rfl,ae rfl⟩
 case round=>
  obtain⟨rfl,rfl,HW⟩:=hrel;obtain rfl:=HW.out;go_wp2_with fail;refine CI.out.mono ?_;rintro e w1 ⟨rfl,hb⟩;have HB:=ae hb;clear hb CI;go_wp2_with fail;rename World=>wo;go_loopw [6] (fun i wr=>i=.int .i64 20∧Hid (wr=wo)) (fun _ _=>0)
  case atStart=>exact⟨rfl,ae rfl⟩
  case round=>
   obtain⟨rfl,HW⟩:=hrel;obtain rfl:=HW.out;go_wp2_with fail
   (try simp only[Exit.inBlock,Exit.then])
   refine bodyPost_end (results_none rfl _ _ _) rfl ?_;exact⟨rfl,HB.out⟩
theorem uw(K H Z t:Nat)(L:List (Nat×List Nat))(F:Nat→Prop)(a:Option Addr)(n c:Nat)(w:World)(hx:(rS 8 (L.map (jS K H Z t))).ok w F [.slice a n c])(hl:L.length=n)(hn:n≤19)(hs:qZ L):
 Calls prog 248 #[.slice a n c,.func (.func 249) #[] #[]] w fun e w'=>e=.returned (.tuple #[])∧Below w.heap.size w w':=by
 have CI:=ae (BR K H Z t L F a n c w hx hl hn hs);clear hx hl hs;go_enter func248,ntmps248;go_wp2_with fail;refine CI.out.mono ?_;rintro e w1 ⟨rfl,hb⟩;have HB:=ae hb;clear hb CI;go_wp2_with fail
 (try simp only[Exit.inBlock,Exit.then])
 refine bodyPost_end (results_none rfl _ _ _) rfl ?_;exact⟨rfl,HB.out⟩
theorem zT(K H Z t:Nat)(L:List (Nat×List Nat))(F:Nat→Prop)(a:Option Addr)(n c:Nat)(w:World)(hx:(rS 8 (L.map (jS K H Z t))).ok w F [.slice a n c])(hl:L.length=n)(hn:n≤1000)(hs:qZ L):
 Calls prog 250 #[.slice a n c,.func (.func 251) #[] #[]] w fun e w'=>e=.returned (.slice a n c)∧Below w.heap.size w w':=by
 have HX:=ae hx;have HL:=ae hl;have HS:=ae hs;have HB0:=ae (az w.heap.size w);clear hx hl hs;by_cases h2:n<2
 ·have h2I:(n:Int)<2:=by omega
  go_enter func250,ntmps250;go_wp2_with fail;go_ret;exact⟨rfl,HB0.out⟩
 have h2I:¬(n:Int)<2:=by omega
 go_enter func250,ntmps250;go_wp2_with fail;go_loopw [5] (fun i wr=>∃k:Nat,k≤n∧1≤k∧i=.int .i64 k∧Hid (Below w.heap.size w wr)) (fun i _=>n-(intOf i).toNat)
 case atStart=>exact⟨1,by omega,by omega,rfl,HB0⟩
 case round=>
  clear HB0;obtain⟨k,hkn,hk1,rfl,HB⟩:=hrel;by_cases hlt:k<n
  ·have hltI:(k:Int)<(n:Int):=by omega
   have hkI1:(1:Int)≤(k:Int):=(by omega);obtain⟨q,hq⟩:∃q,q=k-1:=⟨_,rfl⟩;have hw1:IntKind.i64.wrap ((k:Int)-1)=(q:Int):=(by rw[IntKind.wrap_i64];omega);have hqI:(q:Int)<(n:Int):=(by omega);have HR:=ae ((rS 8 _).new HX.out HB.out);obtain⟨b,o,_,_,rfl,-⟩:=yd HR.out HL.out hlt;obtain⟨v1,HP⟩:=yf HR.out HL.out hlt;obtain⟨v2,HQ⟩:=yf (i:=q) HR.out HL.out (by omega);have hlt2:=HS.out q (by rw[HL.out];omega);rw[show q+1=k by omega] at hlt2;have CC:=ae fun v1 v2 w=>Je K H Z t (L.getD k lq).1 (L.getD q lq).1 v1 v2 w hlt2;simp only[uq,qF] at CC;have HP:=ae HP;have HQ:=ae HQ;clear hlt2 hq;generalize (L.getD k lq).1=x at*;generalize (L.getD q lq).1=y at*;go_upto_region 6 with fail;refine bE (by kernel_rfl) (by kernel_rfl) ?_
   iterate 11 (
    with_reducible refine wpQuiet_step (fun Kq hKq=> ?_)
    go_simp
    first
    | refine hKq _ ?_
    | refine⟨_,fun _ _=>rfl,hKq _ ?_⟩
    | (apply Exists.intro
       refine⟨fun w' hw'=> ?_,hKq _ ?_⟩
       ·obtain⟨-,p0',p1',p2',p3',p4',p5',p6',p7'⟩:=HP.out.below hw'
        obtain⟨-,q0',q1',q2',q3',q4',q5',q6',q7'⟩:=HQ.out.below hw'
        first
        | (go_simp
           first | exact rfl | exact⟨rfl,rfl⟩)
        | (go_at_call 251
           refine(CC.out _ _ w').mono ?_;rintro r w5 ⟨rfl,hb5⟩;exact⟨rfl,hw'.trans (hb5.mono hw'.size)⟩))
    clear hKq Kq)
   with_reducible refine wpQuiet_nil ?_
   intro w5 hw5;have HB5:=ae (HB.out.trans (hw5.mono HB.out.size));clear hw5;go_wp2_with fail;go_roundw
   case rel=>(try((repeat apply Exists.intro);refine⟨?_,rfl⟩));exact⟨k+1,by omega,by omega,by go_num,HB5⟩
   case measure=>simp[intOf];omega
  ·obtain rfl:k=n:=by omega
   go_wp2_with fail;go_ret;exact⟨rfl,HB.out⟩
section
variable {B:Nat}
theorem FJ{w:World}{ops:Array Oper}{rest:List Oper}{o:Oper}{a:Act}{Q:Exit→Act→World→Prop}(hgd:o.guard=none)(s x:Operand){C y:Nat}{i:Int}{v:Value}{xs:List Nat}(hi:i=(y:Int))
 (ho:o.op=.call { callee:=.builtin .append,args:=#[s,x],argTypes:=#[24,24] })
 (h:OwnI w C v xs)(hC:C≤w.heap.size)(hl:xs.length≤1000000)(hs:a.eval s=v)(hx:a.eval x=.slice (some ⟨w.heap.size,0,none⟩) 1 1)
 (K:∀v' w2,OwnI w2 C v' (xs++[y])→Chg (fun b=>some b=v.ownBlock) w w2→wpList prog ops Q rest (a.put o.dst v') w2):
 wpList prog ops Q (o :: rest) a (w.alloc (.cells #[.int .i64 i] 3)):=by
 subst hi;have hba:=(az w.heap.size w).alloc (ah _) (.cells #[.int .i64 (y:Int)] 3);have h1:OwnI (w.alloc (.cells #[.int .i64 (y:Int)] 3)) C v xs:=eZ h hba;have hC1:=aQ hC hba.size;have hcell:=dO w #[.int .i64 (y:Int)] 3 0;generalize w.alloc (.cells #[.int .i64 (y:Int)] 3)=w1 at*;refine jo (P:=prog) w1 hgd s x 24 ho C 3 (.int .i64 0) 8 underlying24 dK rfl v xs.length (bf xs) hs h1 w.heap.size (.int .i64 (y:Int)) hx hcell rfl (by omega) (by unfold maxLen;omega) hC1 fun v' w2 hown hg hat=> ?_;refine K v' w2 ?_ ((Chg.of hba).trans (Chg.grown hg fun k hk _=>hk.symm));unfold OwnI;rw[aJ];have e:bf (xs++[y])=bf xs++[.int .i64 (y:Int)]:=by unfold bf;rw[aW];rfl
 rw[e];exact hown
theorem Drs.chgTy{w w':World}{p d0 d1 room:Nat}{R0 R1:List (List Nat)}{M:Nat→Prop}{t:TypeId}(h:Drs B w p d0 d1 room R0 R1)(hc:Chg M w w')(hM:∀b,M b→Ty t w b)(ht:t≠235∧t≠23∧t≠5∧t≠149):Drs B w' p d0 d1 room R0 R1:=by
 obtain⟨hp,⟨o0,o1,h0,h1,ha⟩,hne,hlo⟩:=h
 exact⟨Blk.chg hp hc fun hm=>(hM _ hm).ne (Blk.ty hp) ht.2.2.2,⟨o0,o1,h0.chg hc (fun hm=>(hM _ hm).ne h0.ty ht.1) (fun b hb hm=>(hM _ hm).ne (h0.oty b hb) ht.2.1) (fun b hm hu=>(hM _ hm).ne hu ht.2.2.1),
  h1.chg hc (fun hm=>(hM _ hm).ne h1.ty ht.1) (fun b hb hm=>(hM _ hm).ne (h1.oty b hb) ht.2.1) (fun b hm hu=>(hM _ hm).ne hu ht.2.2.1),ha⟩,hne,hlo⟩
theorem ChgD.newer{w w1 w2:World}{M:Nat→Prop}(h:ChgD B w w1)(k:Chg M w1 w2)(hM:∀b,M b→w.heap.size≤b):ChgD B w w2:=
 ⟨k.os.trans h.os,k.tape.trans h.tape,k.output.trans h.output,aQ h.size k.size,fun i hi hm=>(k.block i (aY hi h.size) fun e=>by have:=hM i e;omega).trans (h.block i hi hm)⟩
theorem lay_all(P:List (Nat×List Nat))(a:Option Addr)(n c:Nat)(g p d0 d1 room:Nat)(m:dC)(R0 R1:List (List Nat))(w:World)(h:Sto B w g p d0 d1 room m R0 R1)(hx:(rS 2 (P.map cJ)).ok w (Fd w) [.slice a n c])(hl:P.length=n)(h0:0<n)(hn:n≤1000)
 (hP:∀x∈P,x.1≤1∧x.2.length=64)(hroom:R0.length+n≤room∧R1.length+n≤room)(hroom2:room≤512):
 Calls prog 91 #[.func (.func 92) #[.pointer (some ⟨g,0,none⟩)] #[],.slice a n c] w fun e w'=>e=.returned (.int .i64 0)∧Sto B w' g p d0 d1 room m (jh P R0) (all1 P R1)∧ChgD B w w':=by
 have HL:=ae hl;have HP:=ae hP;have HX:=ae hx;have HRM:=ae hroom;have HSE:=ae h;have HS0:Hid (Drs B w p d0 d1 room (jh (P.take 0) R0) (all1 (P.take 0) R1)):=ae h.drs;have HC0:Hid (ChgD B w w):=ae (Chg.refl _ _);have HO0:Hid (OwnI w w.heap.size (.slice none 0 0) ((P.take 0).map Prod.fst)):=ae (OwnI.nil _ _);clear h hx hl hP hroom;go_enter func91,ntmps91;go_wp2_with fail;go_loopw [5,11] (fun v i wr=>∃k:Nat,k≤n∧i=.int .i64 k∧Hid (Drs B wr p d0 d1 room (jh (P.take k) R0) (all1 (P.take k) R1))∧Hid (ChgD B w wr)∧Hid (OwnI wr w.heap.size v ((P.take k).map Prod.fst))) (fun _ i _=>n-(intOf i).toNat)
 case atStart=>exact⟨0,by omega,rfl,HS0,HC0,HO0⟩
 case round=>
  clear HS0 HC0 HO0;obtain⟨k,hkn,rfl,HS,HC,HO⟩:=hrel;obtain⟨bv,nv,cv,rfl⟩:=HO.out.sl;by_cases hlt:k<n
  ·have hltI:(k:Int)<(n:Int):=by omega
   have hkl:k<P.length:=(by rw[HL.out];exact hlt);obtain⟨b,o,a2,c2,rfl,hF,hb,d0',d1',hr⟩:=zL ((rS 2 _).chgD HX.out HC.out) HL.out hlt;have hxk:=HP.out (P.getD k lq) (by rw[af,ag hkl];exact aU hkl);have HTK:P.take (k+1)=P.take k++[P.getD k lq]:=(by rw[aP hkl,af,ag hkl];rfl);have HT0:Hid (jh (P.take (k+1)) R0=vU (P.getD k lq).1 (jh (P.take k) R0) (P.getD k lq).2):=ae (by rw[HTK];unfold jh;rw[List.foldl_append];rfl);have HT1:Hid (all1 (P.take (k+1)) R1=vV (P.getD k lq).1 (all1 (P.take k) R1) (P.getD k lq).2):=ae (by rw[HTK];unfold all1;rw[List.foldl_append];rfl);have HTF:Hid ((P.take (k+1)).map Prod.fst=(P.take k).map Prod.fst++[(P.getD k lq).1]):=ae (by rw[HTK,aW];rfl);have hml:((P.take k).map Prod.fst).length≤1000000:=(by rw[aG,aI];omega);have hr0:(jh (P.take k) R0).length<room:=(by have h1:=zJ (P.take k) R0;have h2:=HRM.out.1;rw[aI] at h1;omega);have hr1:(all1 (P.take k) R1).length<room:=(by have h1:=zK (P.take k) R1;have h2:=HRM.out.2;rw[aI] at h1;omega);have HRR:=ae (And.intro hr0 hr1);clear hkl HTK hF hb hr0 hr1;generalize (P.take k).map Prod.fst=LF at*;generalize jh (P.take k) R0=Q0 at*;generalize all1 (P.take k) R1=Q1 at*;generalize P.getD k lq=x at*;obtain⟨s,r⟩:=x;simp only at*;obtain⟨hs1,hr64⟩:=hxk;rw[hr64] at d1' hr;have hba:=(az wr.heap.size wr).alloc (ah _) (.cells #[.int .i64 s,.slice a2 64 c2] 238);have HX1:=ae (Blk.new wr 238 #[.int .i64 s,.slice a2 64 c2]);have HS1:=ae (HS.out.below hba);have HC1:=ae (HC.out.trans (ChgD.below hba));have HO1:=ae (HO.out.below hba);have HR1:=ae ((rB r).fd hr hba);go_upto_region 5 with fail;clear hba hr HS HC HO d0' d1';generalize wr.alloc (.cells #[.int .i64 s,.slice a2 64 c2] 238)=w1 at*;generalize wr.heap.size=G1 at*;have x0:w1.cell? ⟨G1,0,none⟩=some (.int .i64 s):=Blk.cell HX1.out 0;have x1:w1.cell? ⟨G1,1,none⟩=some (.slice a2 64 c2):=Blk.cell HX1.out 1;have CD:=ae (mF s g p d0 d1 room m Q0 Q1 w1.drew (HSE.out.chgDr (HC1.out.trans (ChgD.below ((az _ _).drew))) (HS1.out.below ((az _ _).drew))) hs1)
   have CA:Hid (Calls prog 164 #[.pointer (some ⟨rT d0 d1 s,0,none⟩),.slice a2 64 c2] w1.drew fun e w'=>e=.returned (.int .i64 0)∧Drs B w' p d0 d1 room (vU s Q0 r) (vV s Q1 r)∧ChgD B w1.drew w'):=ae (by
    obtain⟨a3,c3,e,hrd,hnil,-⟩:=gB HR1.out hr64;injection e with e1 e2 e3;subst e1 e3;exact BG s p d0 d1 room Q0 Q1 r a2 c2 w1.drew hs1 (HS1.out.below ((az _ _).drew)) (hrd.below ((az _ _).drew) (ah _)) hnil HRR.out hroom2)
   generalize rT d0 d1 s=dx at*
   go_region_law (first
    | (have HDx:=HDN
       go_simp;go_at_call 164;refine CA.out.mono ?_;rintro e w3 ⟨rfl,hd,hc⟩;have HS3:=ae hd;have HC3:=ae (HC1.out.trans ((ChgD.below ((az _ _).drew)).trans hc));have HO3:=ae ((HO1.out.below ((az _ _).drew)).chgD hc);have HX3:Hid (Blk w3 G1 238 #[.int .i64 s,.slice a2 64 c2]):=ae (Blk.chg HX1.out ((ChgD.below ((az _ _).drew)).trans hc) (fun hm=>Md.not (Blk.ty HX1.out) (by decide) (by decide) hm.2));clear hd hc;go_simp)
    | (go_simp
       go_at_call 92;refine CD.out.mono ?_;rintro e wx ⟨rfl,rfl⟩;have HDN:=True.intro;go_simp))
   all_goals(
    clear CD CA x0 x1 HS1 HC1 HO1 HR1 HX1 HRR;have y0:w3.cell? ⟨G1,0,none⟩=some (.int .i64 s):=Blk.cell HX3.out 0;have hs3:w.heap.size≤w3.heap.size:=HC3.out.size
    go_wp2_with (at_builtin;refine FJ (w:=w3) (C:=w.heap.size) (y:=s) rfl _ _ rfl rfl HO3.out hs3 hml rfl rfl ?_)
    intro v4 w4 hO4 hc4;rw[←HTF.out] at hO4;have HO4:=ae hO4;have HS4:Hid (Drs B w4 p d0 d1 room (jh (P.take (k+1)) R0) (all1 (P.take (k+1)) R1)):=ae (by rw[HT0.out,HT1.out];exact HS3.out.chgTy hc4 (fun b hb=>HO3.out.ty b hb.symm) (by decide));have HC4:=ae (HC3.out.newer hc4 fun b hb=>(HO3.out.ltA b hb.symm).1);clear hO4 hc4 HS3 HC3 HO3 HX3 y0;go_wp2_with fail;go_roundw
    case rel=>(try((repeat apply Exists.intro);refine⟨?_,rfl⟩));exact⟨k+1,by omega,by go_num,HS4,HC4,HO4⟩
    case measure=>simp[intOf];omega)
  ·obtain rfl:k=n:=by omega
   have HE:Hid (P.take k=P):=ae (aO (by rw[HL.out];exact ah _));rw[HE.out] at HS HO
   have CY:=ae (IU (P.map Prod.fst) (Fr w.heap.size) bv nv cv g p d0 d1 room m (jh P R0) (all1 P R1) wr (HSE.out.chgDr HC.out HS.out) (gI HO.out) (by obtain⟨a',c',e⟩:=HO.out.lenA;injection e with e1 e2 e3;exact e2.symm) (by obtain⟨a',c',e⟩:=HO.out.lenA;injection e with e1 e2 e3;rw[aG,HL.out] at e2;omega) (by obtain⟨a',c',e⟩:=HO.out.lenA;injection e with e1 e2 e3;rw[aG,HL.out] at e2;omega)
    (fun x hx=>by obtain⟨y,hy,rfl⟩:=List.mem_map.1 hx;exact(HP.out y hy).1))
   clear HO HE;go_wp2_with fail;refine CY.out.mono ?_;rintro e w5 ⟨rfl,hs,hc⟩;have HS5:=ae hs;have HC5:=ae (HC.out.trans hc);clear hs hc CY;go_wp2_with fail;go_ret;exact⟨rfl,HS5.out,HC5.out⟩
end
end Go.Proofs.YtofgapdnadbgkaaGreatDoor
