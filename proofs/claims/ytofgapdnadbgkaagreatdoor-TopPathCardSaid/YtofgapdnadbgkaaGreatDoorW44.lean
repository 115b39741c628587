import Derived.Test.YtofgapdnadbgkaaGreatDoorW43
set_option linter.unusedVariables false
set_option maxRecDepth 100000
set_option maxHeartbeats 400000000
namespace Go.Proofs.YtofgapdnadbgkaaGreatDoor
open Go.RowKit _root_.Go.Proofs.Tryz
section
variable {B:Nat}
def recP(K H Z t:Nat)(mid:List (List Nat))(id:Nat):Nat×List Nat:=(([0,1]:List Nat).getD (id%2) 0,cellL 1 (gS 0 0 id K H Z t (dn K H Z (t:Nat) mid id)))
def fL(K H Z t:Nat)(mid:List (List Nat))(n:Nat):List (Nat×List Nat):=(List.range n).map (recP K H Z t mid)
theorem Ap{w:World}{g:Nat}{T:TypeId}{z0 z1 z2 z3 z4 z5 z6 z7:Value}(h:Blk w g T #[z0,z1,z2,z3,z4,z5,z6,z7])(a0 a1 a2 a3 a4 a5 a6 a7:Value):
 Blk ((((((((w.setCell ⟨g,0,none⟩ a0).setCell ⟨g,1,none⟩ a1).setCell ⟨g,2,none⟩ a2).setCell ⟨g,3,none⟩ a3).setCell ⟨g,4,none⟩ a4).setCell ⟨g,5,none⟩ a5).setCell ⟨g,6,none⟩ a6).setCell ⟨g,7,none⟩ a7) g T #[a0,a1,a2,a3,a4,a5,a6,a7]:=by
 have e:((((((((#[z0,z1,z2,z3,z4,z5,z6,z7]:Array Value).setIfInBounds 0 a0).setIfInBounds 1 a1).setIfInBounds 2 a2).setIfInBounds 3 a3).setIfInBounds 4 a4).setIfInBounds 5 a5).setIfInBounds 6 a6).setIfInBounds 7 a7= #[a0,a1,a2,a3,a4,a5,a6,a7]:=by simp
 have h2:=((((((((h.set 0 a0).set 1 a1).set 2 a2).set 3 a3).set 4 a4).set 5 a5).set 6 a6).set 7 a7);rw[e] at h2;exact h2
theorem uR{B g:Nat}{v w:World}(h:Below B v w)(hg:B≤g)(a0 a1 a2 a3 a4 a5 a6 a7:Value):
 Below B v ((((((((w.setCell ⟨g,0,none⟩ a0).setCell ⟨g,1,none⟩ a1).setCell ⟨g,2,none⟩ a2).setCell ⟨g,3,none⟩ a3).setCell ⟨g,4,none⟩ a4).setCell ⟨g,5,none⟩ a5).setCell ⟨g,6,none⟩ a6).setCell ⟨g,7,none⟩ a7):=
 (((((((h.setCell (p:=⟨g,0,none⟩) hg a0).setCell (p:=⟨g,1,none⟩) hg a1).setCell (p:=⟨g,2,none⟩) hg a2).setCell (p:=⟨g,3,none⟩) hg a3).setCell (p:=⟨g,4,none⟩) hg a4).setCell (p:=⟨g,5,none⟩) hg a5).setCell (p:=⟨g,6,none⟩) hg a6).setCell (p:=⟨g,7,none⟩) hg a7
theorem xg{g:Nat}(w:World)(a0 a1 a2 a3 a4 a5 a6 a7:Value)(b:Nat)(hne:b≠g):
 ((((((((w.setCell ⟨g,0,none⟩ a0).setCell ⟨g,1,none⟩ a1).setCell ⟨g,2,none⟩ a2).setCell ⟨g,3,none⟩ a3).setCell ⟨g,4,none⟩ a4).setCell ⟨g,5,none⟩ a5).setCell ⟨g,6,none⟩ a6).setCell ⟨g,7,none⟩ a7).heap[b]? =w.heap[b]? :=
 (aZ _ _ _ b hne).trans ((aZ _ _ _ b hne).trans ((aZ _ _ _ b hne).trans ((aZ _ _ _ b hne).trans ((aZ _ _ _ b hne).trans ((aZ _ _ _ b hne).trans ((aZ _ _ _ b hne).trans (aZ _ _ _ b hne)))))))
theorem Ly{v w:World}{a:Option Addr}{d:List Nat}{q c:Nat}{vs:Array Value}(hd:(rB d).ok w (fun b=>Ty 5 w b) [.slice a q c])(hb:Below v.heap.size v w):
 Blk (w.alloc (.cells vs 45)) w.heap.size 45 vs∧(rB d).ok (w.alloc (.cells vs 45)) (fun b=>Ty 5 (w.alloc (.cells vs 45)) b) [.slice a q c]∧Below v.heap.size v (w.alloc (.cells vs 45)):=
 ⟨Blk.new w _ _,(rB _).keep hd (fun b hb hl=>by
   have h:=((az w.heap.size w).alloc (ah _) (.cells vs 45)).block b hl;exact⟨h,hb.keep h⟩),hb.alloc hb.size _⟩
theorem JA{v w:World}{G:Nat}{a:Option Addr}{d:List Nat}{q c:Nat}{z0 z1 z2 z3 z4 z5 z6 z7:Value}(hd:(rB d).ok w (fun b=>Ty 5 w b) [.slice a q c])(hb:Below v.heap.size v w)(hz:Blk w G 45 #[z0,z1,z2,z3,z4,z5,z6,z7])(hG:v.heap.size≤G)(a0 a1 a2 a3 a4 a5 a6 a7:Value):
 Blk ((((((((w.setCell ⟨G,0,none⟩ a0).setCell ⟨G,1,none⟩ a1).setCell ⟨G,2,none⟩ a2).setCell ⟨G,3,none⟩ a3).setCell ⟨G,4,none⟩ a4).setCell ⟨G,5,none⟩ a5).setCell ⟨G,6,none⟩ a6).setCell ⟨G,7,none⟩ a7) G 45 #[a0,a1,a2,a3,a4,a5,a6,a7]∧
 (rB d).ok ((((((((w.setCell ⟨G,0,none⟩ a0).setCell ⟨G,1,none⟩ a1).setCell ⟨G,2,none⟩ a2).setCell ⟨G,3,none⟩ a3).setCell ⟨G,4,none⟩ a4).setCell ⟨G,5,none⟩ a5).setCell ⟨G,6,none⟩ a6).setCell ⟨G,7,none⟩ a7) (fun b=>Ty 5 ((((((((w.setCell ⟨G,0,none⟩ a0).setCell ⟨G,1,none⟩ a1).setCell ⟨G,2,none⟩ a2).setCell ⟨G,3,none⟩ a3).setCell ⟨G,4,none⟩ a4).setCell ⟨G,5,none⟩ a5).setCell ⟨G,6,none⟩ a6).setCell ⟨G,7,none⟩ a7) b) [.slice a q c]∧
 Below v.heap.size v ((((((((w.setCell ⟨G,0,none⟩ a0).setCell ⟨G,1,none⟩ a1).setCell ⟨G,2,none⟩ a2).setCell ⟨G,3,none⟩ a3).setCell ⟨G,4,none⟩ a4).setCell ⟨G,5,none⟩ a5).setCell ⟨G,6,none⟩ a6).setCell ⟨G,7,none⟩ a7):=
 ⟨Ap hz _ _ _ _ _ _ _ _,(rB _).keep hd (fun b hb hl=>by
   have h:=xg w a0 a1 a2 a3 a4 a5 a6 a7 b fun e=>Ty.ne2 e hb (Blk.ty hz) (by decide);exact⟨h,hb.keep h⟩),uR hb hG _ _ _ _ _ _ _ _⟩
theorem Aq(K H Z ex t g p d0 d1 room:Nat)(nm:ByteArray)(R0 R1:List (List Nat))(l:List Nat)(a at_:Option Addr)(n c ct:Nat)(w:World)(h:Sto B w g p d0 d1 room (bH K H Z ex) R0 R1)(hk:ed K H Z=true)(hex:ex≤16)(ht:t<16)(hf:dP K H Z (t:Nat) (List.range K)=true)
 (hx:Rd w w.heap.size a n (ba l))(hb:By l)(hn:n≤1000)(hnc:n≤c∧c≤maxLen)(hone:iB (K*Z) n=1)(htr:(rI [t]).ok w (Fu w) [.slice at_ 1 ct]):
 Calls prog 168 #[.pointer (some ⟨g,0,none⟩),.agg (fQ ⟨nm,0,n,[t]⟩ (.slice at_ 1 ct)),.slice a n c] w fun e w'=>∃v,e=.returned (.tuple #[v,.bool true])∧(rS 2 ((fL K H Z t (fV K H Z (t:Nat) (gA (K*Z) l 0)) (K+ex)).map cJ)).ok w' (Fu w') [v]∧Below w.heap.size w w':=by
 have hl:l.length=n:=by have:=hx.len;rwa [bg] at this
 have hok:=of_decide_eq_true hk
 have S0:Hid (Sx w (w.alloc (.cells (fQ ⟨nm,0,n,[t]⟩ (.slice at_ 1 ct)) 190)) [bu w.heap.size 190 (fQ ⟨nm,0,n,[t]⟩ (.slice at_ 1 ct)),kJ B g p d0 d1 room (bH K H Z ex) R0 R1,jp a n (ba l),eR (Fu w) (.slice at_ 1 ct) (rI [t])]):=
  ae ((((((Sx.nil w).add (eR (Fu w) (.slice at_ 1 ct) (rI [t])) htr).add (jp a n (ba l)) hx).add (kJ B g p d0 d1 room (bH K H Z ex) R0 R1) h).alloc _).add (bu _ _ _) (Blk.new w _ _))
 have CL:=ae fun w (h:Sto B w g p d0 d1 room (bH K H Z ex) R0 R1)=>lH g p d0 d1 room (bH K H Z ex) R0 R1 w h (by show(2:Nat)≤64;omega) (by intro x hx;simp[bH] at hx;omega);have CS:=ae fun w (hx:Rd w w.heap.size a n (ba l))=>qY K H Z l a n c w hk hx hn hnc.1 hnc.2;have cd:=fun w=>mr 0 0 t w (by omega) (by omega) (by omega);rw[show 128*0+16*0+t=t by omega] at cd;have CD:=ae cd;clear cd;have hq1:K*Z≤16*24:=Nat.mul_le_mul (by omega) (by omega);have hx0:(gA (K*Z) l 0).length=K*Z:=by unfold gA;rw[aJ,aN,aI];omega
 have hxb:By (gA (K*Z) l 0):=by
  intro y hy;unfold gA at hy;rcases List.mem_append.1 hy with h | h
  ·exact hb y (List.mem_of_mem_drop (List.mem_of_mem_take h))
  ·rw[List.eq_of_mem_replicate h];omega
 have hsp:iH (K*Z) l=[gA (K*Z) l 0]:=by unfold iH;rw[hl,hone];rfl
 rw[hsp] at CS;have HEN:=ae (ma hk hxb hx0 hf).2.1;generalize gA (K*Z) l 0=x at*;have CE:=ae fun a c w (hr:Rd w w.heap.size a (K*Z) (ba x)) (h1:K*Z≤c) (h2:c≤maxLen)=>tq K H Z (t:Nat) x a (K*Z) c w hk (by omega) (by omega) hr hxb rfl h1 h2 hf;have CO:=ae fun a c w F (h:(rI [0,1]).ok w F [.slice a 2 c])=>ER F a c w h;have HK:=ae hk;have HX0:=ae hx0;unfold fQ at*;clear h hk hx hb htr hsp hl hx0 hxb hf hnc hone;go_enter func168,ntmps168;go_wp2_with fail;generalize w.alloc (.cells #[.string nm,.int .i64 ((0:Nat):Int),.int .i64 n,.slice at_ 1 ct] 190)=w0 at*;refine(CL.out w0 (S0.out.sto 1 rfl)).mono ?_;rintro e w1 ⟨v1,rfl,ho1,hb1⟩;obtain⟨a1,c1,rfl⟩:=ho1.lenA;have S1:=ae ((S0.out.step hb1).add (eR Any (.slice a1 2 c1) (rI [0,1])) (Rp.any _ (gI ho1)));clear ho1 hb1 S0 CL;obtain⟨-,vd,vo,hst,-⟩:=S1.out.sto 2 rfl;obtain⟨k0,k1,k2,k3,k4,k5,k6,k7,-⟩:=bP hst;clear hst k0 k1 k5 k6 k7;unfold bL at CS CE;unfold bH at k2 k3 k4;simp only at k2 k3 k4;go_wp2_with fail;refine(CS.out w1 (S1.out.rd 3 rfl)).mono ?_;rintro e w2 ⟨v2,rfl,hr2,hb2⟩;obtain⟨a2,c2,rfl,-⟩:=dS hr2 (n:=1) rfl;have S2:=ae ((S1.out.step hb2).add (eR (Fr w1.heap.size) (.slice a2 1 c2) (rM [x])) hr2);clear hr2 hb2 S1 CS k2 k3 k4;have HB0:=ae (az w2.heap.size w2);go_wp2_with fail;go_loopw [9,28] (fun v i wr=>(i=.int .i64 0∧v=.slice none 0 0∧Hid (wr=w2))∨(i=.int .i64 1∧Hid ((rS 2 ((fL K H Z t (fV K H Z (t:Nat) x) (K+ex)).map cJ)).ok wr (Fu wr) [v])∧Hid (Below w2.heap.size w2 wr))) (fun _ i _=>1-(intOf i).toNat)
 case atStart=>exact .inl ⟨rfl,rfl,ae rfl⟩
 case round=>
  rcases hrel with⟨rfl,rfl,HW⟩ | ⟨rfl,HR,HB⟩
  ·obtain rfl:=HW.out
   obtain⟨a2',c2',e,hrd2,-⟩:=dS (S2.out.rep 0 rfl) (n:=1) rfl;injection e with e1 e2 e3;subst e1 e3;obtain⟨bx,ox,ax,cx,rfl,hbx,hcx,hrx,hnx,hx1,hx2⟩:=hrd2.at (i:=0) (by omega);rw[Nat.add_zero] at hcx;have hrx':Rd wr wr.heap.size ax (K*Z) (ba x):=(by have h:=hrx;rw[show([x].getD 0 [])=x from rfl,HX0.out] at h;exact h);have hcx':wr.cell? ⟨bx,ox,none⟩=some (.slice ax (K*Z) cx):=(by have h:=hcx;rw[show([x].getD 0 [])=x from rfl,HX0.out] at h;exact h);have hx1':K*Z≤cx:=(by have h:=hx1;rw[show([x].getD 0 [])=x from rfl,HX0.out] at h;exact h);have S3:=ae (S2.out.add (jp ax (K*Z) (ba x)) hrx');obtain⟨kz,hkz⟩:∃kz,kz=K*Z:=⟨_,rfl⟩;rw[←hkz] at CE S3 hcx' hx1';have HHX:=ae hx1';clear hrx hrx' hcx hx1 hrd2 HB0 hkz hx1';obtain⟨at1,ct1,et1,hrt1,-⟩:=dB (S3.out.rep 6 rfl) (n:=1) rfl;injection et1 with et1 _ et3;subst et1 et3;obtain⟨bt,ot,rfl,hbt,hct⟩:=hrt1.2 (by omega);have ct0:wr.cell? ⟨bt,ot,none⟩=some (.int .i64 t):=hct 0 _ rfl;clear hrt1 hct;go_upto_region 6 with fail;clear hcx';refine bE (by kernel_rfl) (by kernel_rfl) ?_
   iterate 10 (
    with_reducible refine wpQuiet_step (fun Kq hKq=> ?_)
    go_simp
    first
    | refine hKq _ ?_
    | refine⟨_,fun _ _=>rfl,hKq _ ?_⟩
    | (apply Exists.intro
       refine⟨fun w' hw'=> ?_,hKq _ ?_⟩
       ·obtain⟨e0',e1',e2',e3'⟩:=fB ((S3.out.step hw').blk 3 rfl)
        have ct0':w'.cell? ⟨bt,ot,none⟩=some (.int .i64 t):=(hw'.cell (p:=⟨bt,ot,none⟩) hbt).trans ct0
        first
        | (go_simp
           first | exact rfl | exact⟨rfl,rfl⟩)
        | (go_at_call 178
           refine(CD.out w').mono ?_;rintro r w5 ⟨rfl,rfl⟩;exact⟨rfl,hw'⟩))
    clear hKq Kq)
   with_reducible refine wpQuiet_nil ?_
   intro w3 hw3;have S4:=ae (S3.out.step hw3);have HB4:=ae hw3;clear hw3 S3 S2 ct0 hbt;have CE1:=ae (CE.out ax cx w3 (S4.out.rd 0 rfl) HHX.out hx2);obtain⟨-,vd',vo',hst,-⟩:=S4.out.sto 4 rfl;obtain⟨k0,k1,k2,k3,k4,k5,k6,k7,-⟩:=bP hst;unfold bH at k2 k3 k4;simp only at k2 k3 k4;obtain⟨e0,e1,e2',e3⟩:=fB (S4.out.blk 3 rfl);clear hst k0 k1 k5 k6 k7 CE;go_wp2_with fail;refine CE1.out.mono ?_;rintro e w4 ⟨gb,vb,rfl,hgb,hbk,hrm,hb4⟩;obtain⟨ab,cb,rfl,-⟩:=dS hrm HEN.out.len;have S5:=ae (((S4.out.step hb4).add (eR (Fr w3.heap.size) (.slice ab (K+H) cb) (rM (fV K H Z (t:Nat) x))) hrm).add (bu gb _ _) hbk);have HB5:=ae (HB4.out.trans (hb4.mono HB4.out.size));have CO1:=ae (CO.out a1 c1 w4 Any (S5.out.rep 4 rfl));clear hgb hbk hrm hb4 CE1 S4 HB4 k2 k3 k4 e0 e1 e2' e3;obtain⟨e0,e1,e2',e3⟩:=fB (S5.out.blk 5 rfl);go_wp2_with fail;refine CO1.out.mono ?_;rintro e w5 ⟨v5,rfl,ho5,hb5⟩;obtain⟨a5,c5,rfl⟩:=ho5.lenA;have S6:=ae ((S5.out.step hb5).add (eR Any (.slice a5 2 c5) (rI [0,1])) (Rp.any _ (gI ho5)));have HB6:=ae (HB5.out.trans (hb5.mono HB5.out.size));clear ho5 hb5 CO1 CO S5 HB5 e0 e1 e2' e3;obtain⟨N,hN⟩:∃N,N=K+ex:=⟨_,rfl⟩;have hNw:IntKind.i64.wrap ((K:Int)+(ex:Int))=(N:Int):=(by rw[IntKind.wrap_i64];omega);have hN32:N≤32:=(by omega);have HNN:=ae hN;clear hN;go_upto_region 11 with fail;refine bE (by kernel_rfl) (by kernel_rfl) ?_
   iterate 13 (
    with_reducible refine wpQuiet_step (fun Kq hKq=> ?_)
    go_simp
    first
    | refine hKq _ ?_
    | refine⟨_,fun _ _=>rfl,hKq _ ?_⟩
    | (apply Exists.intro
       refine⟨fun w' hw'=> ?_,hKq _ ?_⟩
       ·obtain⟨-,vd3,vo3,hst3,-⟩:=(S6.out.step hw').sto 7 rfl
        obtain⟨k0',k1',k2',k3',k4',k5',k6',k7',-⟩:=bP hst3;unfold bH at k2' k3' k4' k5';simp only at k2' k3' k4' k5'
        first
        | (go_simp
           first | exact rfl | exact⟨rfl,rfl⟩))
    clear hKq Kq)
   with_reducible refine wpQuiet_nil ?_
   intro w6 hw6;have S7:=ae (S6.out.step hw6);have HB7:=ae (HB6.out.trans (hw6.mono HB6.out.size));clear hw6 S6 HB6 hNw;have HF0:Hid (∀b,False→Ty 5 w6 b):=ae fun b hb=>hb.elim;have HO0:Hid (OwnS w6 w6.heap.size 238 2 (fun _=>False) (.slice none 0 0) ((fL K H Z t (fV K H Z (t:Nat) x) 0).map cJ)):=ae (OwnS.nil _ _ _ _ _);have HJ0:=ae (az w6.heap.size w6);go_wp2_with fail;go_loopw [9,72] (fun v i wr=>∃k:Nat,k≤N∧i=.int .i64 k∧∃F:Nat→Prop,Hid (∀b,F b→Ty 5 wr b)∧Hid (OwnS wr w6.heap.size 238 2 F v ((fL K H Z t (fV K H Z (t:Nat) x) k).map cJ))∧Hid (Below w6.heap.size w6 wr)) (fun _ i _=>N-(intOf i).toNat)
   case atStart=>exact⟨0,by omega,rfl,_,HF0,HO0,HJ0⟩
   case round=>
    clear HF0 HO0 HJ0;obtain⟨k,hkN,rfl,F,HF,HO,HJ⟩:=hrel;obtain⟨bv,nv,cv,rfl⟩:=HO.out.sl;have S8:=ae (S7.out.step HJ.out);by_cases hlt:k<N
    ·have hltI:(k:Int)<(N:Int):=by omega
     have CY:=ae fun w (hB:Blk w gb 78 #[.int .i64 K,.int .i64 H,.int .i64 Z,.int .u32 (t:Nat),.slice ab (K+H) cb]) (hR:(rM (fV K H Z (t:Nat) x)).ok w (Fr w3.heap.size) [.slice ab (K+H) cb])=>o9 K H Z (t:Nat) (fV K H Z (t:Nat) x) gb k ab (K+H) cb (Fr w3.heap.size) w HK.out (by omega) (by omega) HEN.out (by omega) hB hR;have CY1:=ae (CY.out _ ((S8.out.blk 1 rfl).drew) ((rM _).new (S8.out.rep 2 rfl) ((az _ _).drew)));have HSL:=ae (fF HK.out HEN.out k);have HSB:=ae (pz HK.out HEN.out k);obtain⟨-,vd3,vo3,hst3,-⟩:=S8.out.sto 7 rfl;obtain⟨k0,k1,k2,k3,k4,k5,k6,k7,-⟩:=bP hst3;unfold bH at k2 k3 k4;simp only at k2 k3 k4;obtain⟨e0,e1,e2',e3⟩:=fB (S8.out.blk 6 rfl);clear hst3 k0 k1 k5 k6 k7 e0 e2' e3;go_upto_region 14 with fail;have hsz8:w6.heap.size≤wr.heap.size:=HJ.out.size;go_cut [17] (fun v wx=>∃G9 a8 c8,v=.pointer (some ⟨G9,0,none⟩)∧Hid (Blk wx G9 45 #[.int .i64 0,.int .i64 0,.int .i64 k,.int .i64 K,.int .i64 H,.int .i64 Z,.int .u32 (t:Nat),.slice a8 Z c8])∧Hid ((rB (dn K H Z (t:Nat) (fV K H Z (t:Nat) x) k)).ok wx (fun b=>Ty 5 wx b) [.slice a8 Z c8])∧Hid (Below wr.heap.size wr wx))
     case first=>
      have hbz:=((az wr.heap.size wr).alloc (ah _) (.cells #[.int .i64 0,.int .i64 0,.int .i64 0,.int .i64 0,.int .i64 0,.int .i64 0,.int .u32 0,.slice none 0 0] 45)).drew;have SZ:=ae (S8.out.step hbz);have CY2:=ae (CY.out _ (SZ.out.blk 1 rfl) (SZ.out.rep 2 rfl));have HZ0:=ae (Blk.drew (Blk.new wr 45 #[.int .i64 0,.int .i64 0,.int .i64 0,.int .i64 0,.int .i64 0,.int .i64 0,.int .u32 0,.slice none 0 0]));have HBZ:=ae hbz;obtain⟨-,vd5,vo5,hst5,-⟩:=SZ.out.sto 7 rfl;obtain⟨z0,z1,z2,z3,z4,z5,z6,z7,-⟩:=bP hst5;unfold bH at z2 z3 z4;simp only at z2 z3 z4;have ez:((wr.alloc (.cells #[.int .i64 0,.int .i64 0,.int .i64 0,.int .i64 0,.int .i64 0,.int .i64 0,.int .u32 0,.slice none 0 0] 45)).drew).cell? ⟨w.heap.size,1,none⟩=some (.int .i64 ((0:Nat):Int)):=(SZ.out.blk 6 rfl).cell 1;clear hst5 z0 z1 z5 z6 z7 hbz CY
      go_region_law (first
       | (go_simp
          go_at_call 30;refine CY1.out.mono ?_;rintro r w8 ⟨v8,rfl,ho8,hb8⟩;replace hb8:=bA hb8;have hba8:=(az w8.heap.size w8).alloc (ah _) (.cells #[.int .i64 0,.int .i64 0,.int .i64 0,.int .i64 0,.int .i64 0,.int .i64 0,.int .u32 0,.slice none 0 0] 45);have SA:=ae ((S8.out.step hb8).step hba8);obtain⟨-,vd6,vo6,hst6,-⟩:=SA.out.sto 7 rfl;obtain⟨j0',j1',j2',j3',j4',j5',j6',j7',-⟩:=bP hst6;unfold bH at j2' j3' j4';simp only at j2' j3' j4';have ea':(w8.alloc (.cells #[.int .i64 0,.int .i64 0,.int .i64 0,.int .i64 0,.int .i64 0,.int .i64 0,.int .u32 0,.slice none 0 0] 45)).cell? ⟨w.heap.size,1,none⟩=some (.int .i64 ((0:Nat):Int)):=(SA.out.blk 6 rfl).cell 1;clear hba8 SA hst6 j0' j1' j5' j6' j7';have hty8:=(rB _).more (uJ ho8) (fun b hb _=>hb.1);obtain⟨a8,c8,rfl,hrd8,hnil8⟩:=ho8.rd2 HSL.out;have HTY8:Hid ((rB (dn K H Z (t:Nat) (fV K H Z (t:Nat) x) k)).ok w8 (fun b=>Ty 5 w8 b) [.slice a8 Z c8]):=ae hty8;have S9:=ae (S8.out.step hb8);obtain⟨-,vd4,vo4,hst4,-⟩:=S9.out.sto 7 rfl;obtain⟨k0',k1',k2',k3',k4',k5',k6',k7',-⟩:=bP hst4;unfold bH at k2' k3' k4';simp only at k2' k3' k4';have e1':w8.cell? ⟨w.heap.size,1,none⟩=some (.int .i64 ((0:Nat):Int)):=(S9.out.blk 6 rfl).cell 1;have HB8:=ae hb8;clear ho8 hb8 hst4 k0' k1' k5' k6' k7' hrd8 hnil8 hty8;go_simp)
       | (go_simp
          go_at_call 30;refine CY2.out.mono ?_;rintro r w8 ⟨v8,rfl,ho8,hb8⟩;have HZ8:=ae (HZ0.out.below hb8 HZ0.out.lt);have hb8:=HBZ.out.trans (hb8.mono HBZ.out.size);have f0:=HZ8.out.frozen 0;have f1:=HZ8.out.frozen 1;have f2:=HZ8.out.frozen 2;have f3:=HZ8.out.frozen 3;have f4:=HZ8.out.frozen 4;have f5:=HZ8.out.frozen 5;have f6:=HZ8.out.frozen 6;have f7:=HZ8.out.frozen 7;obtain⟨y0,y1,y2,y3,y4,y5,y6,y7⟩:=dc HZ8.out;have hty8:=(rB _).more (uJ ho8) (fun b hb _=>hb.1);obtain⟨a8,c8,rfl,hrd8,hnil8⟩:=ho8.rd2 HSL.out;have HTY8:Hid ((rB (dn K H Z (t:Nat) (fV K H Z (t:Nat) x) k)).ok w8 (fun b=>Ty 5 w8 b) [.slice a8 Z c8]):=ae hty8;have S9:=ae (S8.out.step hb8);obtain⟨-,vd4,vo4,hst4,-⟩:=S9.out.sto 7 rfl;obtain⟨k0',k1',k2',k3',k4',k5',k6',k7',-⟩:=bP hst4;unfold bH at k2' k3' k4';simp only at k2' k3' k4';have e1':w8.cell? ⟨w.heap.size,1,none⟩=some (.int .i64 ((0:Nat):Int)):=(S9.out.blk 6 rfl).cell 1;have HB8:=ae hb8;clear ho8 hb8 hst4 k0' k1' k5' k6' k7' hrd8 hnil8 hty8;go_simp))
      all_goals(
       go_simp;refine ‹∀(a':Act) (w':World),Met _ a' w'→_› _ _ ?_;go_meet
       first
       | (have HZ9:=HZ8
          have hz:=JA HTY8.out HB8.out HZ9.out (ah _) (.int .i64 0) (.int .i64 0) (.int .i64 k) (.int .i64 K) (.int .i64 H) (.int .i64 Z) (.int .u32 (t:Nat)) (.slice a8 Z c8);exact⟨wr.heap.size,a8,c8,rfl,ae hz.1,ae hz.2.1,ae hz.2.2⟩)
       | (have hz:=Ly (vs:=#[.int .i64 0,.int .i64 0,.int .i64 k,.int .i64 K,.int .i64 H,.int .i64 Z,.int .u32 (t:Nat),.slice a8 Z c8]) HTY8.out HB8.out
          exact⟨w8.heap.size,a8,c8,rfl,ae hz.1,ae hz.2.1,ae hz.2.2⟩))
     case rest=>
      obtain⟨G9,a8,c8,rfl,HG9,HD9,HW9⟩:=hcut;clear CY CY1 k2 k3 k4 e1;obtain⟨a8',c8',e8,hrd8,hnil8,-⟩:=gB HD9.out HSL.out;injection e8 with e81 _ e83;subst e81 e83;have S10:=ae (S8.out.step HW9.out);have HO9:=ae (HO.out.new HW9.out);have HF9:Hid (∀b,F b→Ty 5 wc b):=ae fun b hb=>(HF.out b hb).keep (HW9.out.block b (HF.out b hb).lt);have HJ9:=ae (HJ.out.trans (HW9.out.mono hsz8));have CQ:=ae (nY 0 0 k K H Z t (dn K H Z (t:Nat) (fV K H Z (t:Nat) x) k) a8 c8 wc.drew (by omega) (by omega) (by omega) HK.out (by omega) hrd8 HSB.out hnil8);unfold nW at CQ;have HT:Hid ((fL K H Z t (fV K H Z (t:Nat) x) (k+1)).map cJ=(fL K H Z t (fV K H Z (t:Nat) x) k).map cJ++[cJ (([0,1]:List Nat).getD (k%2) 0,cellL 1 (gS 0 0 k K H Z t (dn K H Z (t:Nat) (fV K H Z (t:Nat) x) k)))]):=ae (by unfold fL;rw[List.range_succ,aW,aW];rfl);have hml:((fL K H Z t (fV K H Z (t:Nat) x) k).map cJ).length≤1000000:=(by unfold fL;rw[aG,aG,List.length_range];omega);have HCL:Hid ((cellL 1 (gS 0 0 k K H Z t (dn K H Z (t:Nat) (fV K H Z (t:Nat) x) k))).length=64):=ae (gT (by rw[jP,HSL.out];omega));obtain⟨b0,b1,b2,b3,b4,b5,b6,b7⟩:=dc HG9.out;have COF:=ae fun w (hx:(rI [0,1]).ok w Any [.slice a5 2 c5])=>MK [0,1] Any a5 2 c5 k w hx rfl (by decide);have CO0:=ae (COF.out wc.drew ((rI _).new (S10.out.rep 0 rfl) (az _ _).drew));have HR10:=ae (S10.out.rep 0 rfl);have hw69:w6.heap.size≤wc.heap.size:=HJ9.out.size;generalize cellL 1 (gS 0 0 k K H Z t (dn K H Z (t:Nat) (fV K H Z (t:Nat) x) k))=row at*;generalize ([0,1]:List Nat).getD (k%2) 0=slt at*;clear HG9 HD9 HW9 HSL HSB hrd8 hnil8 HO HF HJ S8 S7 S10 hsz8 HB7;generalize hLL:(fL K H Z t (fV K H Z (t:Nat) x) k).map cJ=LL at*;clear hLL;go_wp2_with fail
      go_region_law (first
       | (change (if _=true then Oper.wp _ (Oper.mk (some 97) _ _ _ _ _) _ _ _ _ else _)
          refine qq (w:=w7) (C:=w6.heap.size) (F:=fun b=>F b∨b=g7) (v:=.slice bv nv cv) (L:=LL) (R:=cJ (slt,row)) rfl _ _ rfl underlying162 tE rfl (by decide) (by decide) HO7.out hw67 hml HR7.out rfl rfl rfl ?_;intro v8 w8 hO8 hb8 hs8 hk8 hv8;obtain⟨a8',n8',k8',rfl⟩:=hO8.sl;rw[←HT.out] at hO8;have HO8:=ae hO8;have HF8:Hid (∀b,(F b∨b=g7)→Ty 5 w8 b):=ae fun b hb=>(HF7.out b hb).keep (hk8 b (HF7.out b hb).lt fun e=>(HF7.out b hb).ne (HO7.out.ownTy b e.symm) (by decide));have HJ8:=ae (HJ7.out.trans hb8);clear hO8 hb8 hs8 hk8 hv8)
       | (go_simp
          go_at_call 12;refine CQ.out.mono ?_;rintro e w7 ⟨g7,rfl,hg7,hk7,hb7⟩;replace hb7:=bA hb7;have hw67:w6.heap.size≤w7.heap.size:=aQ hw69 hb7.size;have CO1:=ae (COF.out w7 ((rI _).new HR10.out hb7));have HJ7:=ae (HJ9.out.trans (hb7.mono hw69));have HO7:Hid (OwnS w7 w6.heap.size 238 2 (fun b=>F b∨b=g7) (.slice bv nv cv) LL):=ae ((HO9.out.new hb7).base (ah _) fun b hb=>.inl hb);have HF7:Hid (∀b,(F b∨b=g7)→Ty 5 w7 b):=ae fun b hb=>hb.elim (fun h=>(HF9.out b h).keep (hb7.block b (HF9.out b h).lt)) fun e=>e▸Blk.ty hk7
          have HR7:Hid ((cJ (slt,row)).ok w7 (fun b=>(F b∨b=g7)∧some b≠(Value.slice bv nv cv).ownBlock) [.int .i64 slt,.slice (some ⟨g7,0,none⟩) 64 64]):=ae (nJ (x:=[.int .i64 slt]) (pQ rfl) (by
           have h:=jJ (F:=fun b=>(F b∨b=g7)∧some b≠(Value.slice bv nv cv).ownBlock) hk7 ⟨.inr rfl,fun e=>by have h1:=(HO9.out.lt g7 e.symm).2;have h2:wc.heap.size≤g7:=hg7;omega⟩ (by rw[HCL.out];unfold maxLen;omega);rw[HCL.out] at h;exact h))
          clear hg7 hk7 hb7;go_simp)
       | (go_simp
          go_at_call 236;refine CO0.out.mono ?_;rintro e w9 ⟨rfl,rfl⟩;go_simp)
       | (go_simp
          go_at_call 236;refine CO1.out.mono ?_;rintro e w9 ⟨rfl,rfl⟩;go_simp))
      all_goals(
       go_simp;go_wp2_with fail;go_roundw
       case rel=>(try((repeat apply Exists.intro);refine⟨?_,rfl⟩));exact⟨k+1,by omega,by go_num,_,HF8,HO8,HJ8⟩
       case measure=>simp[intOf];omega)
    ·obtain rfl:k=N:=by omega
     go_wp2_with fail;go_roundw;have hR:(rS 2 ((fL K H Z t (fV K H Z (t:Nat) x) k).map cJ)).ok wr (Fu wr) [.slice bv nv cv]:=(HO.out.base (ah _) fun b hb=>Mt.not (HF.out b hb) (by decide) (by decide) (by decide)).repU (by decide)
     case rel=>exact .inr ⟨by go_num,ae (by rw[←HNN.out];exact hR),ae (HB7.out.trans (HJ.out.mono HB7.out.size))⟩
     case measure=>simp[intOf]
  ·obtain⟨av,nv,cv,hv⟩:=nK HR.out
   subst hv;go_wp2_with fail;go_ret2;exact⟨_,rfl,HR.out,(S2.out.step HB.out).1⟩
end
end Go.Proofs.YtofgapdnadbgkaaGreatDoor
