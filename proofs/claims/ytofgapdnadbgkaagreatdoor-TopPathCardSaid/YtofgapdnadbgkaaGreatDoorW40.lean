import Derived.Test.YtofgapdnadbgkaaGreatDoorW39
set_option linter.unusedVariables false
set_option maxRecDepth 100000
set_option maxHeartbeats 400000000
namespace Go.Proofs.YtofgapdnadbgkaaGreatDoor
open Go.RowKit _root_.Go.Proofs.Tryz
section
variable {B:Nat}
def nE(m:dC)(R:List (List Nat)):Prop:=(∀r∈R,r.length=64∧By r)∧R.length≤1000∧bY m∈R
theorem BN(x g p d0 d1 room gs:Nat)(m:dC)(R0 R1:List (List Nat))(w:World)(h:Sto B w g p d0 d1 room m R0 R1)(hs:Blk w gs 96 #[.pointer (some ⟨g,0,none⟩)])(hx:x≤1)(hone:m.objs.length≤1)(hm:lm m)(hp:sK m)(h0:nE m R0)(h1:nE m R1):
 Calls prog 243 (#[.int .i64 x]++#[.pointer (some ⟨gs,0,none⟩)]) w fun e w'=>e=.returned (.bool true)∧Below w.heap.size w w':=by
 show Calls prog 243 #[.int .i64 x,.pointer (some ⟨gs,0,none⟩)] w _;have S0:Hid (Sx w w [bu gs 96 #[.pointer (some ⟨g,0,none⟩)],kJ B g p d0 d1 room m R0 R1]):=ae (((Sx.nil w).add (kJ B g p d0 d1 room m R0 R1) h).add (bu gs _ _) hs);obtain⟨-,vd,vo,hst,hd,ho⟩:=id h;obtain⟨a1,c1,rfl,-⟩:=dB hd rfl;obtain⟨a2,n2,c2,rfl⟩:=nK ho
 have hol:m.objs.length=n2:=by
  obtain⟨a',n',c',e',_,_,_,h4,_⟩:=ho;injection e' with e' _;injection e' with _ e2 _;rw[aG] at h4;omega
 have HST:=ae hst;have CF:=ae fun (R:List (List Nat)) (o:Option Nat) (dg:Nat) (W:World) (hW:Below w.heap.size w W) (h:DrR W dg p room R o) (hR:nE m R)=>FY m hone a1 a2 m.drives.length c1 n2 c2 dg p room (Fu w) R o W h ((rI _).new hd hW) rfl ((rS 4 _).new ho hW) hol hm _ rfl hp.1 hp.2.1 hp.2.2 hR.1 hR.2.1 hR.2.2 (hR.1 _ hR.2.2).2 (hR.1 _ hR.2.2).1
 have CG:Hid (∀W,Below w.heap.size w W→Calls prog 244 #[.pointer (some ⟨rT d0 d1 x,0,none⟩),.agg #[.int .i64 m.seq,.int .i64 m.next,.int .i64 m.K,.int .i64 m.H,.int .i64 m.Z,.int .i64 m.extra,.slice a1 m.drives.length c1,.slice a2 n2 c2]] W fun e w'=>e=.returned (.bool true)∧Below W.heap.size W w'):=ae fun W hW=>by
  obtain⟨-,⟨o0,o1,k0,k1,-⟩,-,-⟩:=((S0.out.step hW).sto 1 rfl).drs;have hx2:x=0∨x=1:=(by omega);rcases hx2 with rfl | rfl
  ·exact CF.out R0 o0 d0 W hW k0 h0
  ·exact CF.out R1 o1 d1 W hW k1 h1
 clear h hs hone hm hp h0 h1 hd ho hst hol CF;go_enter func243,ntmps243;have hx2:x=0∨x=1:=by omega
 rcases hx2 with rfl | rfl;have CG0:=CG;clear CG;have CG:Hid (∀W,Below w.heap.size w W→Calls prog 244 #[.pointer (some ⟨d0,0,none⟩),.agg #[.int .i64 m.seq,.int .i64 m.next,.int .i64 m.K,.int .i64 m.H,.int .i64 m.Z,.int .i64 m.extra,.slice a1 m.drives.length c1,.slice a2 n2 c2]] W fun e w'=>e=.returned (.bool true)∧Below W.heap.size W w'):=CG0
 rotate_left
 have CG0:=CG;clear CG;have CG:Hid (∀W,Below w.heap.size w W→Calls prog 244 #[.pointer (some ⟨d1,0,none⟩),.agg #[.int .i64 m.seq,.int .i64 m.next,.int .i64 m.K,.int .i64 m.H,.int .i64 m.Z,.int .i64 m.extra,.slice a1 m.drives.length c1,.slice a2 n2 c2]] W fun e w'=>e=.returned (.bool true)∧Below W.heap.size W w'):=CG0
 all_goals(
  go_upto_region 1 with fail;refine bE (by kernel_rfl) (by kernel_rfl) ?_
  iterate 12 (
   with_reducible refine wpQuiet_step (fun Kq hKq=> ?_)
   go_simp
   first
   | refine hKq _ ?_
   | refine⟨_,fun _ _=>rfl,hKq _ ?_⟩
   | (apply Exists.intro
      refine⟨fun w' hw'=> ?_,hKq _ ?_⟩
      ·have s0':=((S0.out.step hw').blk 0 rfl).cell 0
       obtain⟨k0',k1',k2',k3',k4',k5',k6',k7',-,-,k10',k11'⟩:=bP (Blk.below HST.out hw' (Blk.lt HST.out))
       first
       | (go_simp
          first | exact rfl | exact⟨rfl,rfl⟩)
       | (go_at_call 244
          refine(CG.out w' hw').mono ?_;rintro r w5 ⟨rfl,hb5⟩;exact⟨rfl,hw'.trans (hb5.mono hw'.size)⟩))
   clear hKq Kq)
  with_reducible refine wpQuiet_nil ?_
  intro w3 hw3;have HB:=ae hw3;clear hw3;go_wp2_with fail;go_ret;exact⟨rfl,HB.out⟩)
theorem FN(g p d0 d1 room:Nat)(m:dC)(R0 R1:List (List Nat))(w:World)(h:Sto B w g p d0 d1 room m R0 R1)(hone:m.objs.length≤1)(hm:lm m)(hp:sK m)(h0:nE m R0)(h1:nE m R1)(hd:m.drives=[0,1]):
 Calls prog 176 #[.pointer (some ⟨g,0,none⟩)] w fun e w'=>e=.returned (.bool true)∧Below w.heap.size w w':=by
 have hba:=(az w.heap.size w).alloc (ah _) (.cells #[.pointer (some ⟨g,0,none⟩)] 96);have HX:=ae (Blk.new w 96 #[.pointer (some ⟨g,0,none⟩)]);have HS:=ae (h.below hba);have HB:=ae hba;have CL:=ae fun w (h:Sto B w g p d0 d1 room m R0 R1)=>lH g p d0 d1 room m R0 R1 w h (by rw[hd];decide) (by rw[hd];intro x hx;simp at hx;omega);rw[hd] at CL
 have CA:=ae fun (W:World) (a:Option Addr) (c:Nat) (hx:Rd W W.heap.size a 2 (bf [0,1])) (h:Sto B W g p d0 d1 room m R0 R1) (hs:Blk W w.heap.size 96 #[.pointer (some ⟨g,0,none⟩)])=>xC (fun _=>true) 243 #[.pointer (some ⟨w.heap.size,0,none⟩)] [0,1] W.heap.size a 2 c W hx (ah _) (by omega) (enters_of func243 (by kernel_rfl) rfl) (fun x hx V hV=>
  BN x g p d0 d1 room w.heap.size m R0 R1 V (h.below hV) (hs.below hV hs.lt) (by simp at hx;omega) hone hm hp h0 h1)
 clear h hone hm hp h0 h1 hba;go_enter func176,ntmps176;go_upto_region 1 with fail;generalize w.alloc (.cells #[.pointer (some ⟨g,0,none⟩)] 96)=w0 at*;have x0:=HX.out.cell 0;go_wp2_with fail;refine(CL.out w0 HS.out).mono ?_;rintro e w1 ⟨v1,rfl,ho1,hb1⟩;obtain⟨a1,c1,hv1,hrd1,-⟩:=dB (gI ho1) (n:=2) rfl;subst hv1;have CB:=ae (CA.out w1 a1 c1 hrd1 (HS.out.below hb1) (HX.out.below hb1 HX.out.lt));have HB1:=ae (HB.out.trans (hb1.mono HB.out.size));rw[show(([0,1]:List Nat).any fun _=>true)=true from rfl] at CB;clear ho1 hb1 hrd1 CA CL HS HX x0;go_wp2_with fail;refine CB.out.mono ?_;rintro e w2 ⟨rfl,hb2⟩;have HB2:=ae (HB1.out.trans (hb2.mono HB1.out.size));clear hb2 CB;go_wp2_with fail;go_ret;exact⟨rfl,HB2.out⟩
end
end Go.Proofs.YtofgapdnadbgkaaGreatDoor
