import Derived.Test.YtofgapdnadbgkaaGreatDoorW32
import Derived.Test.YtofgapdnadbgkaaGreatDoorW41
import Derived.Test.YtofgapdnadbgkaaGreatDoorW46
import Derived.Lib.SlBytesConst
import Derived.JoinedOf
import Derived.KernelRfl
set_option linter.unusedVariables false
set_option maxRecDepth 100000
set_option maxHeartbeats 400000000
namespace Go.Proofs.YtofgapdnadbgkaaGreatDoor
open Go.RowKit _root_.Go.Proofs.Tryz
def nmW:ByteArray:= { data:=#[97] }
def eW:dM:=⟨nmW,0,3,[0]⟩
def AY:dC:=dY 1 1 4 2 eW
def MO:List Nat:=gA (1*4) [97,98,99] 0
def vM:List (List Nat):=fV 1 1 4 ((0:Nat):Int) MO
def xM(id:Nat):List Nat:=dn 1 1 4 ((0:Nat):Int) vM id
def BA(id:Nat):List Nat:=cellL 1 (gS 0 0 id 1 1 4 0 (xM id))
def DR:List (Option (Nat×List Nat)×List Nat):=[(none,bY (bH 1 1 4 2)),(some (0,xM 0),BA 0),(some (2,xM 2),BA 2),(none,bY AY)]
def DT:List (Option (Nat×List Nat)×List Nat):=[(none,bY (bH 1 1 4 2)),(some (1,xM 1),BA 1),(none,bY AY)]
theorem xN:ed ((1:Nat):Int) ((1:Nat):Int) ((4:Nat):Int)=true:=by decide
theorem rQ:MO=[97,98,99,0]:=by kernel_rfl
theorem DU:By MO:=by rw[rQ];show ∀x∈([97,98,99,0]:List Nat),x<256;decide
theorem xO:MidOK 1 1 4 ((0:Nat):Int) vM:=(ma xN DU (by rw[rQ];rfl) xy).2.1
theorem catW:kw 1 1 4 ((0:Nat):Int) vM 1=[97,98,99,0]:=(Al xN DU (by rw[rQ];rfl) xy).trans rQ
theorem DV:fL 1 1 4 0 vM 3=[(0,BA 0),(1,BA 1),(0,BA 2)]:=rfl
theorem MP:jh (cN AY [0,1]) (jh (fL 1 1 4 0 vM 3) [bY (bH 1 1 4 2)])=bU DR:=by rw[DV];rfl
theorem MQ:all1 (cN AY [0,1]) (all1 (fL 1 1 4 0 vM 3) [bY (bH 1 1 4 2)])=bU DT:=by rw[DV];rfl
theorem okNW:uT nmW:=⟨by decide,by decide,fun i hi=>by
 have h0:i=0:=by have:i<1:=hi;omega
 subst h0;decide⟩
theorem MR:iB (1*4) 3=1:=by decide
theorem okMW:lm AY:=by
 refine⟨⟨by decide,by decide⟩,by decide,xN,by decide,⟨by decide,by decide⟩,by decide,fun e he=> ?_,fun i hi=> ?_,fun i j h1 h2=> ?_⟩
 ·obtain rfl:e=eW:=List.mem_singleton.1 he
  exact⟨okNW,by decide,by decide,fun t ht=>by rw[List.mem_singleton.1 ht];decide,MR.symm⟩
 ·have:i+1<1:=hi
  omega
 ·have:j<1:=h2
  omega
theorem packW:gZ AY=[0,0,0,2,0,0,0,1,1,1,4,2,2,0,1,1,1,97,0,0,0,0,3,0]:=by kernel_rfl
theorem KU:sK AY:=by
 unfold sK;rw[packW];refine⟨by decide,by decide,?_⟩;show ∀x∈([0,0,0,2,0,0,0,1,1,1,4,2,2,0,1,1,1,97,0,0,0,0,3,0]:List Nat),x<256;decide
theorem pE{K H Z t:Nat}{m:dC}(h:sK m):tO K H Z t (none,bY m):=by
 have hb:By (bC m.seq 4++[0,1,(gZ m).length]++gZ m):=by
  intro x hx;rcases List.mem_append.1 hx with hx | hx
  ·rcases List.mem_append.1 hx with hx | hx
   ·exact jm _ _ x hx
   ·have:=h.2.1
    simp at hx;omega
  ·exact h.2.2 x hx
 refine⟨sM h,yM (by decide) hb,fun y hy=>(by cases hy),fun _ hc=> ?_⟩;have h2:(bY m).getD 3 0=2:=rfl;rw[h2] at hc;exact absurd hc.2 (by decide)
theorem xP(id:Nat)(hid:id≤65535):tO 1 1 4 0 (some (id,xM id),BA id):=by
 have hl:=fF xN xO id;have hb:=pz xN xO id
 exact⟨gT (by rw[jP];unfold xM;rw[hl];decide),yM (by decide) (Ew (by decide) (by decide) (by decide) hb),fun y hy=>by
  injection hy with hy;subst hy;exact⟨rfl,hl,hb,hid⟩,fun h=>by cases h⟩
theorem okG0:sK (bH 1 1 4 2):=Mj xN (by decide)
theorem IC:∀s,s≤1→(∀x∈kQ DR DT s,tO 1 1 4 0 x)∧(kQ DR DT s).length≤19∧qZ (iz (kQ DR DT s)):=by
 intro s hs;have h2:s=0∨s=1:=by omega
 rcases h2 with rfl | rfl
 ·refine⟨fun x hx=> ?_,by decide,fun i hi=> ?_⟩
  ·have hx:x∈DR:=hx
   simp only[DR,List.mem_cons,List.not_mem_nil,or_false] at hx;rcases hx with rfl | rfl | rfl | rfl
   ·exact pE okG0
   ·exact xP 0 (by decide)
   ·exact xP 2 (by decide)
   ·exact pE KU
  ·have hi:i+1<2:=hi
   obtain rfl:i=0:=(by omega);show(0:Nat)<2;decide
 ·refine⟨fun x hx=> ?_,by decide,fun i hi=> ?_⟩
  ·have hx:x∈DT:=hx
   simp only[DT,List.mem_cons,List.not_mem_nil,or_false] at hx;rcases hx with rfl | rfl | rfl
   ·exact pE okG0
   ·exact xP 1 (by decide)
   ·exact pE KU
  ·have hi:i+1<1:=hi
   omega
theorem Mi{X:List (Option (Nat×List Nat)×List Nat)}(h:∀x∈X,tO 1 1 4 0 x)(hl:X.length≤19)(hm:(none,bY AY)∈X):nE AY (bU X):=
 ⟨fun r hr=>by
   obtain⟨x,hx,rfl⟩:=List.mem_map.1 hr;exact⟨(h x hx).1,(h x hx).2.1⟩,by rw[mD];omega,List.mem_map.2 ⟨_,hm,rfl⟩⟩
theorem MS:nE AY (bU DR):=Mi (IC 0 (by decide)).1 (IC 0 (by decide)).2.1 (by simp[DR])
theorem MU:nE AY (bU DT):=Mi (IC 1 (by decide)).1 (IC 1 (by decide)).2.1 (by simp[DT])
theorem IE:jA DR DT 2=[(0,xM 0),(2,xM 2),(1,xM 1)]:=rfl
theorem hsyW:∀x∈jA DR DT 2,x.1≤65535∧x.2=dn 1 1 4 ((0:Nat):Int) vM x.1:=by
 rw[IE];intro x hx;simp only[List.mem_cons,List.not_mem_nil,or_false] at hx;rcases hx with rfl | rfl | rfl <;> exact⟨by decide,rfl⟩
theorem fullW:dP 1 1 4 ((0:Nat):Int) ((jA DR DT 2).map Prod.fst)=true:=by
 rw[IE];exact Kv
theorem MV:xx 1 1 4 0 0 0:=⟨by decide,xy,fun i hi=>absurd hi (Nat.not_lt_zero i)⟩
section
variable {B:Nat}
theorem Sto.lower{D:Nat}{w:World}{g p d0 d1 room:Nat}{m:dC}{R0 R1:List (List Nat)}(h:Sto D w g p d0 d1 room m R0 R1)(hB:B≤D):Sto B w g p d0 d1 room m R0 R1:=by
 obtain⟨⟨h1,⟨o0,o1,k0,k1,k2,k3⟩,h3,h4,h5⟩,hst⟩:=h;exact⟨⟨h1,⟨o0,o1,k0,k1,k2,fun b hb=>aQ hB (k3 b hb)⟩,h3,aQ hB h4,aQ hB h5⟩,hst⟩
def jU(p g:Nat):Array Value:=#[.pointer (some ⟨p,0,none⟩),.pointer (some ⟨g,0,none⟩)]++Array.replicate 64 (.pointer none)
theorem ED:zeroCells102= #[.pointer none,.pointer none]++Array.replicate 64 (.pointer none):=by kernel_rfl
theorem Hq{a0 a1 b0 b1:Value}{r:Array Value}:((#[a0,a1]++r).setIfInBounds 0 b0).setIfInBounds 1 b1= #[b0,b1]++r:=by
 apply Array.ext';simp
theorem wu{w:World}{ga p g:Nat}(h:Blk w ga 102 (jU p g)):w.cell? ⟨ga,0,none⟩=some (.pointer (some ⟨p,0,none⟩))∧w.cell? ⟨ga,1,none⟩=some (.pointer (some ⟨g,0,none⟩)):=
 ⟨(Blk.cell h 0).trans (by simp[jU]),(Blk.cell h 1).trans (by simp[jU])⟩
theorem Hr(K H Z ex room:Nat)(F:Nat→Prop)(a:Option Addr)(c:Nat)(w:World)(hk:ed K H Z=true)(hex:ex≤16)(hr1':2≤room)(hr2:room≤512)(hx:(rI [room,room]).ok w F [.slice a 2 c]):
 Calls prog 22 #[bL K H Z,.int .i64 ex,.slice a 2 c] w fun e w'=>∃ga g p d0 d1,e=.returned (.tuple #[.pointer (some ⟨ga,0,none⟩),.int .i64 0])∧Blk w' ga 102 (jU p g)∧w.heap.size≤g∧Sto w.heap.size w' g p d0 d1 room (bH K H Z ex) [bY (bH K H Z ex)] [bY (bH K H Z ex)]∧w'.cell? ⟨g,7,none⟩=some (.slice none 0 0)∧Below w.heap.size w w':=by
 have S0:Hid (Sx w (w.alloc (.cells #[.int .i64 K,.int .i64 H,.int .i64 Z] 26)) [bu w.heap.size 26 #[.int .i64 K,.int .i64 H,.int .i64 Z],eR F (.slice a 2 c) (rI [room,room])]):=
  ae ((((Sx.nil w).add (eR F (.slice a 2 c) (rI [room,room])) hx).alloc _).add (bu _ _ _) (Blk.new w _ _))
 have CN:=ae fun w=>Nv w;have CF:=ae fun (pg:Nat) (w:World) (hp:PwS w pg) (hx:(rI [room,room]).ok w F [.slice a 2 c])=>BD K H Z ex room pg F a c w hk hex hr1' hr2 hp hx;unfold bL at CF ⊢;clear hx hk;go_enter func22,ntmps22;go_wp2_with fail;generalize w.alloc (.cells #[.int .i64 K,.int .i64 H,.int .i64 Z] 26)=w0 at*;refine(CN.out w0).mono ?_;rintro e w1 ⟨rfl,hp1,hw1⟩;have hb1:Below w0.heap.size w0 w1:=by rw[hw1];exact(az _ _).alloc (ah _) _
 have S1:=ae (S0.out.step hb1);have CF1:=ae (CF.out w0.heap.size w1 hp1 (S1.out.rep 1 rfl));obtain⟨p0,p1,p2⟩:=qa (S1.out.blk 0 rfl);generalize w0.heap.size=gp at*;clear hp1 hw1 hb1 CN CF S0;go_wp2_with fail;refine CF1.out.mono ?_;rintro e w2 ⟨g,d0,d1,rfl,hg,hs2,hv2,hb2⟩;have hba:=(az w2.heap.size w2).alloc (ah _) (.cells (jU gp g) 102);have HS2:Hid (Sto w.heap.size (w2.alloc (.cells (jU gp g) 102)) g gp d0 d1 room (bH K H Z ex) [bY (bH K H Z ex)] [bY (bH K H Z ex)]):=ae ((hs2.lower S1.out.1.size).below hba);have HA2:=ae (Blk.new w2 102 (jU gp g));have HB2:=ae ((S1.out.step hb2).1.trans (hba.mono (S1.out.step hb2).1.size));have HG2:=ae (aQ S1.out.1.size hg);have HV2:Hid ((w2.alloc (.cells (jU gp g) 102)).cell? ⟨g,7,none⟩=some (.slice none 0 0)):=ae ((hba.cell (p:=⟨g,7,none⟩) (by obtain⟨-,_,_,hst,-⟩:=hs2;exact hst.lt)).trans hv2);have HSC:Hid ((zeroCells102.setIfInBounds 0 (Value.pointer (some ⟨gp,0,none⟩))).setIfInBounds 1 (Value.pointer (some ⟨g,0,none⟩))=jU gp g):=ae (by rw[ED,Hq];rfl);clear hg hs2 hv2 hb2 hba CF1 S1 p0 p1 p2;go_wp2_with fail;go_ret2;rw[HSC.out];exact⟨_,g,gp,d0,d1,rfl,HA2.out,HG2.out,HS2.out,HV2.out,HB2.out⟩
end
section
variable {B:Nat}
theorem iY{w:World}{g:Nat}{t:TypeId}{cs:Array Value}(h:Blk w g t cs):w.setRow g cs=w:=by
 have hlt:=h.lt;have e:w.heap[g]=.cells cs t (0,0):=(Array.getElem?_eq_some_iff.1 (show w.heap[g]? =some (.cells cs t (0,0)) from h)).2
 have hm:(w.heap.modify g fun
  | .cells _ elem frozen=>.cells cs elem frozen
  | o=>o)=w.heap:=by
  refine Array.ext (by simp) fun k h1 h2=> ?_;rw[Array.getElem_modify];split
  ·rename_i hk
   subst hk;rw[e]
  ·rfl
 unfold World.setRow;exact congrArg (fun h=>({ w with heap:=h }:World)) hm
theorem xV{w:World}{g i:Nat}{t:TypeId}{cs:Array Value}{v:Value}(h:Blk w g t cs)(hi:cs.setIfInBounds i v=cs):w.setCell ⟨g,i,none⟩ v=w:=by
 rw[setCell_eq_setRow w g i cs t (0,0) v h,hi];exact iY h
def vQ(k:Int)(nm:ByteArray)(v:Value):Array Value:=#[.int .i64 k,.string nm,v,.int .i64 0,.int .i64 0,.int .i64 0,.int .u32 0,.slice none 0 0,.slice none 0 0]
def ansC(v:Value):Array Value:=#[.int .i64 0,v,.slice none 0 0,.int .i64 0,.int .i64 0,.int .i64 0,.slice none 0 0,.int .i64 0]
theorem DY{w:World}{g:Nat}{t:TypeId}{a b c d e f i j k:Value}(h:Blk w g t #[a,b,c,d,e,f,i,j,k]):w.cell? ⟨g,0,none⟩=some a∧w.cell? ⟨g,1,none⟩=some b∧w.cell? ⟨g,2,none⟩=some c∧w.cell? ⟨g,3,none⟩=some d∧
 w.cell? ⟨g,4,none⟩=some e∧w.cell? ⟨g,5,none⟩=some f∧w.cell? ⟨g,6,none⟩=some i∧w.cell? ⟨g,7,none⟩=some j∧w.cell? ⟨g,8,none⟩=some k:=⟨h.cell 0,h.cell 1,h.cell 2,h.cell 3,h.cell 4,h.cell 5,h.cell 6,h.cell 7,h.cell 8⟩
theorem ans10{w:World}{g:Nat}{t:TypeId}(h:Blk w g t (ansC (.slice none 0 0)))(v:Value):Blk ((w.setCell ⟨g,1,none⟩ v).setCell ⟨g,0,none⟩ (.int .i64 0)) g t (ansC v):=by
 have:=(h.set 1 v).set 0 (.int .i64 0);simpa[ansC] using this
theorem ans01{w:World}{g:Nat}{t:TypeId}(h:Blk w g t (ansC (.slice none 0 0)))(v:Value):Blk ((w.setCell ⟨g,0,none⟩ (.int .i64 0)).setCell ⟨g,1,none⟩ v) g t (ansC v):=by
 have:=(h.set 0 (.int .i64 0)).set 1 v;simpa[ansC] using this
theorem KZ(ga p g n c:Nat)(nm:ByteArray)(a:Option Addr)(Q:World→Prop)(w:World)(hA:Blk w ga 102 (jU p g))
 (CP:∀W,Below w.heap.size w W→Calls prog 94 #[.pointer (some ⟨g,0,none⟩),.string nm,.slice a n c] W fun e w'=>e=.returned (.int .i64 0)∧Q w'∧ChgT W w'):
 Calls prog 51 #[.pointer (some ⟨ga,0,none⟩),.agg (vQ 1 nm (.slice a n c))] w fun e w'=>e=.returned (.agg (ansC (.slice none 0 0)))∧Q w'∧ChgT w w':=by
 obtain⟨w0,hw0⟩:∃w0,w0=(w.alloc (.cells (vQ 1 nm (.slice a n c)) 68)).alloc (.cells (ansC (.slice none 0 0)) 65):=⟨_,rfl⟩;have hsz1:(w.alloc (.cells (vQ 1 nm (.slice a n c)) 68)).heap.size=w.heap.size+1:=by simp
 have HB0:Hid (Below w.heap.size w w0):=ae (by rw[hw0];exact((az _ _).alloc (ah _) _).alloc (by simp) _);have HM0:Hid (Blk w0 w.heap.size 68 (vQ 1 nm (.slice a n c))):=ae (by rw[hw0];exact(Blk.new w _ _).alloc _);have HN0:Hid (Blk w0 (w.heap.size+1) 65 (ansC (.slice none 0 0))):=ae (by rw[hw0,←hsz1];exact Blk.new _ _ _);have HA0:=ae (hA.below HB0.out hA.lt);have CP0:=ae (CP w0.drew (HB0.out.trans ((az _ w0).drew.mono HB0.out.size)));have HW0:=ae hw0;obtain⟨a0,a1⟩:=wu HA0.out;unfold vQ ansC at*;obtain⟨m0,m1,m2,m3,m4,m5,m6,m7,m8⟩:=DY HM0.out;obtain⟨n0,n1,n2,n3,n4,n5,n6,n7⟩:=dc HN0.out;clear hA CP hsz1 hw0;go_enter func51,ntmps51;go_upto_region 1 with fail;rw[←HW0.out];clear HW0;go_upto_region 3 with fail
 go_region_law (go_simp
                go_at_call 94;refine CP0.out.mono ?_;rintro e w1 ⟨rfl,hq1,ht1⟩;have HN1:=ae (Blk.chgT (Blk.drew HN0.out) ht1 (Mt.not (Blk.ty (Blk.drew HN0.out)) (by decide) (by decide) (by decide)));have HQ1:=ae hq1;have HT1:=ae ((ChgT.below HB0.out).trans ((ChgT.below (az _ w0).drew).trans ht1));have f0:=HN1.out.frozen 0;have q0:=HN1.out.cell 0;clear hq1 ht1;go_simp)
 all_goals(
  go_simp;rw[xV HN1.out (by rfl)];clear n0 n1 n2 n3 n4 n5 n6 n7 q0 f0;obtain⟨q0,q1,q2,q3,q4,q5,q6,q7⟩:=dc HN1.out
  go_wp2_with (change wpList _ _ _ (Oper.mk none (Op.store 65 _ _) _ _ _ _ :: _) _ _;refine wpList_store_row rfl 65 _ _ rfl (w.heap.size+1) #[.int .i64 0,.slice none 0 0,.slice none 0 0,.int .i64 0,.int .i64 0,.int .i64 0,.slice none 0 0,.int .i64 0] rfl rfl 65 _ HN1.out (by kernel_rfl) rfl (by kernel_rfl) ?_)
  rw[iY HN1.out];go_wp2_with fail
  (try simp only[Exit.inBlock,Exit.then])
  refine bodyPost_ret (results_cell_row rfl _ _ (w.heap.size+1) 65 #[.int .i64 0,.slice none 0 0,.slice none 0 0,.int .i64 0,.int .i64 0,.int .i64 0,.slice none 0 0,.int .i64 0] (0,0) _ rfl HN1.out underlying65 rfl (by kernel_rfl)) rfl ?_;exact⟨rfl,HQ1.out,HT1.out⟩)
theorem K3(ga p g:Nat)(nm:ByteArray)(res:List Nat)(w:World)(hA:Blk w ga 102 (jU p g))
 (CP:∀W,Below w.heap.size w W→Calls prog 95 #[.pointer (some ⟨g,0,none⟩),.string nm] W fun e w'=>∃v,e=.returned (.tuple #[v,.int .i64 0])∧(rB res).ok w' (Fr W.heap.size) [v]∧Below W.heap.size W w'):
 Calls prog 51 #[.pointer (some ⟨ga,0,none⟩),.agg (vQ 2 nm (.slice none 0 0))] w fun e w'=>∃a c,e=.returned (.agg (ansC (.slice a res.length c)))∧(rB res).ok w' (Fr w.heap.size) [.slice a res.length c]∧Below w.heap.size w w':=by
 obtain⟨w0,hw0⟩:∃w0,w0=(w.alloc (.cells (vQ 2 nm (.slice none 0 0)) 68)).alloc (.cells (ansC (.slice none 0 0)) 65):=⟨_,rfl⟩;have hsz1:(w.alloc (.cells (vQ 2 nm (.slice none 0 0)) 68)).heap.size=w.heap.size+1:=by simp
 have HB0:Hid (Below w.heap.size w w0):=ae (by rw[hw0];exact((az _ _).alloc (ah _) _).alloc (by simp) _);have HM0:Hid (Blk w0 w.heap.size 68 (vQ 2 nm (.slice none 0 0))):=ae (by rw[hw0];exact(Blk.new w _ _).alloc _);have HN0:Hid (Blk w0 (w.heap.size+1) 65 (ansC (.slice none 0 0))):=ae (by rw[hw0,←hsz1];exact Blk.new _ _ _);have HA0:=ae (hA.below HB0.out hA.lt);have CP0:=ae (CP w0.drew (HB0.out.trans ((az _ w0).drew.mono HB0.out.size)));have HW0:=ae hw0;obtain⟨a0,a1⟩:=wu HA0.out;obtain⟨m0,m1,m2,m3,m4,m5,m6,m7,m8⟩:=DY (show Blk w0 w.heap.size 68 #[.int .i64 2,.string nm,.slice none 0 0,.int .i64 0,.int .i64 0,.int .i64 0,.int .u32 0,.slice none 0 0,.slice none 0 0] from HM0.out);have hl1:w.heap.size+1<w0.heap.size:=HN0.out.lt;clear hA CP hsz1 hw0;unfold vQ;go_enter func51,ntmps51;unfold vQ ansC at HW0;go_upto_region 1 with fail;rw[←HW0.out];clear HW0;go_upto_region 5 with fail
 go_region_law (go_simp
                go_at_call 95;refine CP0.out.mono ?_;rintro e w1 ⟨v1,rfl,hr1,hb1⟩;replace hb1:=bA hb1;have HR1:Hid ((rB res).ok w1 (fun b=>w0.heap.size≤b) [v1]):=ae hr1;obtain⟨a8,c8,rfl,-⟩:=gB hr1 rfl;have HN1:=ae (HN0.out.below hb1 HN0.out.lt);have HB1:=ae (HB0.out.trans (hb1.mono HB0.out.size));have f0:=HN1.out.frozen 0;have f1:=HN1.out.frozen 1;have q0:w1.cell? ⟨w.heap.size+1,0,none⟩=some (.int .i64 0):=HN1.out.cell 0;have q1:w1.cell? ⟨w.heap.size+1,1,none⟩=some (.slice none 0 0):=HN1.out.cell 1;clear hr1 hb1;go_simp)
 all_goals(
  go_simp;clear q0 q1 f0 f1
  first
  | (have HN2:=ae (ans10 HN1.out (.slice a8 res.length c8))
     have HR2:Hid ((rB res).ok ((w1.setCell ⟨w.heap.size+1,1,none⟩ (.slice a8 res.length c8)).setCell ⟨w.heap.size+1,0,none⟩ (.int .i64 0)) (Fr w.heap.size) [.slice a8 res.length c8]):=ae ((rB _).keep HR1.out fun b hb _=>⟨(aZ _ _ _ b (by show b≠w.heap.size+1;omega)).trans (aZ _ _ _ b (by show b≠w.heap.size+1;omega)),by show w.heap.size≤b;omega⟩);have HB2:=ae ((HB1.out.setCell (p:=⟨w.heap.size+1,1,none⟩) (by show w.heap.size≤w.heap.size+1;omega) (.slice a8 res.length c8)).setCell (p:=⟨w.heap.size+1,0,none⟩) (by show w.heap.size≤w.heap.size+1;omega) (.int .i64 0));unfold ansC at HN2;obtain⟨q0,q1,q2,q3,q4,q5,q6,q7⟩:=dc HN2.out
     go_wp2_with (change wpList _ _ _ (Oper.mk none (Op.store 65 _ _) _ _ _ _ :: _) _ _;refine wpList_store_row rfl 65 _ _ rfl (w.heap.size+1) #[.int .i64 0,.slice a8 res.length c8,.slice none 0 0,.int .i64 0,.int .i64 0,.int .i64 0,.slice none 0 0,.int .i64 0] rfl rfl 65 _ HN2.out (by kernel_rfl) rfl (by kernel_rfl) ?_)
     rw[iY HN2.out];go_wp2_with fail
     (try simp only[Exit.inBlock,Exit.then])
     refine bodyPost_ret (results_cell_row rfl _ _ (w.heap.size+1) 65 #[.int .i64 0,.slice a8 res.length c8,.slice none 0 0,.int .i64 0,.int .i64 0,.int .i64 0,.slice none 0 0,.int .i64 0] (0,0) _ rfl HN2.out underlying65 rfl (by kernel_rfl)) rfl ?_;exact⟨_,_,rfl,HR2.out,HB2.out⟩)
  | (have HN2:=ae (ans01 HN1.out (.slice a8 res.length c8))
     have HR2:Hid ((rB res).ok ((w1.setCell ⟨w.heap.size+1,0,none⟩ (.int .i64 0)).setCell ⟨w.heap.size+1,1,none⟩ (.slice a8 res.length c8)) (Fr w.heap.size) [.slice a8 res.length c8]):=ae ((rB _).keep HR1.out fun b hb _=>⟨(aZ _ _ _ b (by show b≠w.heap.size+1;omega)).trans (aZ _ _ _ b (by show b≠w.heap.size+1;omega)),by show w.heap.size≤b;omega⟩);have HB2:=ae ((HB1.out.setCell (p:=⟨w.heap.size+1,0,none⟩) (by show w.heap.size≤w.heap.size+1;omega) (.int .i64 0)).setCell (p:=⟨w.heap.size+1,1,none⟩) (by show w.heap.size≤w.heap.size+1;omega) (.slice a8 res.length c8));unfold ansC at HN2;obtain⟨q0,q1,q2,q3,q4,q5,q6,q7⟩:=dc HN2.out
     go_wp2_with (change wpList _ _ _ (Oper.mk none (Op.store 65 _ _) _ _ _ _ :: _) _ _;refine wpList_store_row rfl 65 _ _ rfl (w.heap.size+1) #[.int .i64 0,.slice a8 res.length c8,.slice none 0 0,.int .i64 0,.int .i64 0,.int .i64 0,.slice none 0 0,.int .i64 0] rfl rfl 65 _ HN2.out (by kernel_rfl) rfl (by kernel_rfl) ?_)
     rw[iY HN2.out];go_wp2_with fail
     (try simp only[Exit.inBlock,Exit.then])
     refine bodyPost_ret (results_cell_row rfl _ _ (w.heap.size+1) 65 #[.int .i64 0,.slice a8 res.length c8,.slice none 0 0,.int .i64 0,.int .i64 0,.int .i64 0,.slice none 0 0,.int .i64 0] (0,0) _ rfl HN2.out underlying65 rfl (by kernel_rfl)) rfl ?_;exact⟨_,_,rfl,HR2.out,HB2.out⟩))
end
section
variable {B:Nat}
theorem MZ(ga p g n c:Nat)(nm:ByteArray)(a:Option Addr)(Q:World→Prop)(w:World)(hA:Blk w ga 102 (jU p g))
 (CP:∀W,Below w.heap.size w W→Calls prog 94 #[.pointer (some ⟨g,0,none⟩),.string nm,.slice a n c] W fun e w'=>e=.returned (.int .i64 0)∧Q w'∧ChgT W w'):
 Calls prog 23 #[.pointer (some ⟨ga,0,none⟩),.agg (vQ 1 nm (.slice a n c))] w fun e w'=>e=.returned (.agg (ansC (.slice none 0 0)))∧Q w'∧ChgT w w':=by
 obtain⟨w0,hw0⟩:∃w0,w0=(w.alloc (.cells (vQ 1 nm (.slice a n c)) 68)).alloc (.cells (ansC (.slice none 0 0)) 65):=⟨_,rfl⟩;have hsz1:(w.alloc (.cells (vQ 1 nm (.slice a n c)) 68)).heap.size=w.heap.size+1:=by simp
 have HB0:Hid (Below w.heap.size w w0):=ae (by rw[hw0];exact((az _ _).alloc (ah _) _).alloc (by simp) _);have HM0:Hid (Blk w0 w.heap.size 68 (vQ 1 nm (.slice a n c))):=ae (by rw[hw0];exact(Blk.new w _ _).alloc _);have HN0:Hid (Blk w0 (w.heap.size+1) 65 (ansC (.slice none 0 0))):=ae (by rw[hw0,←hsz1];exact Blk.new _ _ _);have CP0:=ae (KZ ga p g n c nm a Q w0 (hA.below HB0.out hA.lt) fun W hW=>CP W (HB0.out.trans (hW.mono HB0.out.size)));have HW0:=ae hw0;unfold vQ ansC at*;obtain⟨m0,m1,m2,m3,m4,m5,m6,m7,m8⟩:=DY HM0.out;clear hA CP hsz1 hw0;go_enter func23,ntmps23;go_upto_region 1 with fail;rw[←HW0.out];clear HW0;go_wp2_with fail;refine CP0.out.mono ?_;rintro e w1 ⟨rfl,hq1,ht1⟩;have HN1:=ae (Blk.chgT HN0.out ht1 (Mt.not (Blk.ty HN0.out) (by decide) (by decide) (by decide)));have HQ1:=ae hq1;have HT1:=ae ((ChgT.below HB0.out).trans ht1);clear hq1 ht1 m0 m1 m2 m3 m4 m5 m6 m7 m8 CP0
 go_wp2_with (change wpList _ _ _ (Oper.mk none (Op.store 65 _ _) _ _ _ _ :: _) _ _;refine wpList_store_row rfl 65 _ _ rfl (w.heap.size+1) #[.int .i64 0,.slice none 0 0,.slice none 0 0,.int .i64 0,.int .i64 0,.int .i64 0,.slice none 0 0,.int .i64 0] rfl rfl 65 _ HN1.out (by kernel_rfl) rfl (by kernel_rfl) ?_)
 rw[iY HN1.out];go_wp2_with fail
 (try simp only[Exit.inBlock,Exit.then])
 refine bodyPost_ret (results_cell_row rfl _ _ (w.heap.size+1) 65 #[.int .i64 0,.slice none 0 0,.slice none 0 0,.int .i64 0,.int .i64 0,.int .i64 0,.slice none 0 0,.int .i64 0] (0,0) _ rfl HN1.out underlying65 rfl (by kernel_rfl)) rfl ?_;exact⟨rfl,HQ1.out,HT1.out⟩
theorem M3(ga p g:Nat)(nm:ByteArray)(res:List Nat)(w:World)(hA:Blk w ga 102 (jU p g))
 (CP:∀W,Below w.heap.size w W→Calls prog 95 #[.pointer (some ⟨g,0,none⟩),.string nm] W fun e w'=>∃v,e=.returned (.tuple #[v,.int .i64 0])∧(rB res).ok w' (Fr W.heap.size) [v]∧Below W.heap.size W w'):
 Calls prog 23 #[.pointer (some ⟨ga,0,none⟩),.agg (vQ 2 nm (.slice none 0 0))] w fun e w'=>∃a c,e=.returned (.agg (ansC (.slice a res.length c)))∧(rB res).ok w' (Fr w.heap.size) [.slice a res.length c]∧Below w.heap.size w w':=by
 obtain⟨w0,hw0⟩:∃w0,w0=(w.alloc (.cells (vQ 2 nm (.slice none 0 0)) 68)).alloc (.cells (ansC (.slice none 0 0)) 65):=⟨_,rfl⟩;have hsz1:(w.alloc (.cells (vQ 2 nm (.slice none 0 0)) 68)).heap.size=w.heap.size+1:=by simp
 have HB0:Hid (Below w.heap.size w w0):=ae (by rw[hw0];exact((az _ _).alloc (ah _) _).alloc (by simp) _);have HM0:Hid (Blk w0 w.heap.size 68 (vQ 2 nm (.slice none 0 0))):=ae (by rw[hw0];exact(Blk.new w _ _).alloc _);have HN0:Hid (Blk w0 (w.heap.size+1) 65 (ansC (.slice none 0 0))):=ae (by rw[hw0,←hsz1];exact Blk.new _ _ _);have CP0:=ae (K3 ga p g nm res w0 (hA.below HB0.out hA.lt) fun W hW=>CP W (HB0.out.trans (hW.mono HB0.out.size)));have HW0:=ae hw0;unfold vQ ansC at*;obtain⟨m0,m1,m2,m3,m4,m5,m6,m7,m8⟩:=DY HM0.out;clear hA CP hsz1 hw0;go_enter func23,ntmps23;go_upto_region 1 with fail;rw[←HW0.out];clear HW0;go_wp2_with fail;refine CP0.out.mono ?_;rintro e w1 ⟨a8,c8,rfl,hr1,hb1⟩;have HN1:=ae (HN0.out.below hb1 HN0.out.lt);have HR1:Hid ((rB res).ok w1 (fun b=>w0.heap.size≤b) [.slice a8 res.length c8]):=ae hr1;have HB1:=ae (HB0.out.trans (hb1.mono HB0.out.size));have hl1:w.heap.size+1<w0.heap.size:=HN0.out.lt;clear hr1 hb1 m0 m1 m2 m3 m4 m5 m6 m7 m8 CP0
 go_wp2_with (change wpList _ _ _ (Oper.mk none (Op.store 65 _ _) _ _ _ _ :: _) _ _;refine wpList_store_row rfl 65 _ _ rfl (w.heap.size+1) #[.int .i64 0,.slice a8 res.length c8,.slice none 0 0,.int .i64 0,.int .i64 0,.int .i64 0,.slice none 0 0,.int .i64 0] rfl rfl 65 _ HN1.out (by kernel_rfl) rfl (by kernel_rfl) ?_)
 have HN2:=ae (HN1.out.row #[.int .i64 0,.slice a8 res.length c8,.slice none 0 0,.int .i64 0,.int .i64 0,.int .i64 0,.slice none 0 0,.int .i64 0]);have HR2:Hid ((rB res).ok (w1.setRow (w.heap.size+1) #[.int .i64 0,.slice a8 res.length c8,.slice none 0 0,.int .i64 0,.int .i64 0,.int .i64 0,.slice none 0 0,.int .i64 0]) (Fr w.heap.size) [.slice a8 res.length c8]):=ae ((rB _).keep HR1.out fun b hb _=>⟨setRow_other _ _ _ _ (by omega),by show w.heap.size≤b;omega⟩);have HB2:=ae (bR HB1.out (show w.heap.size≤w.heap.size+1 by omega) #[.int .i64 0,.slice a8 res.length c8,.slice none 0 0,.int .i64 0,.int .i64 0,.int .i64 0,.slice none 0 0,.int .i64 0]);generalize w1.setRow (w.heap.size+1) #[.int .i64 0,.slice a8 res.length c8,.slice none 0 0,.int .i64 0,.int .i64 0,.int .i64 0,.slice none 0 0,.int .i64 0]=w2 at*;go_wp2_with fail
 (try simp only[Exit.inBlock,Exit.then])
 refine bodyPost_ret (results_cell_row rfl _ _ (w.heap.size+1) 65 #[.int .i64 0,.slice a8 res.length c8,.slice none 0 0,.int .i64 0,.int .i64 0,.int .i64 0,.slice none 0 0,.int .i64 0] (0,0) _ rfl HN2.out underlying65 rfl (by kernel_rfl)) rfl ?_;exact⟨_,_,rfl,HR2.out,HB2.out⟩
end
theorem EI(w:World)(l:List Nat)(fr:Nat×Nat):Rd (w.alloc (.cells (bn l) 5 fr)) (w.alloc (.cells (bn l) 5 fr)).heap.size (some ⟨w.heap.size,0,none⟩) l.length (ba l):=by
 refine⟨bg l,fun _=>⟨w.heap.size,0,rfl,by simp,fun i u hu=> ?_⟩⟩
 have h:(w.alloc (.cells (bn l) 5 fr)).heap[w.heap.size]? =some (.cells (bn l) 5 fr):=by
  show(w.heap.push (.cells (bn l) 5 fr))[w.heap.size]? =_;simp
 unfold World.cell?;rw[h,Nat.zero_add];show(bn l)[i]? =some u;simpa[bn] using hu
theorem Be(w:World):Calls prog 8 #[] w fun e w'=>e=.returned (.bool true)∧Below w.heap.size w w':=by
 have hba:=(az w.heap.size w).alloc (ah _) (.cells #[.int .i64 20,.int .i64 20] 3);have hk0:=Blk.new w 3 #[.int .i64 20,.int .i64 20]
 have hI:(rI [20,20]).ok (w.alloc (.cells #[.int .i64 20,.int .i64 20] 3)) Any [.slice (some ⟨w.heap.size,0,none⟩) 2 2]:=
  ⟨_,2,2,rfl,ah _,by decide,fun h=>(by cases h),rfl,fun _=>⟨w.heap.size,0,rfl,trivial,fun i u hu=>by rw[Nat.zero_add,hk0.cell i];simpa[bf] using hu⟩⟩
 have CN:Hid (Calls prog 22 #[.agg #[.int .i64 1,.int .i64 1,.int .i64 4],.int .i64 2,.slice (some ⟨w.heap.size,0,none⟩) 2 2] (w.alloc (.cells #[.int .i64 20,.int .i64 20] 3)) fun e w'=>∃ga g p d0 d1,e=.returned (.tuple #[.pointer (some ⟨ga,0,none⟩),.int .i64 0])∧Blk w' ga 102 (jU p g)∧(w.alloc (.cells #[.int .i64 20,.int .i64 20] 3)).heap.size≤g∧Sto (w.alloc (.cells #[.int .i64 20,.int .i64 20] 3)).heap.size w' g p d0 d1 20 (bH 1 1 4 2) [bY (bH 1 1 4 2)] [bY (bH 1 1 4 2)]∧w'.cell? ⟨g,7,none⟩=some (.slice none 0 0)∧Below (w.alloc (.cells #[.int .i64 20,.int .i64 20] 3)).heap.size (w.alloc (.cells #[.int .i64 20,.int .i64 20] 3)) w'):=
  ae (Hr 1 1 4 2 20 Any _ 2 _ xN (by decide) (by decide) (by decide) hI)
 have HB0:=ae hba;clear hba hk0 hI;go_enter func8,ntmps8;go_wp2_with fail;generalize w.alloc (.cells #[.int .i64 20,.int .i64 20] 3)=w0 at*;refine CN.out.mono ?_;rintro e w1 ⟨ga,g,p,d0,d1,rfl,hA1,hg1,hs1,hv1,hb1⟩;have hba:=(az w1.heap.size w1).alloc (ah _) (.cells (bn [97,98,99]) 5 (3,4));have HA2:=ae (hA1.below hba hA1.lt);have HS2:=ae (hs1.below hba);have HV2:=ae ((hba.cell (p:=⟨g,7,none⟩) (by obtain⟨-,_,_,hst,-⟩:=hs1;exact hst.lt)).trans hv1);have HR2:=ae (EI w1 [97,98,99] (3,4));have HB2:=ae ((HB0.out.trans (hb1.mono HB0.out.size)).trans (hba.mono (HB0.out.trans (hb1.mono HB0.out.size)).size));have HGG:Hid (w0.heap.size≤g∧w0.heap.size≤w1.heap.size):=ae ⟨hg1,hb1.size⟩;have hgl:g<(w1.alloc (.cells (bn [97,98,99]) 5 (3,4))).heap.size:=by obtain⟨-,_,_,hst,-⟩:=HS2.out;exact hst.lt
 have HGL:=ae hgl;have HSZ:=ae hba.size;clear hba hA1 hg1 hs1 hv1 hb1 CN hgl
 have CDO:Hid (Calls prog 23 #[.pointer (some ⟨ga,0,none⟩),.agg #[.int .i64 1,.string { data:=#[97] },.slice (some ⟨w1.heap.size,0,none⟩) 3 3,.int .i64 0,.int .i64 0,.int .i64 0,.int .u32 0,.slice none 0 0,.slice none 0 0]] (w1.alloc (.cells (bn [97,98,99]) 5 (3,4))) fun e w'=>e=.returned (.agg #[.int .i64 0,.slice none 0 0,.slice none 0 0,.int .i64 0,.int .i64 0,.int .i64 0,.slice none 0 0,.int .i64 0])∧(Sto w0.heap.size w' g p d0 d1 20 AY (bU DR) (bU DT)∧Below w0.heap.size (w1.alloc (.cells (bn [97,98,99]) 5 (3,4))) w')∧ChgT (w1.alloc (.cells (bn [97,98,99]) 5 (3,4))) w'):=ae (MZ ga p g 3 3 nmW (some ⟨w1.heap.size,0,none⟩) (fun w'=>Sto w0.heap.size w' g p d0 d1 20 AY (bU DR) (bU DT)∧Below w0.heap.size (w1.alloc (.cells (bn [97,98,99]) 5 (3,4))) w') _ HA2.out fun W hW=>
  (Kw 1 1 4 2 0 g p d0 d1 20 nmW [bY (bH 1 1 4 2)] [bY (bH 1 1 4 2)] [97,98,99] (some ⟨w1.heap.size,0,none⟩) 3 3 W (HS2.out.below hW) ((hW.cell (p:=⟨g,7,none⟩) HGL.out).trans HV2.out) ⟨HGG.out.1,aQ HGG.out.2 (aQ HSZ.out hW.size)⟩ xN (by decide) MV okNW ((HR2.out.below hW (ah _)).more hW.size) (show ∀x∈([97,98,99]:List Nat),x<256 by decide) (by decide) (by decide) ⟨by decide,by decide⟩ MR okMW KU ⟨by decide,by decide⟩ (by decide)).mono fun e w' h=>by
    obtain⟨h1,h2,hb,h3⟩:=h;refine⟨h1,⟨?_,(hW.mono (aQ HGG.out.2 HSZ.out)).trans hb⟩,h3⟩;have h2':Sto w0.heap.size w' g p d0 d1 20 AY (jh (cN AY [0,1]) (jh (fL 1 1 4 0 vM 3) [bY (bH 1 1 4 2)])) (all1 (cN AY [0,1]) (all1 (fL 1 1 4 0 vM 3) [bY (bH 1 1 4 2)])):=h2
    rwa [MP,MQ] at h2')
 clear HS2 HV2 HR2 HGG HGL HSZ;have hrow:bn [97,98,99]= #[.int .u8 97,.int .u8 98,.int .u8 99]:=rfl;rw[hrow] at HA2 HB2 CDO;clear hrow;have kc:=fun (w:World) (C:Array Value) (n c:Nat)=>Lib.run_convert_bytes_const (P:=prog) w 23 5 C n c underlying23 underlying5;go_wp2_with fail;generalize w1.alloc (.cells #[.int .u8 97,.int .u8 98,.int .u8 99] 5 (3,4))=w2 at*;refine CDO.out.mono ?_;rintro e w3 ⟨rfl,⟨hs3,hb3⟩,ht3⟩;have HA3:=ae (Blk.chgT HA2.out ht3 (Mt.not (Blk.ty HA2.out) (by decide) (by decide) (by decide)));have HS3:=ae hs3;have HB3:=ae (HB2.out.trans (hb3.mono HB0.out.size))
 have CDG:Hid (Calls prog 23 #[.pointer (some ⟨ga,0,none⟩),.agg #[.int .i64 2,.string { data:=#[97] },.slice none 0 0,.int .i64 0,.int .i64 0,.int .i64 0,.int .u32 0,.slice none 0 0,.slice none 0 0]] w3 fun e w'=>∃a c,e=.returned (.agg #[.int .i64 0,.slice a 3 c,.slice none 0 0,.int .i64 0,.int .i64 0,.int .i64 0,.slice none 0 0,.int .i64 0])∧(rB [97,98,99]).ok w' (Fr w3.heap.size) [.slice a 3 c]∧Below w3.heap.size w3 w'):=ae (M3 ga p g nmW [97,98,99] w3 HA3.out fun W hW=>
  (Ld 1 1 4 2 0 3 g p d0 d1 20 nmW vM DR DT W (HS3.out.below hW) xN (by decide) okMW KU IC MS MU xO hsyW (by rw[IE];decide) fullW MR (by decide)).mono fun e w' h=>by
    rw[catW] at h;exact h)
 have hf0:∀w:World,(Instr.field 65 (.agg #[.int .i64 0,.slice none 0 0,.slice none 0 0,.int .i64 0,.int .i64 0,.int .i64 0,.slice none 0 0,.int .i64 0]) 0).run prog w=.ok (.int .i64 0) w:=fun _=>by kernel_rfl
 have hf1:∀(a:Option Addr) (c:Nat) (w:World),(Instr.field 65 (.agg #[.int .i64 0,.slice a 3 c,.slice none 0 0,.int .i64 0,.int .i64 0,.int .i64 0,.slice none 0 0,.int .i64 0]) 1).run prog w=.ok (.slice a 3 c) w:=fun _ _ _=>by kernel_rfl
 have hstr:strOfNums (lF [97,98,99])= { data:=#[97,98,99] }:=by kernel_rfl
 clear hs3 ht3 hb3 kc HA2 HB2 HB0 CDO;go_wp2_with fail;refine CDG.out.mono ?_;rintro e w4 ⟨a4,c4,rfl,hr4,hb4⟩;obtain⟨a',c',e,hrd,-⟩:=gB hr4 (n:=3) rfl;injection e with e1 _ e3;subst e1 e3;have hcv:=Bj hrd c4;rw[hstr] at hcv;have HB4:=ae (HB3.out.trans (hb4.mono HB3.out.size));clear hr4 hb4 hrd CDG hstr;go_wp2_with fail;go_ret;exact⟨rfl,HB4.out⟩
end Go.Proofs.YtofgapdnadbgkaaGreatDoor
namespace Go.Proofs.YtofgapdnadbgkaaGreatDoor.Head
open Go.RowKit _root_.Go.Proofs.Tryz
def signs:List Char:=[104,97,114,110,101,115,115,32,52,99,101,98,98,51,98,54,53,49,52,54,100,48,102,100,52,50,48,99,55,53,101,57,49,48,57,101,102,102,52,48,102,101,99,56,51,102,49,52,54,101,101,56,97,54,54,55,50,51,57,50,50,54,53,55,101,52,50,100,98,100,97,98,32,99,117,116,32,97,116,32,119,101,108,108,115,112,114,105,110,103,47,119,101,108,108,115,112,114,105,110,103,116,111,112,46,84,111,112,80,97,116,104].map Char.ofNat
theorem Cq:Tryz.progTables.initOrder.toByteArray=List.utf8Encode signs:=rfl
theorem head_eq:Tryz.progTables.initOrder=String.ofList signs:=String.toByteArray_inj.1 Cq
theorem Gn:prog.toTables=Tryz.progTables:=rfl
theorem qM:prog.initOrder.toList=signs:=by
 rw[Gn,head_eq,String.toList_ofList]
def Gp:List Char:=[99,117,116].map Char.ofNat
def restW:List (List Char):=(behindMainWord (wordsSigns signs)).tail
theorem uK:behindMainWord (wordsSigns signs)=Gp :: restW:=by kernel_rfl
theorem Jq(r:List (List Char)):stripLifts liftWords (Gp :: r)=([],Gp :: r):=by kernel_rfl
theorem Jr(P:Program)(l:List Char)(r:List (List Char))(h:P.initOrder.toList=l)(hw:behindMainWord (wordsSigns l)=Gp :: r):P.make=some .cut:=by
 unfold Program.make;rw[h,hw];generalize P.headLifts=hl
 kernel_rfl
theorem Gq(P:Program)(l:List Char)(r:List (List Char))(h:P.initOrder.toList=l)(hw:behindMainWord (wordsSigns l)=Gp :: r):P.liftsFinal=false:=by
 unfold Program.liftsFinal Program.headLifts;rw[h,hw]
 kernel_rfl
theorem Gs(P:Program)(l:List Char)(r:List (List Char))(h:P.initOrder.toList=l)(hw:behindMainWord (wordsSigns l)=Gp :: r)(h1:P.laysLater=false)(h2:P.bearsReflect=false)(h3:P.doorFits []=true):P.mayEnter=true:=by
 unfold Program.mayEnter;rw[h,hw,h1,h2];simp only[];rw[Jq];simp only[];rw[h3]
 kernel_rfl
theorem make_eq:prog.make=some .cut:=Jr _ _ _ qM uK
theorem lifts_eq:prog.liftsFinal=false:=Gq _ _ _ qM uK
theorem Js:prog.laysLater=false:=by kernel_rfl
theorem Cr:prog.bearsReflect=false:=by kernel_rfl
theorem Lv:prog.doorFits []=true:=by kernel_rfl
theorem enter_eq:prog.mayEnter=true:=Gs _ _ _ qM uK Js Cr Lv
end Go.Proofs.YtofgapdnadbgkaaGreatDoor.Head
