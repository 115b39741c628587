import Derived.Test.YtofgapdnadbgkaaGreatDoorW19
set_option linter.unusedVariables false
set_option maxRecDepth 100000
set_option maxHeartbeats 400000000
namespace Go.Proofs.YtofgapdnadbgkaaGreatDoor
open Go.RowKit _root_.Go.Proofs.Tryz
def ll(l:List (List Nat)):Rp:=rS 1 (l.map rI)
theorem xQ{l:List (List Nat)}{w:World}{F:Nat→Prop}{a:Option Addr}{n c i:Nat}(h:(ll l).ok w F [.slice a n c])(hl:l.length=n)(hi:i<n):
 ∃b o a1 q1 c1,a=some ⟨b,o,none⟩∧F b∧b<w.heap.size∧w.cell? ⟨b,o+i,none⟩=some (.slice a1 q1 c1)∧(rI (l.getD i [])).ok w F [.slice a1 q1 c1]∧q1=(l.getD i []).length∧Rd w w.heap.size a1 q1 (bf (l.getD i [])):=by
 have hiL:i<l.length:=by omega
 have hR:(l.map rI)[i]? =some (rI (l.getD i [])):=by rw[List.getElem?_map,af,ag hiL];rfl
 obtain⟨b,o,ds,rfl,hF,hb,hok,hlen,hc⟩:=uN h (by decide) hi hR;obtain⟨u,rfl⟩:=List.length_eq_one_iff.1 hlen;obtain⟨a1,c1,rfl,h1,-⟩:=dB hok rfl;have:=hc 0 _ rfl;rw[Nat.mul_one,Nat.add_zero] at this;exact⟨b,o,a1,_,c1,rfl,hF,hb,this,hok,rfl,h1⟩
theorem zD(n N:Nat)(al:Option Addr)(cl:Nat)(F:Nat→Prop)(L:List (List Nat))(w:World)
 (hL:(ll L).ok w F [.slice al N cl])(hN:L.length=N)(hNb:N≤2000)(hn:n≤64)
 (hcn:∀x∈L,x.length≤1000∧(∀c∈x,c<n)∧NI x):
 Calls prog 212 #[.int .i64 n,.slice al N cl] w fun e w'=>e=.returned (.bool true)∧w'=w:=by
 have HL:=ae hL;have HN:=ae hN;have HCN:=ae hcn;clear hL hN hcn;go_enter func212,ntmps212;have hn1:¬(n:Int)<0:=by omega
 have hn2:¬64<(n:Int):=by omega
 go_wp2_with fail;clear hn1 hn2;go_loopw [17] (fun i wr=>∃k:Nat,k≤N∧i=.int .i64 k∧wr=w) (fun i _=>N-(intOf i).toNat)
 case atStart=>exact⟨0,by omega,rfl,rfl⟩
 case round=>
  obtain⟨k,hkN,rfl,hw⟩:=hrel;have HW:=ae hw;clear hw;by_cases hlt:k<N
  ·have hltI:(k:Int)<(N:Int):=by omega
   have hLk:L.getD k []∈L:=(by rw[af,ag (by rw[HN.out];exact hlt)];exact aU _);obtain⟨hq,hcx,hup⟩:=HCN.out _ hLk;obtain⟨b,o,a1,q1,c1,rfl,_,hb,he0,_,hq1,hRd⟩:=xQ HL.out HN.out hlt;have HRD2:=ae hRd;have HCX:=ae hcx;have HUP:=ae hup;have HQ1:=ae hq1;have hlq:q1≤1000:=(by omega);clear hLk hRd hcx hq hup;generalize L.getD k []=x at*;clear hq1;rw[←HW.out] at he0;go_wp2_with fail;clear he0;go_loopw [23] (fun i wq=>∃j:Nat,j≤q1∧i=.int .i64 j∧wq=w) (fun i _=>q1-(intOf i).toNat)
   case atStart=>exact⟨0,by omega,rfl,HW.out⟩
   case round=>
    obtain⟨j,hjq,rfl,hw⟩:=hrel;clear HW;have HW:=ae hw;clear hw;by_cases hlj:j<q1
    ·have hljI:(j:Int)<(q1:Int):=by omega
     have hjl:j<x.length:=(by rw[←HQ1.out];exact hlj);obtain⟨bc,oc,rfl,hbc,hcc⟩:=gJ HRD2.out hlj;have hcx:x.getD j 0<n:=HCX.out _ (by rw[getD_at hjl];exact aU hjl);have hcx1:¬((x.getD j 0:Nat):Int)<0:=(by omega);have hcx2:¬(n:Int)≤((x.getD j 0:Nat):Int):=(by omega);rw[←HW.out] at hcc;by_cases hj0:j=0
     ·subst hj0
      clear hjl;generalize x.getD 0 0=y at*;rw[Nat.add_zero] at hcc;go_wp2_with fail;go_roundw
      case rel=>(try((repeat apply Exists.intro);refine⟨?_,rfl⟩));exact⟨0+1,by omega,by go_num,HW.out⟩
      case measure=>simp[intOf];omega
     ·obtain⟨_,_,e,hbc',hcc'⟩:=gJ HRD2.out (show j-1<q1 by omega)
      injection e with e;injection e with e1 e2 _;subst e1 e2;rw[←HW.out] at hcc';have hu:=HUP.out (j-1) (by omega);rw[show j-1+1=j by omega] at hu;have huI:¬((x.getD j 0:Nat):Int)≤((x.getD (j-1) 0:Nat):Int):=(by omega);have hj0I:(0:Int)<(j:Int):=(by omega);have hj1:IntKind.i64.wrap ((j:Int)-1)=((j-1:Nat):Int):=(by rw[IntKind.wrap_i64];omega);have hj2:((j:Int)-1)=((j-1:Nat):Int):=(by omega);have hj3:((j-1:Nat):Int)<(q1:Int):=(by omega);have HJ:Hid (j+1≤q1∧q1-(j+1)<q1-j):=ae (by omega);clear hjl hu;generalize x.getD j 0=y at*;generalize hj1e:j-1=j1 at*;generalize x.getD j1 0=z at*;clear hj1e;go_wp2_with fail;go_roundw
      case rel=>(try((repeat apply Exists.intro);refine⟨?_,rfl⟩));exact⟨j+1,by omega,by go_num,HW.out⟩
      case measure=>simp[intOf];omega
    ·obtain rfl:j=q1:=by omega
     go_wp2_with fail;go_roundw
     case rel=>(try((repeat apply Exists.intro);refine⟨?_,rfl⟩));exact⟨k+1,by omega,by go_num,HW.out⟩
     case measure=>simp[intOf];omega
  ·obtain rfl:k=N:=by omega
   go_wp2_with fail;go_ret;exact⟨rfl,HW.out⟩
structure PlSt (w:World) (g gl gu n N:Nat) (sl:Value) (op us:List Bool):Prop where
 blk:Blk w g 281 #[sl,.slice (some ⟨gl,0,none⟩) n n,.slice (some ⟨gu,0,none⟩) N N]
 opb:Blk w gl 4 (bJ op).toArray
 usb:Blk w gu 4 (bJ us).toArray
 ol:op.length=n
 ul:us.length=N
 ne:gl≠gu
theorem PlSt.nes{w:World}{g gl gu n N:Nat}{sl:Value}{op us:List Bool}(h:PlSt w g gl gu n N sl op us):g≠gl∧g≠gu∧gl≠gu:=⟨Blk.ne h.blk h.opb (by decide),Blk.ne h.blk h.usb (by decide),h.ne⟩
theorem PlSt.new{w w':World}{g gl gu n N:Nat}{sl:Value}{op us:List Bool}(h:PlSt w g gl gu n N sl op us)(hb:Below w.heap.size w w'):PlSt w' g gl gu n N sl op us:=
 ⟨h.blk.below hb h.blk.lt,h.opb.below hb h.opb.lt,h.usb.below hb h.usb.lt,h.ol,h.ul,h.ne⟩
theorem PlSt.cellO{w:World}{g gl gu n N:Nat}{sl:Value}{op us:List Bool}(h:PlSt w g gl gu n N sl op us){c:Nat}(hc:c<n):w.cell? ⟨gl,c,none⟩=some (.bool (op.getD c false)):=by
 rw[h.opb.cell c,af];have:c<op.length:=by rw[h.ol];exact hc
 simp[bJ,this]
theorem PlSt.cellU{w:World}{g gl gu n N:Nat}{sl:Value}{op us:List Bool}(h:PlSt w g gl gu n N sl op us){c:Nat}(hc:c<N):w.cell? ⟨gu,c,none⟩=some (.bool (us.getD c false)):=by
 rw[h.usb.cell c,af];have:c<us.length:=by rw[h.ul];exact hc
 simp[bJ,this]
def fW(op:List Bool)(r:List Nat):List Nat:=r.filter fun c=>op.getD c false
theorem IG{op:List Bool}{r:List Nat}{k:Nat}(h:k<r.length):fW op (r.take (k+1))=if op.getD (r.getD k 0) false=true then fW op (r.take k)++[r.getD k 0] else fW op (r.take k):=by
 unfold fW;rw[aP h,List.filter_append,getD_at h];by_cases hx:op.getD r[k] false=true
 ·rw[if_pos hx,List.filter_cons,if_pos hx];rfl
 ·rw[if_neg hx,List.filter_cons,if_neg hx,List.filter_nil,List.append_nil]
theorem xR(g gl gu n N q c:Nat)(sl:Value)(op us:List Bool)(a:Option Addr)(r:List Nat)(w:World)(hP:PlSt w g gl gu n N sl op us)(hr:Rd w w.heap.size a q (bf r))(hq:q≤1000)(hcn:∀c∈r,c<n):
 Calls prog 279 #[.pointer (some ⟨g,0,none⟩),.slice a q c] w fun e w'=>e=.returned (.tuple #[.int .i64 ((fW op r).getLastD 0:Nat),.bool (decide ((fW op r).length=1))])∧w'=w:=by
 have hl:r.length=q:=by have:=hr.len;simpa[bf] using this
 have HP:=ae hP;have HR:=ae hr;have HL:=ae hl;have HCN:=ae hcn;clear hP hr hl hcn;go_enter func279,ntmps279;go_wp2_with fail;go_loopw [6,7,12] (fun u v i wr=>∃k:Nat,k≤q∧i=.int .i64 k∧u=.int .i64 ((fW op (r.take k)).getLastD 0:Nat)∧v=.int .i64 ((fW op (r.take k)).length:Nat)∧wr=w) (fun _ _ i _=>q-(intOf i).toNat)
 case atStart=>exact⟨0,by omega,rfl,rfl,rfl,rfl⟩
 case round=>
  obtain⟨k,hkq,rfl,rfl,rfl,hw⟩:=hrel;have HW:=ae hw;clear hw;have hul:(fW op (r.take k)).length≤1000:=aQ (List.length_filter_le _ _) (by rw[aI];omega);by_cases hlt:k<q
  ·have hltI:(k:Int)<(q:Int):=by omega
   have hkl:k<r.length:=(by rw[HL.out];exact hlt);obtain⟨bc,oc,rfl,hbc,hcc⟩:=gJ HR.out hlt;have hcx:r.getD k 0<n:=HCN.out _ (by rw[getD_at hkl];exact aU hkl);have hko:=HP.out.cellO hcx;have p1:=HP.out.blk.cell 1;have HU:=ae (IG (op:=op) hkl);have hcxI:((r.getD k 0:Nat):Int)<(n:Int):=(by omega);rw[←HW.out] at hcc hko p1;clear hkl;generalize r.getD k 0=y at*;cases hky:op.getD y false with
   | false=>
     rw[hky] at hko HU;rw[if_neg (by decide)] at HU;generalize fW op (r.take k)=z at*;have HU1:Hid ((fW op (r.take (k+1))).length=z.length):=ae (by rw[HU.out]);have HU2:Hid ((fW op (r.take (k+1))).getLastD 0=z.getLastD 0):=ae (by rw[HU.out]);generalize z.length=zl at*;generalize z.getLastD 0=zz at*;go_wp2_with fail;go_roundw
     case rel=>(try((repeat apply Exists.intro);refine⟨?_,rfl⟩));exact⟨k+1,by omega,by go_num,by rw[HU2.out],by rw[HU1.out],HW.out⟩
     case measure=>simp[intOf];omega
   | true=>
     rw[hky] at hko HU;rw[if_pos rfl] at HU;generalize fW op (r.take k)=z at*;have HU1:Hid ((fW op (r.take (k+1))).length=z.length+1):=ae (by rw[HU.out,aJ];rfl);have HU2:Hid ((fW op (r.take (k+1))).getLastD 0=y):=ae (by rw[HU.out];simp);generalize z.length=zl at*;generalize z.getLastD 0=zz at*;go_wp2_with fail;go_roundw
     case rel=>(try((repeat apply Exists.intro);refine⟨?_,rfl⟩));exact⟨k+1,by omega,by go_num,by rw[HU2.out],by rw[HU1.out];go_num,HW.out⟩
     case measure=>simp[intOf];omega
  ·obtain rfl:k=q:=by omega
   rw[aO (by rw[HL.out];exact ah _)] at hul ⊢;by_cases h1:(fW op r).length=1
   ·rw[h1]
    have H1:=ae h1;clear h1 hul;go_wp2_with fail;go_ret2;exact⟨by rw[decide_eq_true H1.out];rfl,HW.out⟩
   ·have h1I:¬(((fW op r).length:Nat):Int)=1:=by omega
    generalize hz:(fW op r).length=z at*;have HZ:=ae hz;have H1:=ae h1;have h1B:((z:Int) == 1)=false:=beq_eq_false_iff_ne.2 h1I;clear h1 hz;go_wp2_with fail;go_ret2;exact⟨by rw[HZ.out,decide_eq_false H1.out];rfl,HW.out⟩
theorem BU(g gl gu n N:Nat)(al:Option Addr)(cl:Nat)(F:Nat→Prop)(op us:List Bool)(L:List (List Nat))(w:World)(hP:PlSt w g gl gu n N (.slice al N cl) op us)
 (hL:(ll L).ok w F [.slice al N cl])(hN:L.length=N)(hNb:N≤2000)(hcn:∀x∈L,x.length≤1000∧(∀c∈x,c<n)):
 Calls prog 214 #[.pointer (some ⟨g,0,none⟩)] w fun e w'=>((∃r c:Nat,e=.returned (.tuple #[.agg #[.int .i64 r,.int .i64 c],.bool true])∧r<N∧us.getD r false=false∧fW op (L.getD r [])=[c])∨
  (e=.returned (.tuple #[.agg #[.int .i64 0,.int .i64 0],.bool false])∧∀r,r<N→us.getD r false=false→(fW op (L.getD r [])).length≠1))∧Below w.heap.size w w':=by
 have hba:=(az w.heap.size w).alloc (ah _) (.cells #[.int .i64 0,.int .i64 0] 216);have HP:=ae (hP.new hba);have HL:=ae ((ll L).new hL hba);have HK:=ae (Blk.new w 216 #[.int .i64 0,.int .i64 0]);have HB:=ae hba;have HN:=ae hN;have HCN:=ae hcn;have p0:=(hP.new hba).blk.cell 0;clear hba hP hL hN hcn;go_enter func214,ntmps214;go_wp2_with fail;clear p0;generalize w.alloc (.cells #[.int .i64 0,.int .i64 0] 216)=w0 at*;go_loopw [13] (fun i wr=>∃k:Nat,k≤N∧i=.int .i64 k∧Hid (∀r,r<k→us.getD r false=false→(fW op (L.getD r [])).length≠1)∧wr=w0) (fun i _=>N-(intOf i).toNat)
 case atStart=>exact⟨0,by omega,rfl,ae (fun r h=>absurd h (Nat.not_lt_zero r)),rfl⟩
 case round=>
  obtain⟨k,hkN,rfl,HI,hw⟩:=hrel;have HW:=ae hw;clear hw;by_cases hlt:k<N
  ·have hltI:(k:Int)<(N:Int):=by omega
   have hLk:L.getD k []∈L:=(by rw[af,ag (by rw[HN.out];exact hlt)];exact aU _);obtain⟨hq,hcx⟩:=HCN.out _ hLk;obtain⟨b,o,a1,q1,c1,rfl,_,hb,he0,_,hq1,hRd⟩:=xQ HL.out HN.out hlt;have hku:=HP.out.cellU hlt;have p2:=HP.out.blk.cell 2;have CS:=ae (xR g gl gu n N q1 c1 _ op us a1 _ w0 HP.out hRd (by omega) hcx);rw[←HW.out] at he0 hku p2 CS;clear hLk hRd hcx hq;generalize hx:L.getD k []=x at*;have HX:=ae hx;clear hq1 hx;cases hky:us.getD k false with
   | true=>
     rw[hky] at hku;have HKY:=ae hky;clear hky;go_wp2_with fail;go_roundw
     case rel=>
      have hn:Hid (∀r,r<k+1→us.getD r false=false→(fW op (L.getD r [])).length≠1):=ae fun r hr hu=>by
       rcases Nat.lt_succ_iff_lt_or_eq.1 hr with h | rfl
       ·exact HI.out r h hu
       ·rw[HKY.out] at hu;exact Bool.noConfusion hu
      first | exact⟨k+1,by omega,by go_num,hn,HW.out⟩ | ((repeat apply Exists.intro);exact⟨⟨k+1,by omega,by go_num,hn,HW.out⟩,rfl⟩)
     case measure=>simp[intOf];omega
   | false=>
     rw[hky] at hku;have HKY:=ae hky;clear hky;by_cases h1:(fW op x).length=1
     ·rw[decide_eq_true h1] at CS
      have H1:=ae h1;clear h1;obtain⟨c,hc⟩:=List.length_eq_one_iff.1 H1.out;have e:(fW op x).getLastD 0=c:=(by rw[hc];rfl);rw[e] at CS;have HC:=ae hc;clear hc e;go_wp2_with fail;refine CS.out.mono ?_;rintro e w1 ⟨rfl,hw1⟩;have HKr:Hid (Blk w1 w.heap.size 216 #[.int .i64 0,.int .i64 0]):=ae (by rw[hw1,HW.out];exact HK.out);have HBr:Hid (Below w.heap.size w w1):=ae (by rw[hw1,HW.out];exact HB.out);clear hw1 he0 hku p2 CS
      go_wp2_with (change wpList _ _ _ (Oper.mk none (Op.store 216 _ _) _ _ _ _ :: _) _ _;refine wpList_store_row rfl 216 _ _ rfl w.heap.size #[.int .i64 k,.int .i64 c] rfl rfl 216 _ HKr.out (by kernel_rfl) rfl (by kernel_rfl) ?_)
      have HR:=ae (HKr.out.row #[.int .i64 k,.int .i64 c]);have HB6:=ae (bR HBr.out (ah _) #[.int .i64 k,.int .i64 c]);clear HKr HBr;generalize w1.setRow w.heap.size #[.int .i64 k,.int .i64 c]=w2 at*;go_wp2_with fail
      (try simp only[Exit.inBlock,Exit.then])
      refine bodyPost_ret (dV rfl _ _ w.heap.size 216 #[.int .i64 k,.int .i64 c] (0,0) _ rfl HR.out underlying216 rfl (by kernel_rfl)) rfl ?_;exact⟨.inl ⟨k,c,rfl,hlt,HKY.out,by rw[HX.out];exact HC.out⟩,HB6.out⟩
     ·rw[decide_eq_false h1] at CS
      have H1:=ae h1;clear h1;go_wp2_with fail;refine CS.out.mono ?_;rintro e w1 ⟨rfl,hw1⟩;have HW1:Hid (w1=w0):=ae (hw1.trans HW.out);clear hw1;go_wp2_with fail;go_roundw
      case rel=>
       have hn:Hid (∀r,r<k+1→us.getD r false=false→(fW op (L.getD r [])).length≠1):=ae fun r hr hu=>by
        rcases Nat.lt_succ_iff_lt_or_eq.1 hr with h | rfl
        ·exact HI.out r h hu
        ·rw[HX.out];exact H1.out
       first | exact⟨k+1,by omega,by go_num,hn,HW1.out⟩ | ((repeat apply Exists.intro);exact⟨⟨k+1,by omega,by go_num,hn,HW1.out⟩,rfl⟩)
      case measure=>simp[intOf];omega
  ·obtain rfl:k=N:=by omega
   have HKr:Hid (Blk wr w.heap.size 216 #[.int .i64 0,.int .i64 0]):=ae (by rw[HW.out];exact HK.out);have HBr:Hid (Below w.heap.size w wr):=ae (by rw[HW.out];exact HB.out);clear HW
   go_wp2_with (change wpList _ _ _ (Oper.mk none (Op.store 216 _ _) _ _ _ _ :: _) _ _;refine wpList_store_row rfl 216 _ _ rfl w.heap.size #[.int .i64 0,.int .i64 0] rfl rfl 216 _ HKr.out (by kernel_rfl) rfl (by kernel_rfl) ?_)
   have HR:=ae (HKr.out.row #[.int .i64 0,.int .i64 0]);have HB6:=ae (bR HBr.out (ah _) #[.int .i64 0,.int .i64 0]);clear HKr HBr;generalize wr.setRow w.heap.size #[.int .i64 0,.int .i64 0]=w2 at*;go_wp2_with fail
   (try simp only[Exit.inBlock,Exit.then])
   refine bodyPost_ret (dV rfl _ _ w.heap.size 216 #[.int .i64 0,.int .i64 0] (0,0) _ rfl HR.out underlying216 rfl (by kernel_rfl)) rfl ?_;exact⟨.inr ⟨rfl,HI.out⟩,HB6.out⟩
def fJ(zs:List Int):List Value:=zs.map (Value.int .i64)
theorem uy{w:World}{g:Nat}{t:TypeId}{zs:List Int}(h:Blk w g t (fJ zs).toArray){k:Nat}(hk:k<zs.length):w.cell? ⟨g,k,none⟩=some (.int .i64 (zs.getD k 0)):=by
 rw[h.cell k,af];simp[fJ,hk]
theorem BV{w:World}{g:Nat}{t:TypeId}{zs:List Int}(h:Blk w g t (fJ zs).toArray)(k:Nat)(z:Int):Blk (w.setCell ⟨g,k,none⟩ (.int .i64 z)) g t (fJ (zs.set k z)).toArray:=by
 have e:(fJ (zs.set k z)).toArray=(fJ zs).toArray.setIfInBounds k (.int .i64 z):=by unfold fJ;simp
 rw[e];exact h.set k _
theorem Lg{n:Nat}(hn:n≤1000000)(w:World):(Instr.makeSlice 24 (.int .i64 (n:Int)) (.int .i64 (n:Int))).run prog w=.ok (.slice (some ⟨w.heap.size,0,none⟩) n n) (w.alloc (.cells (fJ (List.replicate n 0)).toArray 3)):=by
 obtain⟨i0,hi,hz0,hz1,hz2⟩:=info_parts dK;have h:=run_make (P:=prog) w 24 3 i0 (.int .i64 0) underlying24 hi hz0 .i64 .i64 (n:Int) (n:Int) (by omega) (by omega) (by rw[hz2];omega) (by omega);rw[hz1,Nat.mul_one,Int.toNat_natCast] at h;have e:(fJ (List.replicate n 0)).toArray=madeCells #[Value.int .i64 0] n:=by rw[um];unfold fJ;simp
 rw[e];exact h
theorem BX(g gl gu n N:Nat)(al:Option Addr)(cl:Nat)(F:Nat→Prop)(op us:List Bool)(L:List (List Nat))(w:World)(hP:PlSt w g gl gu n N (.slice al N cl) op us)(hn:n≤1000)
 (hL:(ll L).ok w F [.slice al N cl])(hN:L.length=N)(hNb:N≤2000)(hcn:∀x∈L,x.length≤1000∧(∀c∈x,c<n))(hop:∃c,c<n∧op.getD c false=true):
 Calls prog 215 #[.pointer (some ⟨g,0,none⟩)] w fun e w'=>(∃c:Nat,e=.returned (.int .i64 c)∧c<n∧op.getD c false=true)∧Below w.heap.size w w':=by
 have HP:=ae hP;have HL:=ae hL;have HN:=ae hN;have HCN:=ae hcn;have HOP:=ae hop;have hmk:∀w:World,(Instr.makeSlice 24 (.int .i64 (n:Int)) (.int .i64 (n:Int))).run prog w=.ok (.slice (some ⟨w.heap.size,0,none⟩) n n) (w.alloc (.cells (fJ (List.replicate n 0)).toArray 3)):=fun w=>Lg (by omega) w;have hba:=(az w.heap.size w).alloc (ah _) (.cells (fJ (List.replicate n 0)).toArray 3);have HQ0:Hid (∃zs:List Int,zs.length=n∧Blk (w.alloc (.cells (fJ (List.replicate n 0)).toArray 3)) w.heap.size 3 (fJ zs).toArray):=ae ⟨_,aN,Blk.new w _ _⟩;have HB0:=ae hba;have p1:=hP.blk.cell 1;have q0:=(hP.new hba).blk.cell 0;clear hba hP hL hN hcn hop;go_enter func215,ntmps215;generalize hz:(fJ (List.replicate n 0)).toArray=cz at*
 go_wp2_with (simp only[hmk])
 clear p1 q0 hz hmk;generalize w.alloc (.cells cz 3)=w0 at*;go_loopw [22] (fun i wr=>∃k:Nat,k≤N∧i=.int .i64 k∧Hid (∃zs:List Int,zs.length=n∧Blk wr w.heap.size 3 (fJ zs).toArray)∧Hid (Below w.heap.size w wr)) (fun i _=>N-(intOf i).toNat)
 case atStart=>exact⟨0,by omega,rfl,HQ0,HB0⟩
 case round=>
  clear HQ0 HB0;obtain⟨k,hkN,rfl,HQ,HB⟩:=hrel;have HP1:=ae (HP.out.new HB.out);by_cases hlt:k<N
  ·have hltI:(k:Int)<(N:Int):=by omega
   have hLk:L.getD k []∈L:=(by rw[af,ag (by rw[HN.out];exact hlt)];exact aU _);obtain⟨hq,hcx⟩:=HCN.out _ hLk;obtain⟨b,o,a1,q1,c1,rfl,_,hb,he0,_,hq1,hRd⟩:=xQ HL.out HN.out hlt;have HRD:=ae hRd;have HCX:=ae hcx;have HQ1:=ae hq1;have hlq:q1≤1000:=(by omega);have he1:=(HB.out.cell (p:=⟨b,o+k,none⟩) hb).trans he0;have p0:=HP1.out.blk.cell 0;clear hLk hRd hcx hq he0;generalize L.getD k []=x at*;clear hq1 HP1;go_wp2_with fail;clear he1 p0;go_loopw [29] (fun i wq=>∃j:Nat,j≤q1∧i=.int .i64 j∧Hid (∃zs:List Int,zs.length=n∧Blk wq w.heap.size 3 (fJ zs).toArray)∧Hid (Below w.heap.size w wq)) (fun i _=>q1-(intOf i).toNat)
   case atStart=>exact⟨0,by omega,rfl,HQ,HB⟩
   case round=>
    clear HQ HB;obtain⟨j,hjq,rfl,HQ,HB⟩:=hrel;have HP1:=ae (HP.out.new HB.out);by_cases hlj:j<q1
    ·have hljI:(j:Int)<(q1:Int):=by omega
     have hjl:j<x.length:=(by rw[←HQ1.out];exact hlj);obtain⟨bc,oc,rfl,hbc,hcc⟩:=gJ HRD.out hlj;have hcx:x.getD j 0<n:=HCX.out _ (by rw[getD_at hjl];exact aU hjl);have hcc1:=(HB.out.cell (p:=⟨bc,oc+j,none⟩) hbc).trans hcc;have hku:=HP1.out.cellU hlt;have p2:=HP1.out.blk.cell 2;have hcxI:((x.getD j 0:Nat):Int)<(n:Int):=(by omega);clear hjl hcc;generalize x.getD j 0=y at*;cases hky:us.getD k false with
     | true=>
       rw[hky] at hku;go_wp2_with fail;go_roundw
       case rel=>(try((repeat apply Exists.intro);refine⟨?_,rfl⟩));exact⟨j+1,by omega,by go_num,HQ,HB⟩
       case measure=>simp[intOf];omega
     | false=>
       rw[hky] at hku;obtain⟨zs,hzl,hZ⟩:=HQ.out;have hc:=uy hZ (k:=y) (by omega);have hf:=hZ.frozen y;have HZn:=ae fun z=>BV hZ y z;have HZl:Hid (∀z,(zs.set y z).length=n):=ae fun z=>(by rw[List.length_set];exact hzl);have HBn:Hid (∀u,Below w.heap.size w (wr.setCell ⟨w.heap.size,y,none⟩ u)):=ae fun u=>HB.out.setCell (p:=⟨w.heap.size,y,none⟩) (ah _) u;clear hzl hZ HQ HP1;go_wp2_with fail;go_roundw
       case rel=>(try((repeat apply Exists.intro);refine⟨?_,rfl⟩));exact⟨j+1,by omega,by go_num,ae ⟨_,HZl.out _,HZn.out _⟩,ae (HBn.out _)⟩
       case measure=>simp[intOf];omega
    ·obtain rfl:j=q1:=by omega
     go_wp2_with fail;go_roundw
     case rel=>(try((repeat apply Exists.intro);refine⟨?_,rfl⟩));exact⟨k+1,by omega,by go_num,HQ,HB⟩
     case measure=>simp[intOf];omega
  ·obtain rfl:k=N:=by omega
   have p1:=HP1.out.blk.cell 1;obtain⟨zs,hzl,hZ⟩:=HQ.out;have HZL:=ae hzl;have HZ:=ae hZ;clear HQ hzl hZ;go_wp2_with fail;clear p1;go_loopw [8,54] (fun u i wq=>∃j:Nat,j≤n∧i=.int .i64 j∧Hid ((u=.int .i64 (-1)∧∀c,c<j→op.getD c false=false)∨∃c:Nat,u=.int .i64 c∧c<n∧op.getD c false=true)∧Hid (Below wr.heap.size wr wq)) (fun _ i _=>n-(intOf i).toNat)
   case atStart=>exact⟨0,by omega,rfl,ae (.inl ⟨rfl,fun c h=>absurd h (Nat.not_lt_zero c)⟩),ae (az _ _)⟩
   case round=>
    obtain⟨j,hjn,rfl,HU,HBq⟩:=hrel;by_cases hlj:j<n
    ·have hljI:(j:Int)<(n:Int):=by omega
     have hko:=(HP1.out.new HBq.out).cellO hlj;have hzc:∀c,c<n→∃z,(‹World›:World).cell? ⟨w.heap.size,c,none⟩=some (.int .i64 z):=fun c hc=>⟨_,(HBq.out.cell (p:=⟨w.heap.size,c,none⟩) HZ.out.lt).trans (uy HZ.out (k:=c) (by rw[HZL.out];exact hc))⟩;obtain⟨z1,hc1⟩:=hzc j hlj;have HN2:op.getD j false=true→Hid ((Value.int .i64 j=.int .i64 (-1)∧∀c,c<j+1→op.getD c false=false)∨∃c:Nat,Value.int .i64 j=.int .i64 c∧c<n∧op.getD c false=true):=fun h=>ae (.inr ⟨j,rfl,hlj,h⟩);cases hky:op.getD j false with
     | false=>
       rw[hky] at hko;have HKY:=ae hky;clear hky HN2 hzc
       have HN1:Hid ((_=Value.int .i64 (-1)∧∀c,c<j+1→op.getD c false=false)∨∃c:Nat,_=Value.int .i64 c∧c<n∧op.getD c false=true):=ae (by
        rcases HU.out with⟨h1,h2⟩ | h
        ·exact .inl ⟨h1,fun c hc=>by
          rcases Nat.lt_succ_iff_lt_or_eq.1 hc with h | rfl
          ·exact h2 c h
          ·exact HKY.out⟩
        ·exact .inr h)
       go_wp2_with fail
       go_quiet (fail)
       go_wp2_with fail;go_roundw
       case rel=>(try((repeat apply Exists.intro);refine⟨?_,rfl⟩));exact⟨j+1,by omega,by go_num,HN1,ae (below_drewN HBq.out _)⟩
       case measure=>simp[intOf];omega
     | true=>
       rw[hky] at hko;have HN3:=HN2 hky;have HKY:=ae hky;clear HN2 hky;rcases HU.out with⟨rfl,-⟩ | ⟨c,rfl,hcn,hcop⟩
       ·clear hzc
        go_wp2_with fail
        go_quiet (fail)
        go_wp2_with fail;go_roundw
        case rel=>(try((repeat apply Exists.intro);refine⟨?_,rfl⟩));exact⟨j+1,by omega,by go_num,HN3,ae (below_drewN HBq.out _)⟩
        case measure=>simp[intOf];omega
       ·obtain⟨z2,hc2⟩:=hzc c hcn
        have hcI:(c:Int)<(n:Int):=(by omega);have hcI0:¬(c:Int)<0:=(by omega);have HN4:Hid ((Value.int .i64 c=.int .i64 (-1)∧∀c,c<j+1→op.getD c false=false)∨∃d:Nat,Value.int .i64 c=.int .i64 d∧d<n∧op.getD d false=true):=ae (.inr ⟨c,rfl,hcn,hcop⟩);clear hzc hcop HU;by_cases hzz:z2<z1
        ·go_wp2_with fail
         go_quiet (fail)
         go_wp2_with fail;go_roundw
         case rel=>(try((repeat apply Exists.intro);refine⟨?_,rfl⟩));exact⟨j+1,by omega,by go_num,HN3,ae (below_drewN HBq.out _)⟩
         case measure=>simp[intOf];omega
        ·go_wp2_with fail
         go_quiet (fail)
         go_wp2_with fail;go_roundw
         case rel=>(try((repeat apply Exists.intro);refine⟨?_,rfl⟩));exact⟨j+1,by omega,by go_num,HN4,ae (below_drewN HBq.out _)⟩
         case measure=>simp[intOf];omega
    ·obtain rfl:j=n:=by omega
     obtain⟨c,rfl,hcn,hcop⟩:∃c:Nat,_=Value.int .i64 c∧c<j∧op.getD c false=true:=by
      rcases HU.out with⟨h1,h2⟩ | h
      ·obtain⟨c,h3,h4⟩:=HOP.out
       rw[h2 c h3] at h4;exact Bool.noConfusion h4
      ·exact h
     clear HU;go_wp2_with fail;go_ret;exact⟨⟨c,rfl,hcn,hcop⟩,HB.out.trans (HBq.out.mono HB.out.size)⟩
structure PlInv (n:Nat) (L:List (List Nat)) (op us:List Bool) (St:List (Nat×Nat)) (De:List Nat):Prop where
 ol:op.length=n
 ul:us.length=L.length
 step:∀(k r c:Nat),St[k]? =some (r,c)→r<L.length∧c∈L.getD r []∧∀d∈L.getD r [],d≠c→d∈De∨∃k' r',k'<k∧St[k']? =some (r',d)
 used:∀r,r<L.length→(us.getD r false=true↔r∈St.map Prod.fst)
 opn:∀c,c<n→(op.getD c false=false↔c∈St.map Prod.snd∨c∈De)
 lt:∀c,c∈St.map Prod.snd∨c∈De→c<n
 rows:(St.map Prod.fst).Nodup
 cols:(St.map Prod.snd++De).Nodup
 nodead:∀c∈De,∀r,r<L.length→L.getD r []≠[c]
theorem tN{n c:Nat}:(List.replicate n false).getD c false=false:=by
 rw[af,List.getElem?_replicate];split <;> rfl
theorem vK{n c:Nat}(h:c<n):(List.replicate n true).getD c false=true:=by
 rw[af,List.getElem?_replicate,if_pos h];rfl
theorem PlInv.begin(n:Nat)(L:List (List Nat)):PlInv n L (List.replicate n true) (List.replicate L.length false) [] [] where
 ol:=aN
 ul:=aN
 step:=fun k r c h=>by simp at h
 used:=fun r hr=>by rw[tN];simp
 opn:=fun c hc=>by rw[vK hc];simp
 lt:=fun c h=>by simp at h
 rows:=by simp
 cols:=by simp
 nodead:=fun c h=>by simp at h
theorem mq{l:List Bool}{i j:Nat}{b:Bool}(hi:i<l.length):(l.set i b).getD j false=if i=j then b else l.getD j false:=by
 rw[af,List.getElem?_set,af];split
 ·rename_i h;subst h;simp[]
 ·rfl
theorem PlInv.told{n:Nat}{L:List (List Nat)}{op us:List Bool}{St:List (Nat×Nat)}{De:List Nat}(h:PlInv n L op us St De)(hL:∀x∈L,∀c∈x,c<n){r c:Nat}(hr:r<L.length)(hu:us.getD r false=false)(hc:fW op (L.getD r [])=[c]):
 PlInv n L (op.set c false) (us.set r true) (St++[(r,c)]) De:=by
 have hrm:L.getD r []∈L:=by rw[af,ag hr];exact aU hr
 have hcm:c∈fW op (L.getD r []):=by rw[hc];simp
 obtain⟨hcr,hco⟩:=List.mem_filter.1 hcm;have hcn:c<n:=hL _ hrm c hcr;have hnot:¬(c∈St.map Prod.snd∨c∈De):=fun e=>by rw[(h.opn c hcn).2 e] at hco;exact Bool.noConfusion hco
 have hrn:r∉St.map Prod.fst:=fun e=>by rw[(h.used r hr).2 e] at hu;exact Bool.noConfusion hu
 refine⟨by rw[List.length_set];exact h.ol,by rw[List.length_set];exact h.ul,?_,?_,?_,?_,?_,?_,h.nodead⟩
 ·intro k r' c' hk
  rcases Nat.lt_or_ge k St.length with hlt | hge
  ·rw[List.getElem?_append_left hlt] at hk
   obtain⟨h1,h2,h3⟩:=h.step k r' c' hk;refine⟨h1,h2,fun d hd hdc=> ?_⟩;rcases h3 d hd hdc with h4 | ⟨k',r'',h4,h5⟩
   ·exact .inl h4
   ·exact .inr ⟨k',r'',h4,by rw[List.getElem?_append_left (by omega)];exact h5⟩
  ·rw[List.getElem?_append_right hge] at hk
   have hk0:k-St.length=0:=by
    rcases Nat.eq_zero_or_pos (k-St.length) with h | h
    ·exact h
    ·rw[List.getElem?_eq_none (by simp;omega)] at hk;cases hk
   rw[hk0] at hk;injection hk with hk;injection hk with e1 e2;subst e1 e2;refine⟨hr,hcr,fun d hd hdc=> ?_⟩;have hdn:=hL _ hrm d hd
   have hdo:op.getD d false=false:=by
    cases ho:op.getD d false with
    | false=>rfl
    | true=>
      have:d∈fW op (L.getD r []):=List.mem_filter.2 ⟨hd,ho⟩;rw[hc] at this;exact absurd (List.mem_singleton.1 this) hdc
   rcases(h.opn d hdn).1 hdo with h4 | h4
   ·obtain⟨⟨r',d'⟩,h5,e⟩:=List.mem_map.1 h4
    obtain⟨k',hk',h6⟩:=List.getElem_of_mem h5;have:d'=d:=e;subst this;exact .inr ⟨k',r',by omega,by rw[List.getElem?_append_left hk',ag hk',h6]⟩
   ·exact .inl h4
 ·intro r' hr'
  rw[mq (by rw[h.ul];exact hr),aW,List.mem_append];split
  ·rename_i e;subst e;simp
  ·rename_i e
   rw[h.used r' hr'];constructor
   ·exact .inl
   ·rintro(h1 | h1)
    ·exact h1
    ·simp at h1;exact absurd h1.symm e
 ·intro c' hc'
  rw[mq (by rw[h.ol];exact hcn),aW,List.mem_append];split
  ·rename_i e;subst e;simp
  ·rename_i e
   rw[h.opn c' hc'];constructor
   ·rintro(h1 | h1)
    ·exact .inl (.inl h1)
    ·exact .inr h1
   ·rintro((h1 | h1) | h1)
    ·exact .inl h1
    ·simp at h1;exact absurd h1.symm e
    ·exact .inr h1
 ·intro c' hc'
  rw[aW,List.mem_append] at hc';rcases hc' with(h1 | h1) | h1
  ·exact h.lt c' (.inl h1)
  ·simp at h1;subst h1;exact hcn
  ·exact h.lt c' (.inr h1)
 ·rw[aW,List.nodup_append]
  refine⟨h.rows,by simp,fun a ha b hb e=> ?_⟩;simp at hb;subst hb e;exact hrn ha
 ·have h1:=h.cols
  rw[List.nodup_append] at h1;rw[aW,List.append_assoc,List.nodup_append];refine⟨h1.1,?_,fun a ha b hb e=> ?_⟩
  ·show(c :: De).Nodup
   exact List.nodup_cons.2 ⟨fun e=>hnot (.inr e),h1.2.1⟩
  ·subst e
   rcases List.mem_append.1 hb with h2 | h2
   ·simp at h2;subst h2;exact hnot (.inl ha)
   ·exact h1.2.2 a ha a h2 rfl
theorem PlInv.dead{n:Nat}{L:List (List Nat)}{op us:List Bool}{St:List (Nat×Nat)}{De:List Nat}(h:PlInv n L op us St De)(hno:∀r,r<L.length→us.getD r false=false→(fW op (L.getD r [])).length≠1){c:Nat}(hcn:c<n)(hco:op.getD c false=true):
 PlInv n L (op.set c false) us St (De++[c]):=by
 have hnot:¬(c∈St.map Prod.snd∨c∈De):=fun e=>by rw[(h.opn c hcn).2 e] at hco;exact Bool.noConfusion hco
 refine⟨by rw[List.length_set];exact h.ol,h.ul,?_,h.used,?_,?_,h.rows,?_,?_⟩
 ·intro k r' c' hk
  obtain⟨h1,h2,h3⟩:=h.step k r' c' hk;refine⟨h1,h2,fun d hd hdc=> ?_⟩;rcases h3 d hd hdc with h4 | h4
  ·exact .inl (List.mem_append_left _ h4)
  ·exact .inr h4
 ·intro c' hc'
  rw[mq (by rw[h.ol];exact hcn),List.mem_append];split
  ·rename_i e;subst e;simp
  ·rename_i e
   rw[h.opn c' hc'];constructor
   ·rintro(h1 | h1)
    ·exact .inl h1
    ·exact .inr (.inl h1)
   ·rintro(h1 | h1 | h1)
    ·exact .inl h1
    ·exact .inr h1
    ·simp at h1;exact absurd h1.symm e
 ·intro c' hc'
  rw[List.mem_append] at hc';rcases hc' with h1 | h1 | h1
  ·exact h.lt c' (.inl h1)
  ·exact h.lt c' (.inr h1)
  ·simp at h1;subst h1;exact hcn
 ·have h1:=h.cols
  rw[←List.append_assoc,List.nodup_append];refine⟨h1,by simp,fun a ha b hb e=> ?_⟩;simp at hb;subst hb e;exact hnot (List.mem_append.1 ha)
 ·intro c' hc' r hr e
  rcases List.mem_append.1 hc' with h1 | h1
  ·exact h.nodead c' h1 r hr e
  ·simp at h1
   subst h1;cases hu:us.getD r false with
   | false=>
     apply hno r hr hu;rw[e];unfold fW;rw[List.filter_cons,if_pos hco,List.filter_nil];rfl
   | true=>
     obtain⟨⟨r',d⟩,h5,e5⟩:=List.mem_map.1 ((h.used r hr).1 hu);obtain⟨k,hk,h6⟩:=List.getElem_of_mem h5;have:r'=r:=e5;subst this;obtain⟨_,h7,_⟩:=h.step k r' d (by rw[ag hk,h6]);rw[e] at h7;have:=List.mem_singleton.1 h7;subst this;exact hnot (.inl (List.mem_map.2 ⟨_,h5,rfl⟩))
theorem PlInv.done{n:Nat}{L:List (List Nat)}{op us:List Bool}{St:List (Nat×Nat)}{De:List Nat}(h:PlInv n L op us St De)(hno:∀c,c<n→op.getD c false=false):
 oK n L St De ((List.range L.length).filter fun i=> !us.getD i false) where
 step:=h.step
 rows:=h.rows
 cols:=h.cols
 all:=fun c=>⟨fun hc=>(h.opn c hc).1 (hno c hc),h.lt c⟩
 left:=by
  refine List.filter_congr fun i hi=> ?_;have hi':=List.mem_range.1 hi;have:=h.used i hi';cases hu:us.getD i false with
  | true=>
    have h1:=this.1 hu;simp[h1]
  | false=>
    have h1:i∉St.map Prod.fst:=fun e=>(by rw[this.2 e] at hu;exact Bool.noConfusion hu);simp;simpa using h1
 nodead:=h.nodead
theorem iW{l:List Nat}{n:Nat}(h:l.Nodup)(hl:∀x∈l,x<n):l.length≤n:=by
 induction n generalizing l with
 | zero=>
   cases l with
   | nil=>simp
   | cons x l=>exact absurd (hl x (by simp)) (Nat.not_lt_zero x)
 | succ n ih=>
   by_cases hn:n∈l
   ·have h1:=ih (h.erase n) fun x hx=>by
     have hx2:=h.mem_erase_iff.1 hx;have:=hl x hx2.2;have:=hx2.1;omega
    rw[List.length_erase_of_mem hn] at h1;omega
   ·have h1:=ih h fun x hx=>by
     have:=hl x hx;have:x≠n:=fun e=>hn (e▸hx);omega
    omega
def rG(op:List Bool):Nat:=(op.filter fun b=>b).length
theorem zw{op:List Bool}{c:Nat}(h:op.getD c false=true):rG (op.set c false)<rG op:=by
 induction op generalizing c with
 | nil=>simp at h
 | cons b op ih=>
   cases c with
   | zero=>
     have hb:b=true:=h;subst hb;simp[rG]
   | succ c=>
     have:=ih (c:=c) (by simpa using h);unfold rG at this ⊢;rw[List.set_cons_succ,List.filter_cons,List.filter_cons];cases b <;> simp_all
theorem PlInv.count{n:Nat}{L:List (List Nat)}{op us:List Bool}{St:List (Nat×Nat)}{De:List Nat}(h:PlInv n L op us St De):St.length≤L.length∧De.length≤n:=by
 constructor
 ·have h1:(St.map Prod.fst).length≤L.length:=iW h.rows fun r hr=>by
   obtain⟨⟨r',d⟩,h5,e5⟩:=List.mem_map.1 hr;obtain⟨k,hk,h6⟩:=List.getElem_of_mem h5;have:r'=r:=e5;subst this;exact(h.step k r' d (by rw[ag hk,h6])).1
  simpa using h1
 ·exact iW (List.nodup_append.1 h.cols).2.1 fun r hr=>h.lt r (.inr hr)
theorem pI(n c:Nat)(a:Option Addr)(op:List Bool)(w:World)(hr:Rd w w.heap.size a n (bJ op))(hn:n≤1000000):
 Calls prog 278 #[.slice a n c,.bool true] w fun e w'=>∃z:Int,e=.returned (.int .i64 z)∧((0≤z∧∃c,c<n∧op.getD c false=true)∨(z<0∧∀c,c<n→op.getD c false=false))∧w'=w:=by
 have HR:=ae hr;clear hr;go_enter func278,ntmps278;go_wp2_with fail;go_loopw [8] (fun i wr=>∃k:Nat,k≤n∧i=.int .i64 k∧Hid (∀c,c<k→op.getD c false=false)∧wr=w) (fun i _=>n-(intOf i).toNat)
 case atStart=>exact⟨0,by omega,rfl,ae fun c h=>absurd h (Nat.not_lt_zero c),rfl⟩
 case round=>
  obtain⟨k,hkn,rfl,HI,hw⟩:=hrel;have HW:=ae hw;clear hw;by_cases hlt:k<n
  ·have hltI:(k:Int)<(n:Int):=by omega
   obtain⟨bc,oc,rfl,hbc,hcc⟩:=sj HR.out hlt;rw[←HW.out] at hcc;cases hky:op.getD k false with
   | true=>
     rw[hky] at hcc;have HKY:=ae hky;clear hky;go_wp2_with fail;go_ret;exact⟨_,rfl,.inl ⟨by omega,k,hlt,HKY.out⟩,HW.out⟩
   | false=>
     rw[hky] at hcc
     have HN1:Hid (∀c,c<k+1→op.getD c false=false):=ae fun c hc=>by
      rcases Nat.lt_succ_iff_lt_or_eq.1 hc with h | rfl
      ·exact HI.out c h
      ·exact hky
     clear hky;go_wp2_with fail;go_roundw
     case rel=>(try((repeat apply Exists.intro);refine⟨?_,rfl⟩));exact⟨k+1,by omega,by go_num,HN1,HW.out⟩
     case measure=>simp[intOf];omega
  ·obtain rfl:k=n:=by omega
   go_wp2_with fail;go_ret;exact⟨-1,rfl,.inr ⟨by omega,HI.out⟩,HW.out⟩
theorem lN(n c:Nat)(a:Option Addr)(op:List Bool)(w:World)(hr:Rd w w.heap.size a n (bJ op))(hn:n≤1000000):
 Calls prog 213 #[.slice a n c,.bool true] w fun e w'=>∃b,e=.returned (.bool b)∧(b=true→∃c,c<n∧op.getD c false=true)∧(b=false→∀c,c<n→op.getD c false=false)∧w'=w:=by
 have CI:=ae (pI n c a op w hr hn);clear hr;go_enter func213,ntmps213;go_wp2_with fail;refine CI.out.mono ?_;rintro e w1 ⟨z,rfl,hz,hw1⟩;have HW:=ae hw1;clear hw1 CI;rcases hz with⟨h1,h2⟩ | ⟨h1,h2⟩
 ·have H2:=ae h2
  clear h2;go_wp2_with fail;go_ret;exact⟨true,rfl,fun _=>H2.out,fun h=>Bool.noConfusion h,HW.out⟩
 ·have H2:=ae h2
  have h3:¬0≤z:=(by omega);clear h2;go_wp2_with fail;go_ret;exact⟨false,(by show Ending.returned (.bool (decide (0≤z)))=_;rw[decide_eq_false (by omega)]),fun h=>Bool.noConfusion h,fun _=>H2.out,HW.out⟩
theorem kK{P:Program}{w:World}{ops:Array Oper}{rest:List Oper}{o:Oper}{a:Act}{Q:Exit→Act→World→Prop}(hgd:o.guard=none)(s x:Operand){T e:TypeId}{z:Value}{k bytes:Nat}
 (ho:o.op=.call { callee:=.builtin .append,args:=#[s,x],argTypes:=#[T,T] })(hT:P.underlying T=some (.slice e))(hi:(P.info? e).map (fun i=>(i.zero,i.size,i.bytes))=some (some z,k,bytes))(hzs:z.cells.size=k)(hk:0<k)(hby:bytes≤1000)
 {C:Nat}{v:Value}{L:List Rp}{F:Nat→Prop}{R:Rp}{us:Array Value}(h:OwnS w C e k F v L)(hC:C≤w.heap.size)(hl:L.length≤1000000)
 (hR:R.ok w (fun b=>F b∧some b≠v.ownBlock) us.toList)(hsz:R.sz=k)
 (hs:a.eval s=v)(hx:a.eval x=.slice (some ⟨w.heap.size,0,none⟩) 1 1)
 (K:∀v' w2,OwnS w2 C e k F v' (L++[R])→Below C w w2→w.heap.size≤w2.heap.size→(∀b,b<w.heap.size→some b≠v.ownBlock→w2.heap[b]? =w.heap[b]?)→(v'.ownBlock=v.ownBlock∨∃b,v'.ownBlock=some b∧w.heap.size≤b)→wpList P ops Q rest (a.put o.dst v') w2):
 wpList P ops Q (o :: rest) a (w.alloc (.cells us e)):=by
 have hba:=(az w.heap.size w).alloc (ah _) (.cells us e);have hlt:=h.lt;have h':=h.new hba;obtain⟨cs,h1,h2⟩:=h';obtain⟨i,hi1,hi2,hi3,hi4⟩:=info_parts hi;have hus:us.toList.length=k:=by rw[R.len hR];exact hsz
 have hRn:=R.new hR hba;refine wpList_append_own_at (P:=P) (w.alloc (.cells us e)) hgd s x T ho C e i z k bytes hT hi1 hi2 hi3 hi4 hzs hk v L.length cs hs h1 ⟨w.heap.size,0,none⟩ 1 1 us.toList hx (by rw[hus,Nat.one_mul]) ?_ (R.one hR) (by unfold maxLen;omega) ?_ (aQ hC hba.size) fun v' w' hown hg _ hat=> ?_
 ·intro j u hj
  rw[Addr.add_lit,Nat.zero_add,dO];simpa using hj
 ·have:=Nat.mul_le_mul (show L.length+1≤1000001 by omega) hby
  omega
 ·refine K v' w' (OwnS.app h1 h2 (fun i R' hR'=> ?_) hown hg hat) (((hba.mono hC).grown hg (aQ hC hba.size) fun b hb'=>(hlt b hb').1)) (aQ hba.size hg.size) (fun b hb hne=>(hg.block b (aY hb hba.size) hne).trans (hba.block b hb)) (hat.elim .inl fun e=>.inr ⟨_,e,hba.size⟩)
  cases i with
  | succ i=>simp at hR'
  | zero=>
    obtain rfl:R=R':=(by simpa using hR');rw[Nat.zero_mul,List.drop_zero,aO (by omega)];exact hRn
theorem ju{w w':World}{C e k n:Nat}{v:Value}{xs:List Value}(h:w.ownsRow C e k v n xs)(hk:∀b,v.ownBlock=some b→w'.heap[b]? =w.heap[b]?):w'.ownsRow C e k v n xs:=by
 refine⟨h.1,?_⟩;rcases h.2 with h2 | ⟨g,cap,cur,rfl,hg,hh,r⟩
 ·exact .inl h2
 ·exact .inr ⟨g,cap,cur,rfl,hg,(hk g rfl).trans hh,r⟩
theorem OwnS.keepAt{w w':World}{C:Nat}{e:TypeId}{k:Nat}{F:Nat→Prop}{v:Value}{L:List Rp}(h:OwnS w C e k F v L)(hk:∀b,v.ownBlock=some b→w'.heap[b]? =w.heap[b]?)(hF:∀b,F b→some b≠v.ownBlock→b<w.heap.size→w'.heap[b]? =w.heap[b]?):OwnS w' C e k F v L:=by
 obtain⟨cs,h1,h2⟩:=h;exact⟨cs,ju h1 hk,fun i R hR=>R.keep (h2 i R hR) fun b hb hlt=>⟨hF b hb.1 hb.2 hlt,hb⟩⟩
theorem jv{w:World}{C C':Nat}{e e':TypeId}{k k' n n':Nat}{v v':Value}{xs xs':List Value}(h:w.ownsRow C e k v n xs)(h':w.ownsRow C' e' k' v' n' xs')(hne:e≠e'):∀b,v.ownBlock=some b→v'.ownBlock≠some b:=by
 intro b hb hb';rcases h.2 with⟨rfl,_⟩ | ⟨g,cap,cur,rfl,_,hg,_⟩
 ·simp[Value.ownBlock] at hb
 ·rcases h'.2 with⟨rfl,_⟩ | ⟨g',cap',cur',rfl,_,hg',_⟩
  ·simp[Value.ownBlock] at hb'
  ·simp[Value.ownBlock] at hb hb'
   subst hb hb';rw[hg] at hg';injection hg' with h2;injection h2 with _ h3;exact hne h3
def gU(x:Nat×Nat):Rp:=rP (rV (.int .i64 x.1)) (rV (.int .i64 x.2))
theorem F6:(prog.info? 216).map (fun i=>(i.zero,i.size,i.bytes))=some (some (.agg #[.int .i64 0,.int .i64 0]),2,16):=by kernel_rfl
theorem I9(x:Nat×Nat)(w:World)(F:Nat→Prop):(gU x).ok w F [.int .i64 x.1,.int .i64 x.2]:=nJ (pQ rfl) (pQ rfl)
end Go.Proofs.YtofgapdnadbgkaaGreatDoor
