import Derived.Test.YtofgapdnadbgkaaGreatDoorW29
import Derived.Test.YtofgapdnadbgkaaGreatDoorW34
import Derived.Lib.AppendStr
set_option linter.unusedVariables false
set_option maxRecDepth 100000
set_option maxHeartbeats 400000000
namespace Go.Proofs.YtofgapdnadbgkaaGreatDoor
open Go.RowKit _root_.Go.Proofs.Tryz
theorem zC(m:dC)(hone:m.objs.length≤1)(a1 a2:Option Addr)(n1 c1 n2 c2:Nat)(F:Nat→Prop)(w:World)(hd:(rI m.drives).ok w F [.slice a1 n1 c1])(hdl:m.drives.length=n1)(ho:(rS 4 (m.objs.map bZ)).ok w F [.slice a2 n2 c2])(hol:m.objs.length=n2)(hm:lm m):
 Calls prog 186 #[.agg (bF m (.slice a1 n1 c1) (.slice a2 n2 c2))] w fun e w'=>e=.returned (.bool true)∧Below w.heap.size w w':=by
 obtain⟨⟨q1,q2⟩,q3,q4,q5,⟨q6,q7⟩,q8,q9⟩:=hm
 have S0:Hid (Sx w (w.alloc (.cells (bF m (.slice a1 n1 c1) (.slice a2 n2 c2)) 154)) [bu w.heap.size 154 (bF m (.slice a1 n1 c1) (.slice a2 n2 c2)),eR F (.slice a1 n1 c1) (rI m.drives),eR F (.slice a2 n2 c2) (rS 4 (m.objs.map bZ))]):=
  ae (((((Sx.nil w).add (eR F (.slice a2 n2 c2) (rS 4 (m.objs.map bZ))) ho).add (eR F (.slice a1 n1 c1) (rI m.drives)) hd).alloc _).add (bu _ _ _) (Blk.new w _ _))
 have hok:=of_decide_eq_true q4;have HM:=ae q9;have HOL:=ae hol;have CW1:=ae fun w=>fG (m.seq:Nat) 1 2147483647 w;have CW2:=ae fun w=>fG (m.next:Nat) 0 16777216 w;have CW3:=ae fun w=>fG (m.extra:Nat) 0 16 w;rw[decide_eq_true (show(1:Int)≤(m.seq:Nat)∧((m.seq:Nat):Int)≤2147483647 by omega)] at CW1;rw[decide_eq_true (show(0:Int)≤(m.next:Nat)∧((m.next:Nat):Int)≤16777216 by omega)] at CW2;rw[decide_eq_true (show(0:Int)≤(m.extra:Nat)∧((m.extra:Nat):Int)≤16 by omega)] at CW3;have CM:=ae fun w=>eP m.K m.H m.Z w;rw[q4] at CM;have CR:=ae fun w (h:(rI m.drives).ok w F [.slice a1 n1 c1])=>Fj m.drives w.heap.size a1 n1 c1 63 w (by obtain⟨a',c',e,hr,-⟩:=Ak h;injection e with e1 e2 e3;subst e1 e3;rw[show(bf m.drives).length=n1 by simpa[bf] using hdl] at hr;exact hr) (by omega) q6;have CE:=ae fun (e:dM) (he:e∈m.objs) (a:Option Addr) (c:Nat) w (h:(rI e.tries).ok w F [.slice a e.tries.length c]) (hn:e.tries.length≤1000)=>Cg m e (.slice a1 n1 c1) (.slice a2 n2 c2) a e.tries.length c F w h rfl hn (q9.1 e he) q4 q3 rfl rfl;have hn2I:(n2:Int)≤12:=by omega
 have hn21:n2≤1:=by omega
 have HQ4:=ae q4;unfold bF at*;unfold bL at CM;clear hd ho q9 q4 q6 hdl q1 q2 q3 q5 q7 hol;go_enter func186,ntmps186;go_wp2_with fail;generalize w.alloc (.cells #[.int .i64 m.seq,.int .i64 m.next,.int .i64 m.K,.int .i64 m.H,.int .i64 m.Z,.int .i64 m.extra,.slice a1 n1 c1,.slice a2 n2 c2] 154)=w0 at*;refine(CW1.out _).mono ?_;rintro e wx ⟨rfl,rfl⟩;obtain⟨m0,m1,m2,m3,m4,m5,m6,m7⟩:=dc (S0.out.blk 0 rfl);go_wp2_with fail;refine(CW2.out _).mono ?_;rintro e wx ⟨rfl,rfl⟩;go_wp2_with fail;refine(CM.out _).mono ?_;rintro e w1 ⟨rfl,hb⟩;have S1:=ae (S0.out.step hb);clear hb S0 m0 m1 m2 m3 m4 m5 m6 m7;obtain⟨m0,m1,m2,m3,m4,m5,m6,m7⟩:=dc (S1.out.blk 0 rfl);go_wp2_with fail;refine(CW3.out _).mono ?_;rintro e wx ⟨rfl,rfl⟩;go_wp2_with fail;refine(CR.out _ (S1.out.rep 1 rfl)).mono ?_;rintro e wx ⟨rfl,rfl⟩;go_wp2_with fail;have HB0:=ae (az wx.heap.size wx);clear CW1 CW2 CW3 CM CR m0 m1 m2 m3 m4 m5 m6 m7;generalize hGm:w.heap.size=Gm at*;have HGM:=ae hGm;clear hGm;go_loopw [40] (fun i wr=>∃k:Nat,k≤n2∧i=.int .i64 k∧Hid (Below wx.heap.size wx wr)) (fun i _=>n2-(intOf i).toNat)
 case atStart=>exact⟨0,by omega,rfl,HB0⟩
 case round=>
  clear HB0;obtain⟨k,hkn,rfl,HB⟩:=hrel;have S2:=ae (S1.out.step HB.out);by_cases hlt:k<n2
  ·obtain rfl:k=0:=by omega
   obtain rfl:n2=1:=(by omega);obtain⟨b,o,a3,c3,rfl,hF,hb,d0,d1,d2,d3,hr⟩:=yA (S2.out.rep 2 rfl) HOL.out hlt;rw[Nat.zero_mul,Nat.add_zero] at d0 d1 d2 d3;have hmem:m.objs.getD 0 ek∈m.objs:=(by rw[af,ag (by rw[HOL.out];exact hlt)];exact aU _);have ht8:=qC (HM.out.1 _ hmem) HQ4.out;have hba:=(az wr.heap.size wr).alloc (ah _) (.cells (fQ (m.objs.getD 0 ek) (.slice a3 (m.objs.getD 0 ek).tries.length c3)) 190);have CE1:=ae fun W (hW:Below (wr.alloc (.cells (fQ (m.objs.getD 0 ek) (.slice a3 (m.objs.getD 0 ek).tries.length c3)) 190)).heap.size (wr.alloc (.cells (fQ (m.objs.getD 0 ek) (.slice a3 (m.objs.getD 0 ek).tries.length c3)) 190)) W)=>CE.out _ hmem a3 c3 W ((rI _).new hr (hba.trans (hW.mono hba.size))) (by omega);have S3:=ae ((S2.out.step hba).add (bu wr.heap.size 190 _) (Blk.new wr _ (fQ (m.objs.getD 0 ek) (.slice a3 (m.objs.getD 0 ek).tries.length c3))));have HB3:=ae (HB.out.trans (hba.mono HB.out.size));have CA:=ae fun w (G:Nat) (hx:(rS 4 (([]:List dM).map bZ)).ok w F [.slice (some ⟨b,o,none⟩) 0 c2])=>Eb (fun _=>false) 267 #[.pointer (some ⟨G,0,none⟩)] [] F (some ⟨b,o,none⟩) 0 c2 w hx rfl (by omega) (enters_of func267 (by kernel_rfl) rfl) (fun x hx=>absurd hx (by simp))
   have HT0:Hid (∀W,(rS 4 (m.objs.map bZ)).ok W F [.slice (some ⟨b,o,none⟩) 1 c2]→(rS 4 (([]:List dM).map bZ)).ok W F [.slice (some ⟨b,o,none⟩) 0 c2]):=ae fun W h=>by
    have:=II (t:=4) (k:=0) (by omega) h (Nat.zero_le _);simpa using this
   have hc2:1≤c2:=(by obtain⟨_,_,_,e,h1,_⟩:=S2.out.rep 2 rfl;injection e with e _;injection e with _ e2 e3;omega);have hc2I:(0:Int)≤(c2:Int):=(by omega);have hc2N:¬c2=0:=(by omega);clear hba hr hmem ht8 hF S2 HB CE S1 HM;generalize m.objs.getD 0 ek=e at*;unfold fQ at CE1 S3 HB3;go_upto_region 8 with fail;clear d0 d1 d2 d3;generalize wr.heap.size=G4 at*;generalize wr.alloc (.cells #[.string e.name,.int .i64 e.obj,.int .i64 e.len,.slice a3 e.tries.length c3] 190)=w4 at*;obtain⟨e0,e1,e2,e3⟩:=fB (S3.out.blk 0 rfl);obtain⟨m0,m1,m2,m3,m4,m5,m6,m7⟩:=dc (S3.out.blk 1 rfl);refine bE (by kernel_rfl) (by kernel_rfl) ?_
   iterate 20 (
    with_reducible refine wpQuiet_step (fun Kq hKq=> ?_)
    go_simp
    first
    | refine hKq _ ?_
    | refine⟨_,fun _ _=>rfl,hKq _ ?_⟩
    | (apply Exists.intro
       refine⟨fun w' hw'=> ?_,hKq _ ?_⟩
       ·obtain⟨m0',m1',m2',m3',m4',m5',m6',m7'⟩:=dc ((S3.out.step hw').blk 1 rfl)
        obtain⟨e0',e1',e2',e3'⟩:=fB ((S3.out.step hw').blk 0 rfl)
        first
        | (go_simp
           first | exact rfl | exact⟨rfl,rfl⟩)
        | (refine(CE1.out w' hw').mono ?_
           rintro r w5 ⟨rfl,hb5⟩;exact⟨rfl,hw'.trans (hb5.mono hw'.size)⟩))
    clear hKq Kq)
   with_reducible refine wpQuiet_nil ?_
   intro w5 hw5;have S5:=ae (S3.out.step hw5);have HB5:=ae (HB3.out.trans (hw5.mono HB3.out.size));clear e0 e1 e2 e3 m0 m1 m2 m3 m4 m5 m6 m7;obtain⟨m0,m1,m2,m3,m4,m5,m6,m7⟩:=dc (S5.out.blk 1 rfl);have CA1:=ae (CA.out w5 G4 (HT0.out w5 (S5.out.rep 3 rfl)));rw[List.any_nil] at CA1;clear CA HT0 CE1 S3 HB3 hw5 m0 m1 m2 m3 m4 m5 m6;go_wp2_with fail;refine CA1.out.mono ?_;rintro r w6 ⟨rfl,hb⟩;have HB6:=ae (HB5.out.trans (hb.mono HB5.out.size));clear hb CA1 S5 HB5;go_wp2_with fail;go_roundw
   case rel=>(try((repeat apply Exists.intro);refine⟨?_,rfl⟩));exact⟨1,by omega,by go_num,HB6⟩
   case measure=>simp[intOf]
  ·obtain rfl:k=n2:=by omega
   go_wp2_with fail;go_ret;exact⟨rfl,S2.out.1⟩
theorem rX{w wr w2:World}{ow o1 o2:Option Nat}(h1:Chg (fun b=>some b=ow) w wr)(h2:∀b,o1=some b→some b=ow∨w.heap.size≤b)(h3:Chg (fun b=>some b=o1) wr w2)(h4:∀b,o2=some b→some b=o1∨wr.heap.size≤b):
 Chg (fun b=>some b=ow) w w2∧∀b,o2=some b→some b=ow∨w.heap.size≤b:=
 ⟨⟨h3.os.trans h1.os,h3.tape.trans h1.tape,h3.output.trans h1.output,aQ h1.size h3.size,fun k hk hm=>(h3.block k (aY hk h1.size) fun e=>(h2 k e.symm).elim hm fun h=>by omega).trans (h1.block k hk hm)⟩,
   fun b hb=>(h4 b hb).elim (fun e=>h2 b e.symm) fun h=>.inr (aQ h1.size h)⟩
theorem OwnB.oty{w:World}{C:Nat}{v:Value}{l:List Nat}(h:OwnB w C v l):∀b,v.ownBlock=some b→Ty 5 w b:=by
 intro b hb;rcases h.2 with⟨e,_⟩ | ⟨g,cap,cur,e,_,hh,_⟩
 ·rw[e] at hb;simp[Value.ownBlock] at hb
 ·rw[e] at hb;simp[Value.ownBlock] at hb
  subst hb;exact⟨_,_,hh⟩
theorem mI{w:World}{ops:Array Oper}{rest:List Oper}{o:Oper}{a:Act}{Q:Exit→Act→World→Prop}(hgd:o.guard=none)(s x:Operand){C y:Nat}{i:Int}{v:Value}{xs:List Nat}(hi:i=(y:Int))
 (ho:o.op=.call { callee:=.builtin .append,args:=#[s,x],argTypes:=#[23,23] })
 (h:OwnB w C v xs)(hC:C≤w.heap.size)(hl:xs.length≤1000000)(hs:a.eval s=v)(hx:a.eval x=.slice (some ⟨w.heap.size,0,none⟩) 1 1)
 (K:∀v' w2,OwnB w2 C v' (xs++[y])→Chg (fun b=>some b=v.ownBlock) w w2→(∀b,v'.ownBlock=some b→some b=v.ownBlock∨w.heap.size≤b)→wpList prog ops Q rest (a.put o.dst v') w2):
 wpList prog ops Q (o :: rest) a (w.alloc (.cells #[.int .u8 i] 5)):=by
 subst hi;have hba:=(az w.heap.size w).alloc (ah _) (.cells #[.int .u8 (y:Int)] 5);have h1:=h.below hba;have hC1:=aQ hC hba.size;have hcell:=dO w #[.int .u8 (y:Int)] 5 0;generalize w.alloc (.cells #[.int .u8 (y:Int)] 5)=w1 at*;refine jo (P:=prog) w1 hgd s x 23 ho C 5 (.int .u8 0) 1 underlying23 iy rfl v xs.length (ba xs) hs h1 w.heap.size (.int .u8 (y:Int)) hx hcell rfl (by omega) (by unfold maxLen;omega) hC1 fun v' w2 hown hg hat=> ?_;refine K v' w2 ?_ ((Chg.of hba).trans (Chg.grown hg fun k hk _=>hk.symm)) (fun b hb=>hat.elim (fun e=>.inl (by rw[←e,hb])) fun e=>.inr (by rw[hb] at e;injection e with e;rw[e];exact hba.size));unfold OwnB;rw[aJ];have e:ba (xs++[y])=ba xs++[.int .u8 (y:Int)]:=by unfold ba;rw[aW];rfl
 rw[e];exact hown
theorem pJ(v:Value)(xs:List Nat)(C n s:Nat)(w:World)(ho:OwnB w C v xs)(hC:C≤w.heap.size)(hn:n<4294967296)(hs:s≤4)(hl:xs.length≤1000):
 Calls prog 228 #[v,.int .i64 n,.int .i64 s] w fun e w'=>∃v',e=.returned v'∧OwnB w' C v' (xs++bC n s)∧Chg (fun b=>some b=v.ownBlock) w w'∧(∀b,v'.ownBlock=some b→some b=v.ownBlock∨w.heap.size≤b):=by
 have HO0:Hid (OwnB w C v (xs++(bC n s).take (s-s))):=ae (by rw[Nat.sub_self,List.take_zero,List.append_nil];exact ho);obtain⟨ow,how⟩:∃ow,ow=v.ownBlock:=⟨_,rfl⟩;have HB0:Hid (Chg (fun b=>some b=ow) w w∧∀b,v.ownBlock=some b→some b=ow∨w.heap.size≤b):=ae ⟨Chg.refl _ _,fun b hb=>.inl (by rw[how,hb])⟩;rw[←how];have hs1:IntKind.i64.wrap ((s:Int)-1)=(s:Int)-1:=by rw[IntKind.wrap_i64];omega
 obtain⟨a0,c0,rfl,-⟩:=ho.rd;clear ho how;go_enter func228,ntmps228;go_wp2_with fail;go_loopw [0,7] (fun u i wr=>∃m:Nat,m≤s∧i=.int .i64 ((m:Int)-1)∧Hid (OwnB wr C u (xs++(bC n s).take (s-m)))∧Hid (Chg (fun b=>some b=ow) w wr∧∀b,u.ownBlock=some b→some b=ow∨w.heap.size≤b)) (fun _ i _=>(intOf i+1).toNat)
 case atStart=>exact⟨s,ah _,rfl,HO0,HB0⟩
 case round=>
  clear HO0 HB0 hs1;obtain⟨m,hm,rfl,HO,HB⟩:=hrel;have hCw:C≤wr.heap.size:=aQ hC HB.out.1.size;by_cases hm0:m=0
  ·subst hm0
   rw[Nat.sub_zero,aO (by rw[bO];exact ah _)] at HO;generalize hLe:xs++bC n s=L at*;have HLE:=ae hLe;clear hLe;obtain⟨au,cu,rfl,-⟩:=HO.out.rd;go_wp2_with fail;go_ret;exact⟨_,rfl,by rw[HLE.out];exact HO.out,HB.out.1,HB.out.2⟩
  ·obtain⟨q,rfl⟩:∃q,m=q+1:=⟨m-1,by omega⟩
   have hml:(xs++(bC n s).take (s-(q+1))).length≤1000000:=(by rw[aJ,aI,bO];omega);have HT:Hid (xs++(bC n s).take (s-q)=xs++(bC n s).take (s-(q+1))++[n/256 ^ q%256]):=ae (by rw[qz n s q (by omega),List.append_assoc]);generalize xs++(bC n s).take (s-(q+1))=L at*;obtain⟨au,cu,rfl,-⟩:=HO.out.rd;have hcase:q=0∨q=1∨q=2∨q=3:=(by omega);rcases hcase with rfl | rfl | rfl | rfl
   ·go_wp2_with (at_builtin;refine mI (w:=wr) (C:=C) (y:=n%256) rfl _ _ ?hi rfl HO.out hCw hml rfl rfl ?_)
    case hi=>omega
    intro v2 w2 hO2 hb2 hv2;have HO2:Hid (OwnB w2 C v2 (xs++(bC n s).take (s-0))):=ae (by rw[HT.out,show n/256 ^ 0%256=n%256 by simp];exact hO2);have HB2:=ae (rX HB.out.1 HB.out.2 hb2 hv2);clear hO2 hb2 hv2 HO HB HT;go_wp2_with fail;go_roundw
    case rel=>(try((repeat apply Exists.intro);refine⟨?_,rfl⟩));exact⟨0,by omega,by go_num,HO2,HB2⟩
    case measure=>simp[intOf]
   ·go_wp2_with (at_builtin;refine mI (w:=wr) (C:=C) (y:=n/256%256) rfl _ _ ?hi rfl HO.out hCw hml rfl rfl ?_)
    case hi=>omega
    intro v2 w2 hO2 hb2 hv2;have HO2:Hid (OwnB w2 C v2 (xs++(bC n s).take (s-1))):=ae (by rw[HT.out,show n/256 ^ 1%256=n/256%256 by simp];exact hO2);have HB2:=ae (rX HB.out.1 HB.out.2 hb2 hv2);clear hO2 hb2 hv2 HO HB HT;go_wp2_with fail;go_roundw
    case rel=>(try((repeat apply Exists.intro);refine⟨?_,rfl⟩));exact⟨1,by omega,by go_num,HO2,HB2⟩
    case measure=>simp[intOf]
   ·go_wp2_with (at_builtin;refine mI (w:=wr) (C:=C) (y:=n/65536%256) rfl _ _ ?hi rfl HO.out hCw hml rfl rfl ?_)
    case hi=>omega
    intro v2 w2 hO2 hb2 hv2;have HO2:Hid (OwnB w2 C v2 (xs++(bC n s).take (s-2))):=ae (by rw[HT.out,show n/256 ^ 2%256=n/65536%256 by simp];exact hO2);have HB2:=ae (rX HB.out.1 HB.out.2 hb2 hv2);clear hO2 hb2 hv2 HO HB HT;go_wp2_with fail;go_roundw
    case rel=>(try((repeat apply Exists.intro);refine⟨?_,rfl⟩));exact⟨2,by omega,by go_num,HO2,HB2⟩
    case measure=>simp[intOf]
   ·go_wp2_with (at_builtin;refine mI (w:=wr) (C:=C) (y:=n/16777216%256) rfl _ _ ?hi rfl HO.out hCw hml rfl rfl ?_)
    case hi=>omega
    intro v2 w2 hO2 hb2 hv2;have HO2:Hid (OwnB w2 C v2 (xs++(bC n s).take (s-3))):=ae (by rw[HT.out,show n/256 ^ 3%256=n/16777216%256 by simp];exact hO2);have HB2:=ae (rX HB.out.1 HB.out.2 hb2 hv2);clear hO2 hb2 hv2 HO HB HT;go_wp2_with fail;go_roundw
    case rel=>(try((repeat apply Exists.intro);refine⟨?_,rfl⟩));exact⟨3,by omega,by go_num,HO2,HB2⟩
    case measure=>simp[intOf]
def iU(s:ByteArray):List Nat:=s.data.toList.map UInt8.toNat
theorem l5(s:ByteArray):(iU s).length=s.size:=by unfold iU;rw[aG];rfl
def Bf(e:dM):List Nat:=[e.name.size]++iU e.name++bC e.obj 3++bC e.len 2++e.tries
def gZ(m:dC):List Nat:=bC m.seq 4++bC m.next 4++[m.K,m.H,m.Z,m.extra,m.drives.length]++m.drives++[m.objs.length]++(m.objs.map Bf).flatten
theorem vE(s:ByteArray):Lib.strCells s=ba (iU s):=by unfold Lib.strCells ba iU;rw[List.map_map];rfl
theorem Ky{w:World}{o:Oper}{a:Act}{K:Act→World→Prop}{Q:Exit→Act→World→Prop}(hgd:o.guard=none)(s x:Operand){C y g:Nat}{v:Value}{xs:List Nat}
 (ho:o.op=.call { callee:=.builtin .append,args:=#[s,x],argTypes:=#[23,23] })(h:OwnB w C v xs)(hC:C≤w.heap.size)(hl:xs.length≤1000000)(hb:Blk w g 5 #[.int .u8 (y:Int)])
 (hs:a.eval s=v)(hx:a.eval x=.slice (some ⟨g,0,none⟩) 1 1)
 (K':∀v' w2,OwnB w2 C v' (xs++[y])→Below C w w2→w.grownBy w2 v.ownBlock→K (a.put o.dst v') w2):
 Oper.wp prog o a w K Q:=by
 have hr:Rd w w.heap.size (some ⟨g,0,none⟩) 1 [.int .u8 (y:Int)]:=⟨rfl,fun _=>⟨g,0,rfl,hb.lt,fun i u hu=>by rw[Nat.zero_add,hb.cell];simpa using hu⟩⟩
 have h2:=jD (P:=prog) (ops:=#[]) (E:=True) (Q:=Q) hgd s x 23 ho C 5 (.int .u8 0) 1 underlying23 iy rfl v xs.length (ba xs) hs h w.heap.size (some ⟨g,0,none⟩) 1 1 _ hx (fun e=>by cases e) hr (fun u hu=>by rw[List.mem_singleton] at hu;rw[hu];rfl) (by omega) (by unfold maxLen;omega) hC fun v' w' h1 h3 h4=>K' v' w' (by
  unfold OwnB;rw[aJ];have e:ba (xs++[y])=ba xs++[.int .u8 (y:Int)]:=(by unfold ba;rw[aW];rfl);rw[e];exact h1) ((az _ _).grown h3 hC fun g hg=>(h.lt g hg).1) h3
 rwa [if_pos (by simp[Region.wanted,hgd])] at h2
theorem H6:∃i,prog.info? 5=some i∧i.zero=some (.int .u8 0)∧i.size=1∧i.bytes=1:=by
 have h:=iy;rw[Option.map_eq_some_iff] at h;obtain⟨i,h1,h2⟩:=h;injection h2 with h2 h3;injection h3 with h3 h4;exact⟨i,h1,h2,h3,h4⟩
theorem EK{w:World}{o:Oper}{a:Act}{K:Act→World→Prop}{Q:Exit→Act→World→Prop}(hgd:o.guard=none)(sl x:Operand){C:Nat}{v:Value}{xs:List Nat}{s:ByteArray}
 (ho:o.op=.call { callee:=.builtin .append,args:=#[sl,x],argTypes:=#[23,9] })(h:OwnB w C v xs)(hC:C≤w.heap.size)(hl:xs.length+s.size≤1000000)
 (hs:a.eval sl=v)(hx:a.eval x=.string s)
 (K':∀v' w2,OwnB w2 C v' (xs++iU s)→Below C w w2→w.grownBy w2 v.ownBlock→K (a.put o.dst v') w2):
 Oper.wp prog o a w K Q:=by
 obtain⟨i,hi,hz,hsz,hby⟩:=H6;obtain⟨v',w',hr,h2,h3,h4⟩:=Lib.run_append_own_string (P:=prog) w C 23 9 o.type 5 i underlying23 underlying9 hi hz hsz hby v xs.length (ba xs) h s (by unfold maxLen;omega) (by omega) hC;unfold Oper.wp execOp;simp only[ho,resolve,invoke,builtin,Sem.run_bind,Sem.run_pure,Result.andThen_ok,List.map_toArray,List.map_cons,List.map_nil,hs,hx,hr];refine K' v' w' ?_ ((az _ _).grown h3 hC fun g hg=>(h.lt g hg).1) h3;unfold OwnB;have e:ba (xs++iU s)=ba xs++Lib.strCells s:=by rw[vE];unfold ba;rw[aW]
 rw[aJ,l5,e];exact h2
theorem H8{l:List Nat}{n:Nat}(h:zy 63 l=true)(hl:l.length=n):∀i,i<n→l.getD i 0≤63:=fun i hi=>by
 unfold zy at h;rw[List.all_eq_true] at h;have:=h i (List.mem_range.2 (by omega));rw[Bool.and_eq_true] at this;have h1:=of_decide_eq_true this.1;omega
theorem EL(m:dC)(hone:m.objs.length≤1)(a1 a2:Option Addr)(n1 c1 n2 c2:Nat)(F:Nat→Prop)(w:World)(hd:(rI m.drives).ok w F [.slice a1 n1 c1])(hdl:m.drives.length=n1)(ho:(rS 4 (m.objs.map bZ)).ok w F [.slice a2 n2 c2])(hol:m.objs.length=n2)(hm:lm m):
 Calls prog 162 #[.agg (bF m (.slice a1 n1 c1) (.slice a2 n2 c2))] w fun e w'=>∃v,e=.returned v∧OwnB w' w.heap.size v (gZ m)∧Below w.heap.size w w':=by
 have S0:Hid (Sx w (w.alloc (.cells (bF m (.slice a1 n1 c1) (.slice a2 n2 c2)) 154)) [bu w.heap.size 154 (bF m (.slice a1 n1 c1) (.slice a2 n2 c2)),eR F (.slice a1 n1 c1) (rI m.drives),eR F (.slice a2 n2 c2) (rS 4 (m.objs.map bZ))]):=
  ae (((((Sx.nil w).add (eR F (.slice a2 n2 c2) (rS 4 (m.objs.map bZ))) ho).add (eR F (.slice a1 n1 c1) (rI m.drives)) hd).alloc _).add (bu _ _ _) (Blk.new w _ _))
 have CM:=ae fun w (hd:(rI m.drives).ok w F [.slice a1 n1 c1]) (ho:(rS 4 (m.objs.map bZ)).ok w F [.slice a2 n2 c2])=>zC m hone a1 a2 n1 c1 n2 c2 F w hd hdl ho hol hm;obtain⟨⟨q1,q2⟩,q3,q4,q5,⟨q6,q7⟩,q8,q9⟩:=hm;have hok:=of_decide_eq_true q4;have HM:=ae q9;have HOL:=ae hol;have HDL:=ae hdl;have HQ4:=ae q4;have HQ3:=ae q3;have HPK:=ae (show gZ m=bC m.seq 4++bC m.next 4++[m.K,m.H,m.Z,m.extra,m.drives.length]++m.drives++[m.objs.length]++(m.objs.map Bf).flatten from rfl);have CN:=ae fun (v:Value) (xs:List Nat) (C n s:Nat) (w:World) (ho:OwnB w C v xs) (hC:C≤w.heap.size) (hn:n<4294967296) (hs:s≤4) (hl:xs.length≤1000)=>zx v xs C n s w ho hC hn hs hl;have hKm:(m.K:Int)%256=(m.K:Int):=by omega
 have hHm:(m.H:Int)%256=(m.H:Int):=by omega
 have hZm:(m.Z:Int)%256=(m.Z:Int):=by omega
 have hXm:(m.extra:Int)%256=(m.extra:Int):=by omega
 have hDm:(n1:Int)%256=(n1:Int):=by omega
 have hOm:(n2:Int)%256=(n2:Int):=by omega
 have HSB:Hid (m.seq<4294967296∧m.next<4294967296):=ae (by omega);have HN1:Hid (n1≤64∧n2≤1):=ae (by omega);have hn64:n1≤64:=by omega
 have HRS:Hid (∀i,i<n1→m.drives.getD i 0≤63):=ae (H8 q6 hdl);rw[hdl,hol] at HPK;unfold bF at*;clear hd ho q9 q4 q6 hdl q1 q2 q3 q5 q7 q8 hol hone hok;go_enter func162,ntmps162;go_wp2_with fail;generalize w.alloc (.cells #[.int .i64 m.seq,.int .i64 m.next,.int .i64 m.K,.int .i64 m.H,.int .i64 m.Z,.int .i64 m.extra,.slice a1 n1 c1,.slice a2 n2 c2] 154)=w0 at*;refine(CM.out _ (S0.out.rep 1 rfl) (S0.out.rep 2 rfl)).mono ?_;rintro e w1 ⟨rfl,hb⟩;have S1:=ae (S0.out.step hb);clear hb S0 CM;obtain⟨m0,m1,m2,m3,m4,m5,m6,m7⟩:=dc (S1.out.blk 0 rfl);generalize hG:w.heap.size=G at*;have HG:=ae hG;clear hG m2 m3 m4 m5 m6 m7;have CN1:=ae (CN.out (.slice none 0 0) [] w1.heap.size m.seq 4 w1.drew (OwnB.nil _ _) (ah _) HSB.out.1 (by omega) (by simp));go_upto_region 3 with fail;go_cut [3] (fun v wx=>Hid (OwnB wx w1.heap.size v (bC m.seq 4++bC m.next 4))∧Hid (Below w1.heap.size w1 wx))
 case first=>
  go_region_law (first
   | (have HO2x:=HO2
      go_simp;go_at_call 228;refine(CN.out (.slice a3 n3 c3) (bC m.seq 4) w1.heap.size m.next 4 w2 HO2.out HB2.out.size HSB.out.2 (by omega) (by rw[bO];omega)).mono ?_;rintro e w3 ⟨v3,rfl,hO,hb⟩;have HO3:=ae hO;have HB3:=ae (HB2.out.trans hb);clear hO hb;go_simp)
   | (go_simp
      go_at_call 228;refine CN1.out.mono ?_;rintro e w2 ⟨v2,rfl,hO,hb⟩;have HO2:Hid (OwnB w2 w1.heap.size v2 (bC m.seq 4)):=ae (by simpa using hO);have HB2:Hid (Below w1.heap.size w1 w2):=ae (((az _ w1).drew).trans hb);obtain⟨a3,n3,c3,rfl,-⟩:=HO2.out.sl;have S2:=ae (S1.out.step HB2.out);have m1':w2.cell? ⟨G,1,none⟩=some (.int .i64 m.next):=(S2.out.blk 0 rfl).cell 1;clear hO hb;go_simp))
  all_goals(
   go_simp;refine ‹∀(a':Act) (w':World),Met _ a' w'→_› _ _ ?_;go_meet;exact⟨HO3,HB3⟩)
 case rest=>
  obtain⟨HO3,HB3⟩:=hcut;rename World=>w3;obtain⟨b3,l3,k3,rfl,-⟩:=HO3.out.sl;have S3:=ae (S1.out.step HB3.out);have hs3:=HB3.out.size;clear CN1 m0 m1;obtain⟨m0,m1,m2,m3,m4,m5,m6,m7⟩:=dc (S3.out.blk 0 rfl);have hba:=(az w3.heap.size w3).alloc (ah _) (.cells (bn [m.K,m.H,m.Z,m.extra,n1]) 5);have HO3a:=ae (HO3.out.below hba);have HBA:=ae (HB3.out.trans (hba.mono hs3));have hsa:w1.heap.size≤(w3.alloc (.cells (bn [m.K,m.H,m.Z,m.extra,n1]) 5)).heap.size:=HBA.out.size;have HRD:=ae (kX (Blk.new w3 5 (bn [m.K,m.H,m.Z,m.extra,n1])));have hml:(bC m.seq 4++bC m.next 4).length+5≤1000000:=(by rw[aJ,bO,bO];omega);clear hba HO3 HB3
  go_wp2_with (at_builtin;refine kS (w:=w3.alloc (.cells (bn [m.K,m.H,m.Z,m.extra,n1]) 5)) (C:=w1.heap.size) (xs:=bC m.seq 4++bC m.next 4) (ys:=[m.K,m.H,m.Z,m.extra,n1]) rfl _ _ rfl HO3a.out hsa hml rfl rfl (fun e=>by cases e) HRD.out ?_)
  intro v4 w4 hO4 hb4 hg4 hat4;have HB4:=ae (HBA.out.trans hb4);have S4:=ae (S1.out.step HB4.out);have HL8:Hid ((bC m.seq 4++bC m.next 4++[m.K,m.H,m.Z,m.extra,n1]).length=13):=ae (by rw[aJ,aJ,bO,bO];rfl);have HO4:Hid (OwnB w4 w1.heap.size v4 (bC m.seq 4++bC m.next 4++[m.K,m.H,m.Z,m.extra,n1]++m.drives.take 0)):=ae (by rw[List.take_zero,List.append_nil];exact hO4);generalize bC m.seq 4++bC m.next 4++[m.K,m.H,m.Z,m.extra,n1]=X at*;clear hO4 hb4 hg4 hat4 HBA HO3a HRD S3 hml hs3 hsa m0 m1 m2 m3 m4 m5 m6 m7;obtain⟨m0,m1,m2,m3,m4,m5,m6,m7⟩:=dc (S4.out.blk 0 rfl);obtain⟨b4,l4,k4,rfl,-⟩:=HO4.out.sl;have HB4':Hid (Below w1.heap.size w1 w4):=HB4;clear HB4 m0 m1 m2 m3 m4 m5 m7 hKm hHm hZm hXm hDm;go_wp2_with fail;go_loopw [3,44] (fun v i wr=>∃k:Nat,k≤n1∧i=.int .i64 k∧Hid (OwnB wr w1.heap.size v (X++m.drives.take k))∧Hid (Below w1.heap.size w1 wr)) (fun _ i _=>n1-(intOf i).toNat)
  case atStart=>exact⟨0,by omega,rfl,HO4,HB4'⟩
  case round=>
   clear HO4 HB4' S4;obtain⟨k,hkn,rfl,HO,HB⟩:=hrel;have S5:=ae (S1.out.step HB.out);have hsw:=HB.out.size;obtain⟨bv,lv,kv,rfl,-⟩:=HO.out.sl;by_cases hlt:k<n1
   ·have hltI:(k:Int)<(n1:Int):=by omega
    have hkl:k<m.drives.length:=(by rw[HDL.out];exact hlt);obtain⟨a',c',e,hrd,-⟩:=dB (S5.out.rep 1 rfl) HDL.out;injection e with e1 e2 e3;subst e1 e3;obtain⟨b,o,rfl,hb,hcc⟩:=hrd.2 (by omega);have cq:=hcc k (.int .i64 (m.drives.getD k 0:Nat)) (bM hkl);have hx1:=HRS.out k hlt;have HT:Hid (X++m.drives.take (k+1)=X++m.drives.take k++[m.drives.getD k 0]):=ae (by rw[aP hkl,af,ag hkl,List.append_assoc];rfl);have hml:(X++m.drives.take k).length≤1000000:=(by have:=HN1.out.1;rw[aJ,HL8.out,aI];omega);generalize m.drives.getD k 0=x at*;generalize X++m.drives.take k=XX at*;clear hcc hrd hkl S5
    go_wp2_with (at_builtin;refine fE (w:=wr) (C:=w1.heap.size) (y:=x) rfl _ _ ?hi rfl HO.out hsw hml rfl rfl ?_)
    case hi=>omega
    intro v5 w5 hO5 hb5;rw[←HT.out] at hO5;have HO5:=ae hO5;have HB5:=ae (HB.out.trans hb5);clear hO5 hb5 HO HB HT;go_wp2_with fail;go_roundw
    case rel=>(try((repeat apply Exists.intro);refine⟨?_,rfl⟩));exact⟨k+1,by omega,by go_num,HO5,HB5⟩
    case measure=>simp[intOf];omega
   ·obtain rfl:k=n1:=by omega
    rw[aO (by rw[HDL.out];exact ah _)] at HO;have hml:(X++m.drives).length≤1000000:=(by rw[aJ,HL8.out,HDL.out];have:=HN1.out.1;omega);have HML:Hid ((X++m.drives).length≤77):=ae (by rw[aJ,HL8.out,HDL.out];have:=HN1.out.1;omega);generalize X++m.drives=XX at*;clear HL8;obtain⟨m0,m1,m2,m3,m4,m5,m6,m7⟩:=dc (S5.out.blk 0 rfl);clear m0 m1 m2 m3 m4 m5 m6
    go_wp2_with (at_builtin;refine fE (w:=wr) (C:=w1.heap.size) (y:=n2) rfl _ _ ?hi rfl HO.out hsw hml rfl rfl ?_)
    case hi=>rfl
    intro v6 w6 hO6 hb6;have HB6:=ae (HB.out.trans hb6);have S6:=ae (S1.out.step HB6.out);have HO6:Hid (OwnB w6 w1.heap.size v6 (XX++[n2]++((m.objs.take 0).map Bf).flatten)):=ae (by rw[List.take_zero,List.map_nil,List.flatten_nil,List.append_nil];exact hO6);have HML6:Hid ((XX++[n2]).length≤78):=ae (by rw[aJ,List.length_singleton];have:=HML.out;omega);generalize XX++[n2]=X6 at*;obtain⟨b6,l6,k6,rfl,-⟩:=HO6.out.sl;clear hO6 hb6 HO HB S5 hml HML hsw m7 hOm;obtain⟨m0,m1,m2,m3,m4,m5,m6,m7⟩:=dc (S6.out.blk 0 rfl);clear m0 m1 m2 m3 m4 m5 m6;go_wp2_with fail;have HB6':Hid (Below w1.heap.size w1 w6):=HB6;clear HB6;go_loopw [3,64] (fun v i wr=>∃q:Nat,q≤n2∧i=.int .i64 q∧Hid (OwnB wr w1.heap.size v (X6++((m.objs.take q).map Bf).flatten))∧Hid (Below w1.heap.size w1 wr)) (fun _ i _=>n2-(intOf i).toNat)
    case atStart=>exact⟨0,by omega,rfl,HO6,HB6'⟩
    case round=>
     clear HO6 HB6' S6 m7 m6;obtain⟨q,hqn,rfl,HO,HB⟩:=hrel;have S7:=ae (S1.out.step HB.out);have hsw:=HB.out.size;obtain⟨bv,lv,kv,rfl,-⟩:=HO.out.sl;by_cases hlt2:q<n2
     ·obtain rfl:q=0:=by have:=HN1.out.2;omega
      obtain rfl:n2=1:=(by have:=HN1.out.2;omega);obtain⟨b,o,a3,c3,rfl,hF,hb,e0,e1,e2,e3,hr⟩:=yA (S1.out.rep 2 rfl) HOL.out hlt2;rw[Nat.zero_mul,Nat.add_zero] at e0 e1 e2 e3;rw[←HB.out.cell (p:=⟨b,o,none⟩) hb] at e0;rw[←HB.out.cell (p:=⟨b,o+1,none⟩) hb] at e1;rw[←HB.out.cell (p:=⟨b,o+2,none⟩) hb] at e2;rw[←HB.out.cell (p:=⟨b,o+3,none⟩) hb] at e3;rw[List.take_zero,List.map_nil,List.flatten_nil,List.append_nil] at HO;have hmem:m.objs.getD 0 ek∈m.objs:=(by rw[af,ag (by rw[HOL.out];exact hlt2)];exact aU _);have hok:=HM.out.1 _ hmem;have ht8:=qC hok HQ4.out
      have HE1:Hid (((m.objs.take 1).map Bf).flatten=Bf (m.objs.getD 0 ek)):=ae (by
       obtain⟨x,hx⟩:=List.length_eq_one_iff.1 HOL.out;rw[hx];simp)
      have hba:=(az wr.heap.size wr).alloc (ah _) (.cells (fQ (m.objs.getD 0 ek) (.slice a3 (m.objs.getD 0 ek).tries.length c3)) 190);have HX7:=ae (Blk.new wr 190 (fQ (m.objs.getD 0 ek) (.slice a3 (m.objs.getD 0 ek).tries.length c3)));have HO7:=ae (HO.out.below hba);have HB7:=ae (HB.out.trans (hba.mono hsw));have HR7:=ae hr;generalize m.objs.getD 0 ek=e at*;obtain⟨nm,ob,ln,tr⟩:=e;unfold fQ Bf at*;simp only at*;obtain⟨⟨hn1,hn2,-⟩,hob,hln,htr,-⟩:=hok
      dsimp only at hn1 hn2 hob hln htr
      have hok2:=of_decide_eq_true HQ4.out;have hq2:m.K*m.Z≤16*24:=Nat.mul_le_mul (by omega) (by omega)
      have HBD:Hid (ob<4294967296∧ln<4294967296∧nm.size≤12):=ae (by
       have:=HQ3.out;refine⟨by omega,?_,hn2⟩;omega)
      have hnw:IntKind.u8.wrap (nm.size:Int)=(nm.size:Int):=(by rw[IntKind.wrap_u8];omega);have hnm:(nm.size:Int)%256=(nm.size:Int):=(by omega);have HTR:=ae htr;have HT8:=ae ht8;have HG1:=ae hsw;clear hmem hok2 hob hln htr hq2 ht8 hba hr hF HO HB S7 hsw;go_upto_region 14 with fail;clear e0 e1 e2 e3;generalize wr.alloc (.cells #[.string nm,.int .i64 ob,.int .i64 ln,.slice a3 tr.length c3] 190)=w7 at*;generalize hG7:wr.heap.size=G7 at*;have HG7:=ae hG7;clear hG7;obtain⟨e0,e1,e2,e3⟩:=fB HX7.out;have hml:X6.length≤1000000:=(by have:=HML6.out;omega);have hml2:(X6++[nm.size]).length+nm.size≤1000000:=(by have:=HML6.out;rw[aJ,List.length_singleton];omega);have hba:=((az w7.heap.size w7).alloc (ah _) (.cells #[.int .u8 nm.size] 5)).drew;have e0a:((w7.alloc (.cells #[.int .u8 nm.size] 5)).drew).cell? ⟨G7,0,none⟩=some (.string nm):=(HX7.out.below hba HX7.out.lt).cell 0;go_cut [3] (fun v wx=>Hid (OwnB wx w1.heap.size v (X6++[nm.size]++iU nm))∧Hid (Below w1.heap.size w1 wx)∧Hid (Blk wx G7 190 #[.string nm,.int .i64 ob,.int .i64 ln,.slice a3 tr.length c3]))
      case first=>
       go_region_law (first
        | (change (if _=true then Oper.wp _ (Oper.mk (some 77) _ _ _ _ _) _ _ _ _ else _)
           refine l7 rfl ?_;refine EK (w:=w8) (C:=w1.heap.size) (v:=.slice a8 l8 k8) (xs:=X6++[nm.size]) (s:=nm) rfl (.tmp 74) (.tmp 76) rfl HO8.out HB8.out.size hml2 (by go_simp) (by go_simp) ?_;intro v9 w9 hO9 hb9 hg9;have HO9:=ae hO9;have HB9:=ae (HB8.out.trans hb9);have HX9:Hid (Blk w9 G7 190 #[.string nm,.int .i64 ob,.int .i64 ln,.slice a3 tr.length c3]):=ae ((hg9.block G7 HX8.out.lt fun e=>(HO8.out.oty G7 e.symm).ne (Blk.ty HX8.out) (by decide)).trans HX8.out);clear hO9 hb9 hg9)
        | (change (if _=true then Oper.wp _ (Oper.mk (some 74) _ _ _ _ _) _ _ _ _ else _)
           refine l7 rfl ?_;refine Ky (w:=(w7.alloc (.cells #[.int .u8 nm.size] 5)).drew) (C:=w1.heap.size) (y:=nm.size) (g:=w7.heap.size) (v:=.slice bv lv kv) (xs:=X6) rfl (.tmp 68) (.tmp 73) rfl (HO7.out.below hba) (aQ HB7.out.size hba.size) hml (Blk.drew (Blk.new w7 _ _)) (by go_simp) (by go_simp) ?_;intro v8 w8 hO8 hb8 hg8;have HO8:=ae hO8;have HB8:=ae ((HB7.out.trans (hba.mono HB7.out.size)).trans hb8);have HX8:Hid (Blk w8 G7 190 #[.string nm,.int .i64 ob,.int .i64 ln,.slice a3 tr.length c3]):=ae ((hg8.block G7 (aY HX7.out.lt hba.size) fun e=>(HO7.out.oty G7 e.symm).ne (Blk.ty HX7.out) (by decide)).trans (HX7.out.below hba HX7.out.lt));obtain⟨a8,l8,k8,rfl,-⟩:=HO8.out.sl;have e0':w8.cell? ⟨G7,0,none⟩=some (.string nm):=HX8.out.cell 0;clear hO8 hb8 hg8))
       all_goals(
        go_simp;refine ‹∀(a':Act) (w':World),Met _ a' w'→_› _ _ ?_;go_meet;exact⟨HO9,HB9,HX9⟩)
      case rest=>
       obtain⟨HO9,HB9,HX9⟩:=hcut;rename World=>w9;obtain⟨b9,l9,k9,rfl,hl9⟩:=HO9.out.sl;have hs9:=HB9.out.size;have hml9:(X6++[nm.size]++iU nm).length≤1000:=(by have:=HML6.out;have:=HBD.out.2.2;rw[aJ,aJ,List.length_singleton,l5];omega);have hml9b:(X6++[nm.size]++iU nm++bC ob 3).length≤1000:=(by have:=HML6.out;have:=HBD.out.2.2;rw[aJ,aJ,aJ,List.length_singleton,l5,bO];omega);have HML9:Hid ((X6++[nm.size]++iU nm++bC ob 3++bC ln 2).length≤1000):=ae (by have:=HML6.out;have:=HBD.out.2.2;rw[aJ,aJ,aJ,aJ,List.length_singleton,l5,bO,bO];omega);have HEB:Hid (X6++[nm.size]++iU nm++bC ob 3++bC ln 2++tr=X6++([nm.size]++iU nm++bC ob 3++bC ln 2++tr)):=ae (by simp only[List.append_assoc]);clear e0 e1 e2 e3 hnw hnm hml hml2 hba e0a HO7 HB7 HX7 hl9;obtain⟨e0,e1,e2,e3⟩:=fB HX9.out;have CN9:=ae (pJ (.slice b9 l9 k9) (X6++[nm.size]++iU nm) w1.heap.size ob 3 w9.drew (HO9.out.below ((az _ _).drew)) hs9 HBD.out.1 (by omega) hml9);go_wp2_with fail;go_cut [3] (fun v wx=>Hid (OwnB wx w1.heap.size v (X6++[nm.size]++iU nm++bC ob 3++bC ln 2))∧Hid (Below w1.heap.size w1 wx)∧Hid (Blk wx G7 190 #[.string nm,.int .i64 ob,.int .i64 ln,.slice a3 tr.length c3]))
       case first=>
        go_region_law (first
         | (have HO10x:=HO10
            go_simp;go_at_call 228;refine(pJ (.slice b10 l10 k10) (X6++[nm.size]++iU nm++bC ob 3) w1.heap.size ln 2 w10 HO10.out HB10.out.size HBD.out.2.1 (by omega) hml9b).mono ?_;rintro e w11 ⟨v11,rfl,hO,hc,-⟩;have HO11:=ae hO;have HB11:=ae (HB10.out.trans (hc.below HB10.out.size fun q hq=>(HO10.out.lt q hq.symm).1));have HX11:=ae (HX10.out.chg hc fun e=>(HO10.out.oty G7 e.symm).ne (Blk.ty HX10.out) (by decide));clear hO hc;go_simp)
         | (go_simp
            go_at_call 228;refine CN9.out.mono ?_;rintro e w10 ⟨v10,rfl,hO,hc,-⟩;have HO10:=ae hO;have HB10:=ae ((HB9.out.drew).trans (hc.below hs9 fun q hq=>(HO9.out.lt q hq.symm).1));have HX10:Hid (Blk w10 G7 190 #[.string nm,.int .i64 ob,.int .i64 ln,.slice a3 tr.length c3]):=ae (HX9.out.drew.chg hc fun e=>(HO9.out.oty G7 e.symm).ne (Blk.ty HX9.out) (by decide));obtain⟨b10,l10,k10,rfl,-⟩:=HO10.out.sl;have e2':w10.cell? ⟨G7,2,none⟩=some (.int .i64 ln):=HX10.out.cell 2;clear hO hc;go_simp))
        all_goals(
         go_simp;refine ‹∀(a':Act) (w':World),Met _ a' w'→_› _ _ ?_;go_meet;exact⟨HO11,HB11,HX11⟩)
       case rest=>
        obtain⟨HO11,HB11,HX11⟩:=hcut;rename World=>w11;clear e0 e1 e2 e3 CN9 HO9 HB9 HX9 hs9 hml9 hml9b;obtain⟨e0,e1,e2,e3⟩:=fB HX11.out;generalize X6++[nm.size]++iU nm++bC ob 3++bC ln 2=X8 at*;obtain⟨b11,l11,k11,rfl,-⟩:=HO11.out.sl;have HO12:Hid (OwnB w11 w1.heap.size (.slice b11 l11 k11) (X8++tr.take 0)):=ae (by rw[List.take_zero,List.append_nil];exact HO11.out);have HB12:Hid (Below w1.heap.size w1 w11):=HB11;have hT8:=HT8.out;generalize hnt:tr.length=nt at*;have HNT:=ae hnt;clear hnt HO11 HB11 e0 e1 e2;go_wp2_with fail;clear e3;go_loopw [3,88] (fun v i wr=>∃j:Nat,j≤nt∧i=.int .i64 j∧Hid (OwnB wr w1.heap.size v (X8++tr.take j))∧Hid (Below w1.heap.size w1 wr)) (fun _ i _=>nt-(intOf i).toNat)
        case atStart=>exact⟨0,by omega,rfl,HO12,HB12⟩
        case round=>
         clear HO12 HB12 HX11;obtain⟨j,hjn,rfl,HO,HB⟩:=hrel;have hsw:=HB.out.size;obtain⟨bv2,lv2,kv2,rfl,-⟩:=HO.out.sl;by_cases hlt3:j<nt
         ·have hltI:(j:Int)<(nt:Int):=by omega
          have hjl:j<tr.length:=(by rw[HNT.out];exact hlt3);obtain⟨a',c',e,hrd,-⟩:=dB ((rI _).new HR7.out HB.out) HNT.out;injection e with e1 e2 e3;subst e1 e3;obtain⟨b',o',rfl,hb',hcc⟩:=hrd.2 (by omega);have cq:=hcc j (.int .i64 (tr.getD j 0:Nat)) (bM hjl);have hx1:=HTR.out (tr.getD j 0) (by rw[af,ag hjl];exact aU hjl);have HT:Hid (X8++tr.take (j+1)=X8++tr.take j++[tr.getD j 0]):=ae (by rw[aP hjl,af,ag hjl,List.append_assoc];rfl);have hml:(X8++tr.take j).length≤1000000:=(by have:=HML9.out;rw[aJ,aI];omega);generalize tr.getD j 0=x at*;generalize X8++tr.take j=XX at*;clear hcc hrd hjl
          go_wp2_with (at_builtin;refine fE (w:=wr) (C:=w1.heap.size) (y:=x) rfl _ _ ?hi rfl HO.out hsw hml rfl rfl ?_)
          case hi=>omega
          intro v5 w5 hO5 hb5;rw[←HT.out] at hO5;have HO5:=ae hO5;have HB5:=ae (HB.out.trans hb5);clear hO5 hb5 HO HB HT;go_wp2_with fail;go_roundw
          case rel=>(try((repeat apply Exists.intro);refine⟨?_,rfl⟩));exact⟨j+1,by omega,by go_num,HO5,HB5⟩
          case measure=>simp[intOf];omega
         ·obtain rfl:j=nt:=by omega
          rw[aO (by rw[HNT.out];exact ah _),HEB.out,←HE1.out] at HO;go_wp2_with fail;go_roundw
          case rel=>(try((repeat apply Exists.intro);refine⟨?_,rfl⟩));exact⟨1,by omega,by go_num,HO,HB⟩
          case measure=>simp[intOf]
     ·obtain rfl:q=n2:=by omega
      rw[aO (by rw[HOL.out];exact ah _)] at HO;go_wp2_with fail;go_ret;exact⟨_,rfl,by rw[HPK.out];exact HO.out.base (by rw[HG.out];exact aQ (ah _) (by have:=S1.out.1.size;rw[HG.out] at this;exact this)),by rw[HG.out];exact(HG.out▸S7.out.1)⟩
theorem KJ{P:Program}{w:World}{ops:Array Oper}{rest:List Oper}{o:Oper}{a:Act}{Q:Exit→Act→World→Prop}(hgd:o.guard=none)(s x:Operand){T e:TypeId}{z:Value}{k bytes:Nat}
 (ho:o.op=.call { callee:=.builtin .append,args:=#[s,x],argTypes:=#[T,T] })(hT:P.underlying T=some (.slice e))(hi:(P.info? e).map (fun i=>(i.zero,i.size,i.bytes))=some (some z,k,bytes))(hzs:z.cells.size=k)(hk:0<k)(hby:bytes≤1000)
 {C m c:Nat}{v:Value}{ad:Addr}{L LX:List Rp}{F:Nat→Prop}(h:OwnS w C e k F v L)(hC:C≤w.heap.size)(hl:L.length+m≤1000000)
 (hX:(rS k LX).ok w (fun b=>F b∧some b≠v.ownBlock) [.slice (some ad) m c])(hs:a.eval s=v)(hx:a.eval x=.slice (some ad) m c)
 (K':∀v' w2,OwnS w2 C e k F v' (L++LX)→Below C w w2→(v'.ownBlock=v.ownBlock∨∃b,v'.ownBlock=some b∧w.heap.size≤b)→wpList P ops Q rest (a.put o.dst v') w2):
 wpList P ops Q (o :: rest) a w:=
 wpList_plain hgd fun K hK=>rJ hgd s x ho hT hi hzs hk hby h hC hl hX hs hx fun v' w2 h1 h2 _ _ h5=>hK _ _ (K' v' w2 h1 h2 h5)
theorem zn:(prog.info? 190).map (fun i=>(i.zero,i.size,i.bytes))=some (some (.agg #[.string .empty,.int .i64 0,.int .i64 0,.slice none 0 0]),4,56):=by kernel_rfl
theorem vH(w:World):Calls prog 245 #[.slice none 0 0] w fun e w'=>e=.returned (.slice none 0 0)∧w'=w:=by
 have hq:=fun W=>Lib.run_eql_slice_nil (P:=prog) W 152 190 none 0 0 0 0 underlying152;go_enter func245,ntmps245;go_wp2_with fail;go_ret;exact⟨rfl,rfl⟩
theorem E5(L:List dM)(F:Nat→Prop)(ad:Addr)(n c:Nat)(w:World)(hx:(rS 4 (L.map bZ)).ok w F [.slice (some ad) n c])(hn:n≤1000):
 Calls prog 245 #[.slice (some ad) n c] w fun e w'=>∃v,e=.returned v∧OwnS w' w.heap.size 190 4 (fun b=>F b∧b<w.heap.size) v (L.map bZ)∧Below w.heap.size w w':=by
 have hq:=fun W=>Lib.run_eql_slice_nil (P:=prog) W 152 190 (some ad) n c 0 0 underlying152;have hba:=(az w.heap.size w).alloc (ah _) (.cells #[] 190)
 have HX:Hid ((rS 4 (L.map bZ)).ok (w.alloc (.cells #[] 190)) (fun b=>(F b∧b<w.heap.size)∧some b≠(Value.slice (some ⟨w.heap.size,0,none⟩) 0 0).ownBlock) [.slice (some ad) n c]):=
  ae ((rS 4 _).new ((rS 4 _).more hx fun b hb hl=>⟨⟨hb,hl⟩,fun e=>by simp[Value.ownBlock] at e;omega⟩) hba)
 have HO:Hid (OwnS (w.alloc (.cells #[] 190)) w.heap.size 190 4 (fun b=>F b∧b<w.heap.size) (.slice (some ⟨w.heap.size,0,none⟩) 0 0) []):=
  ae ⟨[],World.ownsRow_made w #[] 0 (ah _) (by unfold maxLen;omega) (by simp),by simp⟩
 have HBA:=ae hba;have hsz:=hba.size;have hnl:(([]:List Rp)).length+n≤1000000:=by simp;omega
 clear hx hba;go_enter func245,ntmps245
 go_wp2_with (at_builtin;refine KJ (w:=w.alloc (.cells #[] 190)) rfl _ _ rfl underlying152 zn rfl (by decide) (by decide) HO.out hsz hnl HX.out rfl rfl ?_)
 intro v w2 hO hb hv;have HO2:Hid (OwnS w2 w.heap.size 190 4 (fun b=>F b∧b<w.heap.size) v (L.map bZ)):=ae (by simpa using hO);have HB2:=ae (HBA.out.trans hb);clear hO hb hv;go_wp2_with fail;go_ret;exact⟨_,rfl,HO2.out,HB2.out⟩
end Go.Proofs.YtofgapdnadbgkaaGreatDoor
