import Derived.Test.YtofgapdnadbgkaaGreatDoorW37
set_option linter.unusedVariables false
set_option maxRecDepth 100000
set_option maxHeartbeats 400000000
namespace Go.Proofs.YtofgapdnadbgkaaGreatDoor
open Go.RowKit _root_.Go.Proofs.Tryz
section
variable {B:Nat}
def Dq(nm:ByteArray)(e:dM):Bool:=e.name.toList == nm.toList
theorem Hd(nm:ByteArray)(y:dM)(a:Option Addr)(n c G:Nat)(w:World)(hG:Blk w G 9 #[.string nm]):
 Calls prog 242 (#[.agg (fQ y (.slice a n c))]++#[.pointer (some ⟨G,0,none⟩)]) w fun r w'=>r=.returned (.bool (Dq nm y))∧Below w.heap.size w w':=by
 show Calls prog 242 #[.agg (fQ y (.slice a n c)),.pointer (some ⟨G,0,none⟩)] w _
 have S0:Hid (Sx w (w.alloc (.cells (fQ y (.slice a n c)) 190)) [bu w.heap.size 190 (fQ y (.slice a n c)),bu G 9 #[.string nm]]):=
  ae ((((Sx.nil w).add (bu G _ _) hG).alloc _).add (bu _ _ _) (Blk.new w _ _))
 clear hG;obtain⟨nm',ob',ln',tr'⟩:=y;unfold fQ at*;simp only at*;obtain⟨e0,e1,e2,e3⟩:=fB (S0.out.blk 0 rfl);have f0:(w.alloc (.cells #[.string nm',.int .i64 ob',.int .i64 ln',.slice a n c] 190)).cell? ⟨G,0,none⟩=some (.string nm):=(S0.out.blk 1 rfl).cell 0;go_enter func242,ntmps242;go_wp2_with fail;go_ret;exact⟨rfl,S0.out.1⟩
theorem AR(nm:ByteArray)(g p d0 d1 room:Nat)(m:dC)(R0 R1:List (List Nat))(w:World)(h:Sto B w g p d0 d1 room m R0 R1)(hn:m.objs.length≤100):
 Calls prog 175 #[.pointer (some ⟨g,0,none⟩),.string nm] w fun e w'=>e=.returned (.int .i64 (o6 (Dq nm) m.objs))∧Below w.heap.size w w':=by
 have hba:=(az w.heap.size w).alloc (ah _) (.cells #[.string nm] 9);have hN:=Blk.new w 9 #[.string nm];obtain⟨-,vd,vo,hst,-,ho⟩:=h.below hba;generalize hw0:w.alloc (.cells #[.string nm] 9)=w0 at*;obtain⟨a,n,c,rfl⟩:=nK ho
 have hl:m.objs.length=n:=by
  obtain⟨a',n',c',e',_,_,_,h4,_⟩:=ho;injection e' with e' _;injection e' with _ e2 _;rw[aG] at h4;omega
 have CI:=ae (Ea (Dq nm) 242 #[.pointer (some ⟨w.heap.size,0,none⟩)] m.objs (Fu w0) a n c w0 ho hl (by omega) (enters_of func242 (by kernel_rfl) rfl) (fun x hx W hW a2 c2 hr=>Hd nm x a2 _ c2 w.heap.size W (hN.below hW hN.lt)));have HB:=ae hba;have HW0:=ae hw0;obtain⟨k0,k1,k2,k3,k4,k5,k6,k7,-⟩:=bP hst;clear hst ho hN hba hw0 k0 k1 k2 k3 k4 k5 k6 h hl;go_enter func175,ntmps175;go_upto_region 1 with fail;rw[HW0.out];go_wp2_with fail;refine CI.out.mono ?_;rintro e w1 ⟨rfl,hb⟩;have HB1:=ae (HB.out.trans (hb.mono HB.out.size));clear hb CI;go_wp2_with fail;go_ret;exact⟨rfl,HB1.out⟩
theorem AU(nm:ByteArray)(g p d0 d1 room:Nat)(m:dC)(R0 R1:List (List Nat))(a:Option Addr)(n c:Nat)(w:World)(h:Sto B w g p d0 d1 room m R0 R1)(hnm:uT nm)(hno:∀e∈m.objs,Dq nm e=false)(ho:m.objs.length<12)(hd:m.drives.length≤64)(hd0:0<m.drives.length)(hd1:∀x∈m.drives,x≤1)
 (hk:ed m.K m.H m.Z=true)(hn:n≤m.K*m.Z*8)(hnx:m.next≤16777215)(hsq:m.seq<2147483647):
 Calls prog 166 #[.pointer (some ⟨g,0,none⟩),.string nm,.slice a n c] w fun e w'=>e=.returned (.int .i64 0)∧Below w.heap.size w w':=by
 have S0:Hid (Sx w w [kJ B g p d0 d1 room m R0 R1]):=ae ((Sx.nil w).add (kJ B g p d0 d1 room m R0 R1) h);have CO:=ae fun w (h:Sto B w g p d0 d1 room m R0 R1)=>DX g p d0 d1 room m R0 R1 w h;have CN:=ae fun w=>xh nm w hnm;have CF:=ae fun w (h:Sto B w g p d0 d1 room m R0 R1)=>AR nm g p d0 d1 room m R0 R1 w h (by omega);rw[o7 hno] at CF;have CL:=ae fun w (h:Sto B w g p d0 d1 room m R0 R1)=>lH g p d0 d1 room m R0 R1 w h hd hd1;have hok:=of_decide_eq_true hk;obtain⟨kz,hkz⟩:∃kz:Nat,kz=m.K*m.Z:=⟨_,rfl⟩;have hkz3:kz≤16*24:=by rw[hkz];exact Nat.mul_le_mul (by omega) (by omega)
 have hkI:(m.K:Int)*(m.Z:Int)=(kz:Int):=by rw[hkz,Int.natCast_mul]
 have hw1:IntKind.i64.wrap ((m.K:Int)*(m.Z:Int))=(kz:Int):=by rw[hkI,IntKind.wrap_i64];omega
 obtain⟨q,hq⟩:∃q:Nat,q=kz*8:=⟨_,rfl⟩;have hw2:IntKind.i64.wrap ((kz:Int)*8)=(q:Int):=by rw[IntKind.wrap_i64];omega
 rw[←hkz] at hn;have hnq:¬(q:Int)<(n:Int):=by omega
 have hnqN:n≤q:=by omega
 have hnqD:decide (q<n)=false:=decide_eq_false (by omega);have hobI:¬(12:Int)≤(m.objs.length:Int):=by omega
 have hdl:¬((m.drives.length:Int)=0):=by omega
 have hdN:¬(m.drives.length=0):=by omega
 have hdB:((m.drives.length:Int) == 0)=false:=by rw[beq_eq_false_iff_ne];omega
 have hdC:m.drives≠[]:=fun e=>by rw[e] at hd0;simp at hd0
 have hnxI:¬(16777215:Int)<(m.next:Int):=by omega
 have hsqI:¬(2147483647:Int)≤(m.seq:Int):=by omega
 clear h hnm hno ho hd hd0 hd1 hn hnx hsq hq hkI hkz hkz3 hok hk;go_enter func166,ntmps166;go_wp2_with fail;refine(CO.out w (S0.out.sto 0 rfl)).mono ?_;rintro e w1 ⟨rfl,hb⟩;have S1:=ae (S0.out.step hb);clear hb;go_wp2_with fail;refine(CN.out w1).mono ?_;rintro e w2 ⟨rfl,hb⟩;have S2:=ae (S1.out.step hb);clear hb;go_wp2_with fail;refine(CF.out w2 (S2.out.sto 0 rfl)).mono ?_;rintro e w3 ⟨rfl,hb⟩;have S3:=ae (S2.out.step hb);clear hb CO CN CF S0 S1 S2;obtain⟨-,vd,vo,hst,-,hob⟩:=S3.out.sto 0 rfl;obtain⟨ao,no,co,rfl⟩:=nK hob
 have hno:m.objs.length=no:=by
  obtain⟨a',n',c',e',_,_,_,h4,_⟩:=hob;injection e' with e' _;injection e' with _ e2 _;rw[aG] at h4;omega
 rw[hno] at hobI;have hobN:no<12:=by omega
 have hobD:decide (12≤no)=false:=decide_eq_false (by omega);have hobE:decide ((12:Int)≤(no:Int))=false:=decide_eq_false (by omega);have HST:=ae hst;clear hob hno hst;go_upto_region 7 with fail;refine bE (by kernel_rfl) (by kernel_rfl) ?_
 iterate 27 (
  with_reducible refine wpQuiet_step (fun Kq hKq=> ?_)
  go_simp
  first
  | refine hKq _ ?_
  | refine⟨_,fun _ _=>rfl,hKq _ ?_⟩
  | (apply Exists.intro
     refine⟨fun w' hw'=> ?_,hKq _ ?_⟩
     ·obtain⟨k0',k1',k2',k3',k4',k5',k6',k7',-⟩:=bP (HST.out.below hw' HST.out.lt)
      first
      | (go_simp
         first | exact rfl | exact⟨rfl,rfl⟩))
  clear hKq Kq)
 with_reducible refine wpQuiet_nil ?_
 intro w4 hw4;have S4:=ae (S3.out.step hw4);clear hw4 S3 HST;go_wp2_with fail;refine(CL.out w4 (S4.out.sto 0 rfl)).mono ?_;rintro e w5 ⟨v5,rfl,ho5,hb⟩;have S5:=ae (S4.out.step hb);obtain⟨a5,c5,rfl⟩:=ho5.lenA;obtain⟨-,vd,vo,hst,-,-⟩:=S5.out.sto 0 rfl;obtain⟨k0,k1,k2,k3,k4,k5,k6,k7,-⟩:=bP hst;have HB5:=ae S5.out.1;clear hb ho5 hst S4 CL S5 k2 k3 k4 k5 k6 k7 hw1 hw2;generalize ((m.next:Nat):Int)=nx at*;generalize ((m.seq:Nat):Int)=sq at*;go_wp2_with fail;go_ret;exact⟨rfl,HB5.out⟩
end
section
variable {B:Nat}
def ni(o b t:Nat):Nat:=128*o+16*b+t
def xx(K H Z o b t:Nat):Prop:=t<16∧dP K H Z (ni o b t:Nat) (List.range K)=true∧∀i,i<t→dP K H Z (ni o b i:Nat) (List.range K)=false
theorem Kl(K H Z o b t:Nat)(w:World)(hk:ed K H Z=true)(ho:o≤16777215)(hb:b≤8)(ht:xx K H Z o b t):
 Calls prog 234 #[bL K H Z,.int .i64 o,.int .i64 b] w fun e w'=>e=.returned (.tuple #[.int .i64 t,.bool true])∧Below w.heap.size w w':=by
 have S0:Hid (Sx w (w.alloc (.cells #[.int .i64 K,.int .i64 H,.int .i64 Z] 26)) [bu w.heap.size 26 #[.int .i64 K,.int .i64 H,.int .i64 Z]]):=
  ae ((((Sx.nil w).alloc _).add (bu _ _ _) (Blk.new w 26 #[.int .i64 K,.int .i64 H,.int .i64 Z])))
 have CS:=ae fun (n:Nat) (hn:n≤16) w=>mr o b n w ho hb hn;have CR:=ae fun (n:Nat) (hn:n≤16) w=>jl K H Z (ni o b n:Nat) w hk (by omega) (by unfold ni;omega);have HT:=ae ht;have ht16:=ht.1;clear hk ho hb ht;unfold bL at CR ⊢;go_enter func234,ntmps234;go_wp2_with fail;generalize w.alloc (.cells #[.int .i64 K,.int .i64 H,.int .i64 Z] 26)=w0 at*;have HB0:=ae (az w0.heap.size w0);go_loopw [9] (fun i wr=>∃k:Nat,k≤t∧i=.int .i64 k∧Hid (Below w0.heap.size w0 wr)) (fun i _=>16-(intOf i).toNat)
 case atStart=>exact⟨0,by omega,rfl,HB0⟩
 case round=>
  clear HB0;obtain⟨k,hkt,rfl,HB⟩:=hrel;have S1:=ae (S0.out.step HB.out);have hk16:(k:Int)<16:=(by omega);have CS1:=ae (CS.out k (by omega));have CR1:=ae (CR.out k (by omega));obtain⟨p0,p1,p2⟩:=qa (S1.out.blk 0 rfl);have hcase:k=t∨k<t:=(by omega);rcases hcase with he | hlt
  ·have HE:=ae he
   clear he;rw[show dP (K:Nat) H Z (ni o b k:Nat) (List.range K)=true from by rw[HE.out];exact HT.out.2.1] at CR1;unfold ni at CR1;go_upto_region 4 with fail;clear p0 p1 p2;refine bE (by kernel_rfl) (by kernel_rfl) ?_
   iterate 6 (
    with_reducible refine wpQuiet_step (fun Kq hKq=> ?_)
    go_simp
    first
    | refine hKq _ ?_
    | refine⟨_,fun _ _=>rfl,hKq _ ?_⟩
    | (apply Exists.intro
       refine⟨fun w' hw'=> ?_,hKq _ ?_⟩
       ·obtain⟨p0',p1',p2'⟩:=qa ((S1.out.step hw').blk 0 rfl)
        first
        | (go_simp
           first | exact rfl | exact⟨rfl,rfl⟩)
        | (go_at_call 178
           refine(CS1.out w').mono ?_;rintro r w5 ⟨rfl,rfl⟩;exact⟨rfl,hw'⟩)
        | (go_at_call 7
           refine(CR1.out w').mono ?_;rintro r w5 ⟨rfl,hb5⟩;exact⟨rfl,hw'.trans (hb5.mono hw'.size)⟩))
    clear hKq Kq)
   with_reducible refine wpQuiet_nil ?_
   intro w5 hw5;go_wp2_with fail;go_ret2;exact⟨by rw[HE.out];rfl,(S1.out.step hw5).1⟩
  ·rw[show dP (K:Nat) H Z (ni o b k:Nat) (List.range K)=false from HT.out.2.2 k hlt] at CR1
   have HLT:=ae hlt;clear hlt;unfold ni at CR1;go_upto_region 4 with fail;clear p0 p1 p2;refine bE (by kernel_rfl) (by kernel_rfl) ?_
   iterate 6 (
    with_reducible refine wpQuiet_step (fun Kq hKq=> ?_)
    go_simp
    first
    | refine hKq _ ?_
    | refine⟨_,fun _ _=>rfl,hKq _ ?_⟩
    | (apply Exists.intro
       refine⟨fun w' hw'=> ?_,hKq _ ?_⟩
       ·obtain⟨p0',p1',p2'⟩:=qa ((S1.out.step hw').blk 0 rfl)
        first
        | (go_simp
           first | exact rfl | exact⟨rfl,rfl⟩)
        | (go_at_call 178
           refine(CS1.out w').mono ?_;rintro r w5 ⟨rfl,rfl⟩;exact⟨rfl,hw'⟩)
        | (go_at_call 7
           refine(CR1.out w').mono ?_;rintro r w5 ⟨rfl,hb5⟩;exact⟨rfl,hw'.trans (hb5.mono hw'.size)⟩))
    clear hKq Kq)
   with_reducible refine wpQuiet_nil ?_
   intro w5 hw5;have HB5:=ae (HB.out.trans (hw5.mono HB.out.size));clear hw5;go_wp2_with fail;have hlt:=HLT.out;go_roundw
   case rel=>(try((repeat apply Exists.intro);refine⟨?_,rfl⟩));exact⟨k+1,by omega,by go_num,HB5⟩
   case measure=>simp[intOf];omega
theorem EA(K H Z o n:Nat)(T:List Nat)(w:World)(hk:ed K H Z=true)(ho:o≤16777215)(hn:n≤8)(hl:T.length=n)(hT:∀b,b<n→xx K H Z o b (T.getD b 0)):
 Calls prog 167 #[bL K H Z,.int .i64 o,.int .i64 n] w fun e w'=>∃v,e=.returned (.tuple #[v,.bool true])∧OwnI w' w.heap.size v T∧Below w.heap.size w w':=by
 have S0:Hid (Sx w (w.alloc (.cells #[.int .i64 K,.int .i64 H,.int .i64 Z] 26)) [bu w.heap.size 26 #[.int .i64 K,.int .i64 H,.int .i64 Z]]):=
  ae ((((Sx.nil w).alloc _).add (bu _ _ _) (Blk.new w 26 #[.int .i64 K,.int .i64 H,.int .i64 Z])))
 have CT:=ae fun (b:Nat) (hb:b<n) w=>Kl K H Z o b (T.getD b 0) w hk ho (by omega) (hT b hb);have HL:=ae hl;have hn8:n≤8:=hn;unfold bL at CT ⊢;clear hk ho hT hl;go_enter func167,ntmps167;go_wp2_with fail;have hsz0:w.heap.size≤(w.alloc (.cells #[.int .i64 K,.int .i64 H,.int .i64 Z] 26)).heap.size:=S0.out.1.size;generalize w.alloc (.cells #[.int .i64 K,.int .i64 H,.int .i64 Z] 26)=w0 at*;have HB0:=ae (az w0.heap.size w0);have HO0:Hid (OwnI w0 w0.heap.size (.slice none 0 0) (T.take 0)):=ae (OwnI.nil _ _);go_loopw [8,13] (fun v i wr=>∃k:Nat,k≤n∧i=.int .i64 k∧Hid (OwnI wr w0.heap.size v (T.take k))∧Hid (Below w0.heap.size w0 wr)) (fun _ i _=>n-(intOf i).toNat)
 case atStart=>exact⟨0,by omega,rfl,HO0,HB0⟩
 case round=>
  clear HB0 HO0;obtain⟨k,hkn,rfl,HO,HB⟩:=hrel;have S1:=ae (S0.out.step HB.out);obtain⟨bv,nv,cv,rfl⟩:=HO.out.sl;by_cases hlt:k<n
  ·have hltI:(k:Int)<(n:Int):=by omega
   have CT1:=ae (CT.out k hlt);obtain⟨p0,p1,p2⟩:=qa (S1.out.blk 0 rfl);have hkl:k<T.length:=(by rw[HL.out];exact hlt);have HT:Hid (T.take (k+1)=T.take k++[T.getD k 0]):=ae (by rw[aP hkl,af,ag hkl];rfl);have hml:(T.take k).length≤1000000:=(by rw[aI];omega);generalize T.getD k 0=x at*;clear hkl;go_wp2_with fail;refine(CT1.out wr).mono ?_;rintro r w2 ⟨rfl,hb2⟩;have HO2:=ae (HO.out.below hb2);have HB2:=ae (HB.out.trans (hb2.mono HB.out.size));have hsz:=HB2.out.size;clear hb2 p0 p1 p2 CT1 HO HB S1
   go_wp2_with (at_builtin;refine ky (w:=w2) (C:=w0.heap.size) (y:=x) rfl _ _ rfl rfl HO2.out hsz hml rfl rfl ?_)
   intro v3 w3 hO3 hb3;rw[←HT.out] at hO3;have HO3:=ae hO3;have HB3:=ae (HB2.out.trans hb3);clear hO3 hb3 HO2 HB2 HT;go_wp2_with fail;go_roundw
   case rel=>(try((repeat apply Exists.intro);refine⟨?_,rfl⟩));exact⟨k+1,by omega,by go_num,HO3,HB3⟩
   case measure=>simp[intOf];omega
  ·obtain rfl:k=n:=by omega
   rw[aO (by rw[HL.out];exact ah _)] at HO;go_wp2_with fail;go_ret2;exact⟨_,rfl,HO.out.base hsz0,S1.out.1⟩
end
theorem Hm(x f:Value)(w:World):Calls prog 321 #[x,.int .i64 0,.int .i64 1,f] w fun e w'=>e=.returned (.tuple #[])∧w'=w:=by
 go_enter func321,ntmps321;go_wp2_with fail;go_loopw [8] (fun i wr=>i=.int .i64 1∧Hid (wr=w)) (fun _ _=>0)
 case atStart=>exact⟨rfl,ae rfl⟩
 case round=>
  obtain⟨rfl,HW⟩:=hrel;go_wp2_with fail
  (try simp only[Exit.inBlock,Exit.then])
  refine bodyPost_end (results_none rfl _ _ _) rfl ?_;exact⟨rfl,HW.out⟩
theorem Hn(x f:Value)(l:Int)(w:World):Calls prog 294 #[x,.int .i64 0,.int .i64 1,.int .i64 l,f] w fun e w'=>e=.returned (.tuple #[])∧w'=w:=by
 have CI:=ae fun w=>Hm x f w;go_enter func294,ntmps294;go_wp2_with fail;go_loopw [1,2] (fun i j wr=>i=.int .i64 0∧j=.int .i64 1∧Hid (wr=w)) (fun _ _ _=>0)
 case atStart=>exact⟨rfl,rfl,ae rfl⟩
 case round=>
  obtain⟨rfl,rfl,HW⟩:=hrel;go_wp2_with fail;refine(CI.out wr).mono ?_;rintro e w1 ⟨rfl,rfl⟩;go_wp2_with fail
  (try simp only[Exit.inBlock,Exit.then])
  refine bodyPost_ret (results_none rfl _ _ _) rfl ?_;exact⟨rfl,HW.out⟩
theorem EC(a:Option Addr)(c:Nat)(f:Value)(w:World):Calls prog 237 #[.slice a 1 c,f] w fun e w'=>e=.returned (.tuple #[])∧w'=w:=by
 have CL:=ae fun w=>Tryz.bits_Len 1 w (by omega) (by omega);have CP:=ae fun l w=>Hn (.slice a 1 c) f l w;go_enter func237,ntmps237;go_wp2_with fail;refine(CL.out w).mono ?_;rintro e w1 ⟨rfl,rfl⟩;go_wp2_with fail;refine(CP.out _ _).mono ?_;rintro e w2 ⟨rfl,rfl⟩;go_wp2_with fail
 (try simp only[Exit.inBlock,Exit.then])
 refine bodyPost_end (results_none rfl _ _ _) rfl ?_;exact⟨rfl,rfl⟩
section
variable {B:Nat}
def qD(m:dC)(vd vo:Value)(p:Nat)(x0 x1:Value):Array Value:=bF m vd vo++#[.pointer (some ⟨p,0,none⟩),.int .i64 0,x0,x1]++Array.replicate 62 (.pointer none)
theorem Fy(m:dC)(vd vo:Value)(p:Nat)(x0 x1 y:Value):(qD m vd vo p x0 x1).setIfInBounds 10 y=qD m vd vo p y x1:=by
 unfold qD bF;apply Array.ext';simp
theorem FA(m:dC)(vd vo:Value)(p:Nat)(x0 x1 y:Value):(qD m vd vo p x0 x1).setIfInBounds 11 y=qD m vd vo p x0 y:=by
 unfold qD bF;apply Array.ext';simp
theorem BC:zeroCells157= #[.int .i64 0,.int .i64 0,.int .i64 0,.int .i64 0,.int .i64 0,.int .i64 0,.slice none 0 0,.slice none 0 0,.pointer none,.int .i64 0]++Array.replicate 64 (.pointer none):=by kernel_rfl
theorem IJ{a0 a1 a2 a3 a4 a5 a6 a7 a8 a9 b0 b1 b2 b3 b4 b5 b6 b7 b8 b9:Value}{r:Array Value}:
 ((((((((((#[a0,a1,a2,a3,a4,a5,a6,a7,a8,a9]++r).setIfInBounds 0 b0).setIfInBounds 1 b1).setIfInBounds 2 b2).setIfInBounds 3 b3).setIfInBounds 4 b4).setIfInBounds 5 b5).setIfInBounds 6 b6).setIfInBounds 7 b7).setIfInBounds 8 b8).setIfInBounds 9 b9= #[b0,b1,b2,b3,b4,b5,b6,b7,b8,b9]++r:=by
 apply Array.ext';simp
theorem stDc{w:World}{g p:Nat}{m:dC}{vd vo x0 x1:Value}(h:Blk w g 157 (qD m vd vo p x0 x1)):
 w.cell? ⟨g,0,none⟩=some (.int .i64 m.seq)∧w.cell? ⟨g,1,none⟩=some (.int .i64 m.next)∧w.cell? ⟨g,2,none⟩=some (.int .i64 m.K)∧w.cell? ⟨g,3,none⟩=some (.int .i64 m.H)∧w.cell? ⟨g,4,none⟩=some (.int .i64 m.Z)∧w.cell? ⟨g,5,none⟩=some (.int .i64 m.extra)∧
 w.cell? ⟨g,6,none⟩=some vd∧w.cell? ⟨g,7,none⟩=some vo:=
 ⟨(Blk.cell h 0).trans (by simp[qD,bF]),(Blk.cell h 1).trans (by simp[qD,bF]),(Blk.cell h 2).trans (by simp[qD,bF]),(Blk.cell h 3).trans (by simp[qD,bF]),(Blk.cell h 4).trans (by simp[qD,bF]),(Blk.cell h 5).trans (by simp[qD,bF]),
  (Blk.cell h 6).trans (by simp[qD,bF]),(Blk.cell h 7).trans (by simp[qD,bF])⟩
def bH(K H Z ex:Nat):dC:=⟨1,0,K,H,Z,ex,[0,1],[]⟩
theorem xU(k:Nat)(w:World)(F:Nat→Prop):(rS k (([]:List dM).map bZ)).ok w F [.slice none 0 0]:=
 ⟨none,0,0,rfl,ah _,Nat.zero_le _,fun _=>rfl,rfl,[],by simp,fun h=>absurd h (by omega),fun i R hR=>by simp at hR⟩
theorem Na{K H Z ex:Nat}(hk:ed K H Z=true)(hex:ex≤16):lm (bH K H Z ex):=
 ⟨⟨ah _,by show(1:Nat)≤2147483647;omega⟩,by show(0:Nat)≤16777216;omega,hk,hex,⟨by show zy 63 [0,1]=true;decide,by show(2:Nat)≤64;omega⟩,by show(0:Nat)≤12;omega,fun e he=>(by simp[bH] at he),fun i hi=>(by simp[bH] at hi),fun i j _ hj=>(by simp[bH] at hj)⟩
theorem Mj{K H Z ex:Nat}(hk:ed K H Z=true)(hex:ex≤16):sK (bH K H Z ex):=by
 have hok:=of_decide_eq_true hk;have e:gZ (bH K H Z ex)=[0,0,0,1,0,0,0,0,K,H,Z,ex,2,0,1,0]:=by unfold gZ bH;simp[Mk]
 refine⟨by rw[e];simp,by rw[e];simp,?_⟩;rw[e];intro x hx;simp at hx;omega
theorem BD(K H Z ex room pg:Nat)(F:Nat→Prop)(a:Option Addr)(c:Nat)(w:World)(hk:ed K H Z=true)(hex:ex≤16)(hr1':2≤room)(hr2:room≤512)(hp:PwS w pg)(hx:(rI [room,room]).ok w F [.slice a 2 c]):
 Calls prog 50 #[bL K H Z,.int .i64 ex,.pointer (some ⟨pg,0,none⟩),.slice a 2 c] w fun e w'=>∃g d0 d1,e=.returned (.tuple #[.pointer (some ⟨g,0,none⟩),.int .i64 0])∧w.heap.size≤g∧Sto w.heap.size w' g pg d0 d1 room (bH K H Z ex) [bY (bH K H Z ex)] [bY (bH K H Z ex)]∧w'.cell? ⟨g,7,none⟩=some (.slice none 0 0)∧Below w.heap.size w w':=by
 have S0:Hid (Sx w (w.alloc (.cells #[.int .i64 K,.int .i64 H,.int .i64 Z] 26)) [bu w.heap.size 26 #[.int .i64 K,.int .i64 H,.int .i64 Z],bu pg 149 pwC,eR F (.slice a 2 c) (rI [room,room])]):=
  ae (((((Sx.nil w).add (eR F (.slice a 2 c) (rI [room,room])) hx).add (bu pg 149 pwC) hp).alloc _).add (bu _ _ _) (Blk.new w _ _))
 have CP:=ae fun w (h:(rI [room,room]).ok w F [.slice a 2 c])=>Bb [room,room] F a 2 c w h rfl (by omega) (by omega) (by intro x hx;simp at hx;omega);have CM:=ae fun w=>eP K H Z w;rw[hk] at CM;have hexI:¬(16:Int)<(ex:Int):=by omega
 have hr1:1≤room:=by omega
 have HK:=ae hk;have HMAN:=ae (Na hk hex);have HPG:=ae (Mj hk hex);have HWX:=ae ((rI _).bl hx);unfold bL at CM ⊢;clear hx hp hk;go_enter func50,ntmps50;go_wp2_with fail;generalize w.alloc (.cells #[.int .i64 K,.int .i64 H,.int .i64 Z] 26)=w0 at*;refine(CP.out w0 (S0.out.rep 2 rfl)).mono ?_;rintro e w1 ⟨v1,rfl,ho1,hb1⟩;have HWG:=ae (show w.heap.size≤w0.heap.size from S0.out.1.size);have S1:=ae (S0.out.step hb1);have HO1:=ae ho1;obtain⟨a1,c1,rfl⟩:=ho1.lenA;rw[List.length_range] at HO1 ⊢;obtain⟨p0,p1,p2⟩:=qa (S1.out.blk 0 rfl);clear ho1 hb1 S0 CP;go_wp2_with fail;refine(CM.out w1).mono ?_;rintro e w2 ⟨rfl,hb2⟩;have S2:=ae (S1.out.step hb2);have HO2:=ae (HO1.out.below hb2);clear hb2 S1 HO1 p0 p1 p2 CM;obtain⟨p0,p1,p2⟩:=qa (S2.out.blk 0 rfl);have CF:=ae (El pg w2.drew (S2.out.blk 1 rfl))
 have HSC:Hid ((((((((((zeroCells157.setIfInBounds 0 (Value.int .i64 1)).setIfInBounds 1 (Value.int .i64 0)).setIfInBounds 2 (Value.int .i64 K)).setIfInBounds 3 (Value.int .i64 H)).setIfInBounds 4 (Value.int .i64 Z)).setIfInBounds 5 (Value.int .i64 ex)).setIfInBounds 6 (Value.slice a1 2 c1)).setIfInBounds 7 (Value.slice none 0 0)).setIfInBounds 8 (Value.pointer (some ⟨pg,0,none⟩))).setIfInBounds 9 (Value.int .i64 0)=qD (bH K H Z ex) (.slice a1 2 c1) (.slice none 0 0) pg (.pointer none) (.pointer none)):=ae (by
  rw[BC,IJ];unfold qD bF bH;apply Array.ext';simp[List.replicate_succ])
 go_wp2_with fail;go_cut [12] (fun v wx=>v=.pointer (some ⟨w2.heap.size,0,none⟩)∧Hid (Blk wx w2.heap.size 157 (qD (bH K H Z ex) (.slice a1 2 c1) (.slice none 0 0) pg (.pointer none) (.pointer none)))∧Hid (Below w2.heap.size w2 wx))
 case first=>
  go_region_law (go_simp
                 go_at_call 88;refine CF.out.mono ?_;rintro e w3 ⟨rfl,rfl⟩;go_simp)
  all_goals(
   go_simp;refine ‹∀(a':Act) (w':World),Met _ a' w'→_› _ _ ?_;go_meet;refine⟨rfl,ae ?_,ae (((az _ w2).alloc (ah _) _).drew)⟩;rw[←HSC.out];exact Blk.drew (Blk.new w2 _ _))
 case rest=>
  obtain⟨rfl,HST,HB3⟩:=hcut;rename World=>w3;have S3:=ae ((S2.out.step HB3.out).add (bu w2.heap.size 157 (qD (bH K H Z ex) (.slice a1 2 c1) (.slice none 0 0) pg (.pointer none) (.pointer none))) HST.out);have HO3:=ae (HO2.out.below HB3.out);have HGS:Hid (w0.heap.size≤w2.heap.size):=ae (by obtain⟨g',e',h1,h2⟩:=HO2.out.formA rfl (by omega);omega);have CS:=ae fun W (hd:(rI [0,1]).ok W Any [.slice a1 2 c1])=>kR (bH K H Z ex) (by simp[bH]) a1 none 2 c1 0 0 Any W hd rfl (xU 4 W Any) rfl HMAN.out _ rfl HPG.out.1 HPG.out.2.1 HPG.out.2.2;have hrmI:¬(room:Int)<1:=(by omega);clear S2 HO2 HST CF HSC p0 p1 p2 HB3;generalize hGS:w2.heap.size=GS at*;have HB0:=ae (az w3.heap.size w3);go_wp2_with fail;go_loopw [53] (fun i wr=>∃k:Nat,k≤2∧i=.int .i64 k∧Hid (Below w3.heap.size w3 wr)) (fun i _=>2-(intOf i).toNat)
  case atStart=>exact⟨0,by omega,rfl,HB0⟩
  case round=>
   clear HB0;obtain⟨k,hkn,rfl,HB⟩:=hrel;have S4:=ae (S3.out.step HB.out);have HO4:=ae (HO3.out.below HB.out);obtain⟨k0,k1,k2,k3,k4,k5,k6,k7⟩:=stDc (S4.out.blk 0 rfl);by_cases hlt:k<2
   ·have hltI:(k:Int)<2:=by omega
    obtain⟨ga,rfl,-⟩:=HO4.out.formA rfl (by omega);have cs:=(HO4.out.cellA rfl hlt).1;rw[show(List.range 2).getD k 0=k by rcases(show k=0∨k=1 by omega) with rfl | rfl <;> rfl] at cs;obtain⟨ax,cx,e,hrd,-⟩:=dB (S4.out.rep 3 rfl) rfl;injection e with e1 e2 e3;subst e1 e3;obtain⟨bx,ox,rfl,hbx,hcx⟩:=hrd.2 (by simp);have cq:=hcx k (.int .i64 room) (by rcases(show k=0∨k=1 by omega) with rfl | rfl <;> rfl);have CS1:=ae (CS.out wr.drew (Rp.any _ (gI HO4.out)));unfold bF bH at CS1;clear hrd hcx;go_upto_region 8 with fail
    go_region_law (go_simp
                   go_at_call 89;refine CS1.out.mono ?_;rintro e w5 ⟨b5,o5,c5,g5,rfl,-,-,hb5⟩;have HB5:=ae (HB.out.trans ((bA hb5).mono HB.out.size));have cq':w5.cell? ⟨bx,ox+k,none⟩=some (.int .i64 room):=((bA hb5).cell (p:=⟨bx,ox+k,none⟩) hbx).trans cq;clear hb5;go_simp)
    all_goals(
     clear CS1 k0 k1 k2 k3 k4 k5 k6 k7 cs cq cq';go_wp2_with fail;go_roundw
     case rel=>(try((repeat apply Exists.intro);refine⟨?_,rfl⟩));exact⟨k+1,by omega,by go_num,HB5⟩
     case measure=>simp[intOf];omega)
   ·obtain rfl:k=2:=by omega
    clear k0 k1 k2 k3 k4 k5 k6 k7;obtain⟨ga,rfl,-⟩:=HO4.out.formA rfl (by omega);go_wp2_with fail;rename World=>wo;have HST0:=ae (S4.out.blk 0 rfl);clear HB S3 HO3 CS;go_loopw [71] (fun i wr=>(i=.int .i64 0∧Hid (wr=wo))∨(i=.int .i64 1∧∃d0,Hid (Blk wr GS 157 (qD (bH K H Z ex) (.slice (some ⟨ga,0,none⟩) 2 c1) (.slice none 0 0) pg (.pointer (some ⟨d0,0,none⟩)) (.pointer none)))∧Hid (DrB wr d0 pg room (.slice none 0 0) 0)∧wo.heap.size≤d0∧Hid (Chg (·=GS) wo wr))∨(i=.int .i64 2∧∃d0 d1,Hid (Blk wr GS 157 (qD (bH K H Z ex) (.slice (some ⟨ga,0,none⟩) 2 c1) (.slice none 0 0) pg (.pointer (some ⟨d0,0,none⟩)) (.pointer (some ⟨d1,0,none⟩))))∧Hid (DrB wr d0 pg room (.slice none 0 0) 0)∧Hid (DrB wr d1 pg room (.slice none 0 0) 0)∧wo.heap.size≤d0∧wo.heap.size≤d1∧d0≠d1∧Hid (Chg (·=GS) wo wr))) (fun i _=>2-(intOf i).toNat)
    case atStart=>exact .inl ⟨rfl,ae rfl⟩
    case round=>
     rcases hrel with⟨rfl,HW⟩ | ⟨rfl,d0,HK,HD0,hd0,HC⟩ | ⟨rfl,d0,d1,HK,HD0,HD1,hd0,hd1,hdn,HC⟩
     ·obtain⟨HK,HC⟩:Hid (Blk wr GS 157 (qD (bH K H Z ex) (.slice (some ⟨ga,0,none⟩) 2 c1) (.slice none 0 0) pg (.pointer none) (.pointer none)))∧Hid (Chg (·=GS) wo wr):=⟨ae (by rw[HW.out];exact HST0.out),ae (by rw[HW.out];exact Chg.refl _ _)⟩
      clear HW;have HO5:=ae (HO4.out.keepO fun b hb=>HC.out.block b (HO4.out.ltA b hb).2 fun e=>Ty.ne2 e (HO4.out.ty b hb) (Blk.ty (S4.out.blk 0 rfl)) (by decide));obtain⟨ax,cx,e,hrd,-⟩:=dB ((rI _).keep HWX.out fun b hb _=>⟨(HC.out.block b (aY hb S4.out.1.size) fun e=>by have h1:b<w.heap.size:=hb;have:=HGS.out;have:=HWG.out;omega).trans (S4.out.1.block b hb),hb⟩) rfl;injection e with e1 e2 e3;subst e1 e3;obtain⟨bx,ox,rfl,hbx,hcx⟩:=hrd.2 (by simp);have cs:=(HO5.out.cellA rfl (show 0<2 by omega)).1;rw[show(List.range 2).getD 0 0=0 from rfl] at cs;have cq:=hcx 0 (.int .i64 room) rfl;rw[Nat.add_zero] at cq;have CN:=ae (JH room pg wr.drew ⟨hr1,hr2⟩);clear hrd hcx;go_upto_region 14 with fail
      go_region_law (go_simp
                     go_at_call 90;refine CN.out.mono ?_;rintro e w5 ⟨rfl,hd5,hb5⟩;replace hb5:=bA hb5;have HK5:=ae (HK.out.below hb5 HK.out.lt);have HN5:Hid (DrB w5 wr.heap.size pg room (.slice none 0 0) 0):=ae hd5;have HB5:=ae hb5;have f5:w5.frozen? ⟨GS,10,none⟩=false:=HK5.out.frozen 10;have c5:w5.cell? ⟨GS,10,none⟩=some (.pointer none):=(HK5.out.cell 10).trans (by simp[qD,bF]);have cq':w5.cell? ⟨bx,ox,none⟩=some (.int .i64 room):=(hb5.cell (p:=⟨bx,ox,none⟩) hbx).trans cq;clear hd5 hb5;go_simp)
      all_goals(
       have hx:=HK5.out.set 10 (.pointer (some ⟨wr.heap.size,0,none⟩));have HK6:Hid (Blk (w5.setCell ⟨GS,10,none⟩ (.pointer (some ⟨wr.heap.size,0,none⟩))) GS 157 (qD (bH K H Z ex) (.slice (some ⟨ga,0,none⟩) 2 c1) (.slice none 0 0) pg (.pointer (some ⟨wr.heap.size,0,none⟩)) (.pointer none))):=ae (by rw[Fy] at hx;exact hx);have HN6:Hid (DrB (w5.setCell ⟨GS,10,none⟩ (.pointer (some ⟨wr.heap.size,0,none⟩))) wr.heap.size pg room (.slice none 0 0) 0):=ae (Blk.far HN5.out (p:=⟨GS,10,none⟩) (show wr.heap.size≠GS from fun e=>by have:=HK.out.lt;omega) _);have HC6:Hid (Chg (·=GS) wo (w5.setCell ⟨GS,10,none⟩ (.pointer (some ⟨wr.heap.size,0,none⟩)))):=ae (HC.out.trans ((Chg.of HB5.out).set ⟨GS,10,none⟩ _ fun _=>rfl));have hlw:wo.heap.size≤wr.heap.size:=HC.out.size;clear hx HK5 HN5 HB5 f5 c5 cq' cq cs CN;go_wp2_with fail;go_roundw
       case rel=>first | exact .inr (.inl ⟨by go_num,_,HK6,HN6,hlw,HC6⟩) | ((repeat apply Exists.intro);exact⟨.inr (.inl ⟨by go_num,_,HK6,HN6,hlw,HC6⟩),rfl⟩)
       case measure=>simp[intOf])
     ·skip
      have HO5:=ae (HO4.out.keepO fun b hb=>HC.out.block b (HO4.out.ltA b hb).2 fun e=>Ty.ne2 e (HO4.out.ty b hb) (Blk.ty (S4.out.blk 0 rfl)) (by decide));obtain⟨ax,cx,e,hrd,-⟩:=dB ((rI _).keep HWX.out fun b hb _=>⟨(HC.out.block b (aY hb S4.out.1.size) fun e=>by have h1:b<w.heap.size:=hb;have:=HGS.out;have:=HWG.out;omega).trans (S4.out.1.block b hb),hb⟩) rfl;injection e with e1 e2 e3;subst e1 e3;obtain⟨bx,ox,rfl,hbx,hcx⟩:=hrd.2 (by simp);have cs:=(HO5.out.cellA rfl (show 1<2 by omega)).1;rw[show(List.range 2).getD 1 0=1 from rfl] at cs;have cq:=hcx 1 (.int .i64 room) rfl;have CN:=ae (JH room pg wr.drew ⟨hr1,hr2⟩);clear hrd hcx;go_upto_region 14 with fail
      go_region_law (go_simp
                     go_at_call 90;refine CN.out.mono ?_;rintro e w5 ⟨rfl,hd5,hb5⟩;replace hb5:=bA hb5;have HK5:=ae (HK.out.below hb5 HK.out.lt);have HN5:Hid (DrB w5 wr.heap.size pg room (.slice none 0 0) 0):=ae hd5;have HB5:=ae hb5;have f5:w5.frozen? ⟨GS,11,none⟩=false:=HK5.out.frozen 11;have c5:w5.cell? ⟨GS,11,none⟩=some (.pointer none):=(HK5.out.cell 11).trans (by simp[qD,bF]);have cq':w5.cell? ⟨bx,ox+1,none⟩=some (.int .i64 room):=(hb5.cell (p:=⟨bx,ox+1,none⟩) hbx).trans cq;clear hd5 hb5;go_simp)
      all_goals(
       have hx:=HK5.out.set 11 (.pointer (some ⟨wr.heap.size,0,none⟩));have HK6:Hid (Blk (w5.setCell ⟨GS,11,none⟩ (.pointer (some ⟨wr.heap.size,0,none⟩))) GS 157 (qD (bH K H Z ex) (.slice (some ⟨ga,0,none⟩) 2 c1) (.slice none 0 0) pg (.pointer (some ⟨d0,0,none⟩)) (.pointer (some ⟨wr.heap.size,0,none⟩)))):=ae (by rw[FA] at hx;exact hx);have HN6:Hid (DrB (w5.setCell ⟨GS,11,none⟩ (.pointer (some ⟨wr.heap.size,0,none⟩))) wr.heap.size pg room (.slice none 0 0) 0):=ae (Blk.far HN5.out (p:=⟨GS,11,none⟩) (show wr.heap.size≠GS from fun e=>by have:=HK.out.lt;omega) _);have HC6:Hid (Chg (·=GS) wo (w5.setCell ⟨GS,11,none⟩ (.pointer (some ⟨wr.heap.size,0,none⟩)))):=ae (HC.out.trans ((Chg.of HB5.out).set ⟨GS,11,none⟩ _ fun _=>rfl));have hlw:wo.heap.size≤wr.heap.size:=HC.out.size;have HD6:Hid (DrB (w5.setCell ⟨GS,11,none⟩ (.pointer (some ⟨wr.heap.size,0,none⟩))) d0 pg room (.slice none 0 0) 0):=ae (Blk.far (Blk.below HD0.out HB5.out (Blk.lt HD0.out)) (p:=⟨GS,11,none⟩) (show d0≠GS from fun e=>Ty.ne2 e (Blk.ty HD0.out) (Blk.ty HK.out) (by decide)) _);have hdn:d0≠wr.heap.size:=fun e=>(by have:=Blk.lt HD0.out;omega);clear hx HK5 HN5 HB5 f5 c5 cq' cq cs CN;go_wp2_with fail;go_roundw
       case rel=>first | exact .inr (.inr ⟨by go_num,_,_,HK6,HD6,HN6,hd0,hlw,hdn,HC6⟩) | ((repeat apply Exists.intro);exact⟨.inr (.inr ⟨by go_num,_,_,HK6,HD6,HN6,hd0,hlw,hdn,HC6⟩),rfl⟩)
       case measure=>simp[intOf])
     ·have hww:w.heap.size≤wo.heap.size:=S4.out.1.size
      have hwg:w.heap.size≤GS:=aQ HWG.out HGS.out;have HO5:=ae (HO4.out.keepO fun b hb=>HC.out.block b (HO4.out.ltA b hb).2 fun e=>Ty.ne2 e (HO4.out.ty b hb) (Blk.ty (S4.out.blk 0 rfl)) (by decide));have HSTO:Hid (Sto w.heap.size wr GS pg d0 d1 room (bH K H Z ex) [] []):=ae ⟨⟨Blk.chg (S4.out.blk 2 rfl) HC.out (fun e=>Ty.ne2 e (Blk.ty (S4.out.blk 2 rfl)) (Blk.ty (S4.out.blk 0 rfl)) (by decide)),⟨none,none,⟨_,0,HD0.out,OwnS.nil _ _ _ _ _,ah _,rfl,by simp⟩,⟨_,0,HD1.out,OwnS.nil _ _ _ _ _,ah _,rfl,by simp⟩,by simp,by simp⟩,hdn,by omega,by omega⟩,_,_,HK.out,yu HO5.out,xU 4 wr _⟩;have CPG:=ae (wL (bH K H Z ex) (by simp[bH]) (some ⟨ga,0,none⟩) none 2 c1 0 0 Any wr (Rp.any _ (gI HO5.out)) rfl (xU 4 wr _) rfl HMAN.out _ rfl HPG.out.1 HPG.out.2.1 HPG.out.2.2 [0,1] (some ⟨ga,0,none⟩) 2 c1 (Rp.any _ (gI HO5.out)) rfl (by omega));have HBW:Hid (Below w.heap.size w wr):=ae (S4.out.1.trans (HC.out.below hww fun k e=>by rw[e];exact hwg));have HPL:=ae (sM HPG.out);have HGG:=ae hwg;obtain⟨k0,k1,k2,k3,k4,k5,k6,k7⟩:=stDc HK.out;unfold bF at CPG;unfold bH at k0 k1 k2 k3 k4 k5;simp only[bH] at CPG;clear HC HD0 HD1 S4 HO4 HO5 HST0;go_wp2_with fail;refine CPG.out.mono ?_;rintro e w5 ⟨v5,rfl,hr5,hb5⟩;obtain⟨ap,np,cp,rfl⟩:=nK hr5;have hr6:(rS 2 ((cN (bH K H Z ex) [0,1]).map cJ)).ok w5 (Fu w5) [.slice ap np cp]:=hr5
      have hnp:np=2:=by
       obtain⟨a',n',c',e',_,_,_,h4,_⟩:=hr6;injection e' with e' _;injection e' with _ e2 _;have:((cN (bH K H Z ex) [0,1]).map cJ).length=2:=rfl;omega
      subst hnp
      have CA:=ae (lay_all (B:=w.heap.size) (cN (bH K H Z ex) [0,1]) ap 2 cp GS pg d0 d1 room (bH K H Z ex) [] [] w5 (HSTO.out.below hb5) ((rS 2 _).more hr6 fun b hb _=>hb.fd) rfl (by omega) (by omega) (fun x hx=>by
       obtain⟨s,hs,rfl⟩:=List.mem_map.1 hx;refine⟨?_,HPL.out⟩;simp at hs;omega) (by simp;omega) hr2)
      have HB5:=ae (HBW.out.trans (hb5.mono HBW.out.size));have HKA:=ae (HK.out.below hb5 HK.out.lt);clear hr5 hr6 hb5 HSTO CPG HBW HK k0 k1 k2 k3 k4 k5 k6 k7;go_wp2_with fail;refine CA.out.mono ?_;rintro e w6 ⟨rfl,hs6,hc6⟩
      have HS6:Hid (Sto w.heap.size w6 GS pg d0 d1 room (bH K H Z ex) [bY (bH K H Z ex)] [bY (bH K H Z ex)]):=ae (by
       have e0:jh (cN (bH K H Z ex) [0,1]) []=[bY (bH K H Z ex)]:=(by simp[jh,cN,vU]);have e1:all1 (cN (bH K H Z ex) [0,1]) []=[bY (bH K H Z ex)]:=(by simp[all1,cN,vV]);rw[e0,e1] at hs6;exact hs6)
      have HB6:=ae (HB5.out.trans (hc6.lo HB5.out.size));have HKB:Hid (w6.cell? ⟨GS,7,none⟩=some (.slice none 0 0)):=ae (((HKA.out.chg hc6 fun hm=>Md.not (Blk.ty HKA.out) (by decide) (by decide) hm.2).cell 7).trans (by simp[qD,bF]));clear hs6 hc6 CA HB5;go_wp2_with fail;go_ret2;exact⟨GS,d0,d1,rfl,HGG.out,HS6.out,HKB.out,HB6.out⟩
end
section
variable {B:Nat}
def Fm(w:World)(b:Nat):Prop:=Fu w b∧¬Ty 154 w b
theorem Fm.keep{w w':World}{b:Nat}(h:Fm w b)(hk:w'.heap[b]? =w.heap[b]?):Fm w' b:=⟨h.1.keep hk,fun ht=>h.2 (ht.keep hk.symm)⟩
theorem Rp.fm(R:Rp){w w':World}{us:List Value}(h:R.ok w (Fm w) us)(hb:Below w.heap.size w w'):R.ok w' (Fm w') us:=
 R.keep h fun b hF hl=>⟨hb.block b hl,hF.keep (hb.block b hl)⟩
theorem Rp.fmU(R:Rp){w:World}{us:List Value}(h:R.ok w (Fm w) us):R.ok w (Fu w) us:=R.more h fun b hb _=>hb.1
theorem OwnS.repM{w:World}{C:Nat}{e:TypeId}{k:Nat}{v:Value}{L:List Rp}(h:OwnS w C e k (Fm w) v L)(he:e≠235∧e≠23∧e≠157)(hm:e≠154):(rS k L).ok w (Fm w) [v]:=by
 have hty:=h.ownTy;obtain⟨cs,h1,h2⟩:=h;obtain⟨a,c,rfl,r1,r2,r3,r4,r5⟩:=bV h1;refine⟨a,L.length,c,rfl,r2,r3,r1,rfl,cs,r4,fun hn=> ?_,fun i R hR=>R.more (h2 i R hR) fun b hb _=>hb.1⟩;obtain⟨b,o,e1,⟨hb,_⟩,hv,hc⟩:=r5 hn;exact⟨b,o,e1,⟨Mt.not (hty b hv) he.1 he.2.1 he.2.2,fun ht=>(hty b hv).ne ht hm⟩,hc⟩
theorem oW{w:World}{C:Nat}{v:Value}{l:List Nat}(h:OwnI w C v l):(rI l).ok w (Fm w) [v]:=by
 obtain⟨a,c,rfl,h1,h2,h3,h4,h5⟩:=bV (k:=1) h;rw[Nat.mul_one] at h4 h5;refine⟨a,l.length,c,rfl,h2,h3,h1,h4,fun hn=> ?_⟩;obtain⟨b,o,e1,⟨hb,_⟩,hv,hc⟩:=h5 hn;refine⟨b,o,e1,?_,hc⟩;have ht:=h.ty b hv;exact⟨Mt.not ht (by decide) (by decide) (by decide),fun hm=>ht.ne hm (by decide)⟩
def dY(K H Z ex:Nat)(e:dM):dC:=⟨2,1,K,H,Z,ex,[0,1],[e]⟩
theorem Ig(K H Z ex:Nat)(e:dM)(a1 at_:Option Addr)(c1 ct:Nat)(F:Nat→Prop)(w:World)(hd:(rI [0,1]).ok w F [.slice a1 2 c1])(ht:(rI e.tries).ok w (Fm w) [.slice at_ e.tries.length ct]):
 Calls prog 169 #[.agg (bF (bH K H Z ex) (.slice a1 2 c1) (.slice none 0 0)),.agg (fQ e (.slice at_ e.tries.length ct))] w fun r w'=>∃v a c,r=.returned (.agg (bF (dY K H Z ex e) v (.slice a 1 c)))∧OwnI w' w.heap.size v [0,1]∧(rS 4 ([e].map bZ)).ok w' (Fm w') [.slice a 1 c]∧Below w.heap.size w w':=by
 have HT:Hid ((rI e.tries).ok w (fun b=>b<w.heap.size∧Fm w b) [.slice at_ e.tries.length ct]):=ae ((rI _).more ht fun b hb hl=>⟨hl,hb⟩);have CO:=ae fun w (h:(rI [0,1]).ok w F [.slice a1 2 c1])=>Hb (bH K H Z ex) a1 2 c1 F w h rfl (by omega);have HD:=ae hd;clear hd ht;obtain⟨nm,ob,ln,tr⟩:=e;unfold bF bH at CO ⊢;unfold fQ dY;simp only at*;obtain⟨w0,hw0⟩:∃w0,w0=((w.alloc (.cells #[.int .i64 1,.int .i64 0,.int .i64 K,.int .i64 H,.int .i64 Z,.int .i64 ex,.slice a1 2 c1,.slice none 0 0] 154)).alloc (.cells #[.string nm,.int .i64 ob,.int .i64 ln,.slice at_ tr.length ct] 190)).alloc (.cells #[.int .i64 0,.int .i64 0,.int .i64 0,.int .i64 0,.int .i64 0,.int .i64 0,.slice none 0 0,.slice none 0 0] 154):=⟨_,rfl⟩;have hsz1:(w.alloc (.cells #[.int .i64 1,.int .i64 0,.int .i64 K,.int .i64 H,.int .i64 Z,.int .i64 ex,.slice a1 2 c1,.slice none 0 0] 154)).heap.size=w.heap.size+1:=by simp
 have hsz2:((w.alloc (.cells #[.int .i64 1,.int .i64 0,.int .i64 K,.int .i64 H,.int .i64 Z,.int .i64 ex,.slice a1 2 c1,.slice none 0 0] 154)).alloc (.cells #[.string nm,.int .i64 ob,.int .i64 ln,.slice at_ tr.length ct] 190)).heap.size=w.heap.size+1+1:=by simp
 have HX0:Hid (Blk w0 w.heap.size 154 #[.int .i64 1,.int .i64 0,.int .i64 K,.int .i64 H,.int .i64 Z,.int .i64 ex,.slice a1 2 c1,.slice none 0 0]):=ae (by rw[hw0];exact((Blk.new w _ _).alloc _).alloc _);have HE0:Hid (Blk w0 (w.heap.size+1) 190 #[.string nm,.int .i64 ob,.int .i64 ln,.slice at_ tr.length ct]):=ae (by rw[hw0,←hsz1];exact(Blk.new _ _ _).alloc _);have HZ0:Hid (Blk w0 (w.heap.size+1+1) 154 #[.int .i64 0,.int .i64 0,.int .i64 0,.int .i64 0,.int .i64 0,.int .i64 0,.slice none 0 0,.slice none 0 0]):=ae (by rw[hw0,←hsz2];exact Blk.new _ _ _);have HB0:Hid (Below w.heap.size w w0):=ae (by rw[hw0];exact(((az _ _).alloc (ah _) _).alloc (by simp) _).alloc (by simp;omega) _);have HW0:=ae hw0;clear hw0 hsz1 hsz2;go_enter func169,ntmps169;go_upto_region 1 with fail;rw[←HW0.out];have hGs:=HZ0.out.lt;clear HW0;obtain⟨G,hG⟩:∃G,G=w.heap.size:=⟨_,rfl⟩;rw[←hG] at HX0 HE0 HZ0 HB0 HT hGs ⊢;have HG:=ae hG;have HD0:=ae ((rI _).new HD.out (hG▸HB0.out));clear hG HD;obtain⟨x0,x1,x2,x3,x4,x5,x6,x7⟩:=dc HX0.out;go_wp2_with fail;refine(CO.out w0 HD0.out).mono ?_;rintro r w1 ⟨v3,rfl,ho1,hb1⟩;obtain⟨a3,c3,rfl⟩:=ho1.lenA;have HO1:Hid (OwnI w1 w0.heap.size (.slice a3 2 c3) [0,1]):=ae ho1;have HE1:=ae (HE0.out.below hb1 HE0.out.lt);have HZ1:=ae (HZ0.out.below hb1 HZ0.out.lt);have HB1:Hid (Below G w w1):=ae (HB0.out.trans (hb1.mono (by omega)));have hs1:=hb1.size;clear ho1 hb1 HX0 HE0 HZ0 HD0 CO x0 x1 x2 x3 x4 x5 x6 x7;have HX4:=ae (Blk.new w1 154 #[.int .i64 2,.int .i64 1,.int .i64 K,.int .i64 H,.int .i64 Z,.int .i64 ex,.slice a3 2 c3,.slice none 0 0]);have HB4:Hid (Below w1.heap.size w1 (w1.alloc (.cells #[.int .i64 2,.int .i64 1,.int .i64 K,.int .i64 H,.int .i64 Z,.int .i64 ex,.slice a3 2 c3,.slice none 0 0] 154))):=ae ((az w1.heap.size w1).alloc (ah _) _);have HE4:=ae (HE1.out.below HB4.out HE1.out.lt);obtain⟨e0,e1,e2,e3⟩:=fB HE4.out;have hE1:G+1<w1.heap.size:=HE1.out.lt;go_upto_region 4 with fail;have HN5:Hid (G+1+1<w1.heap.size):=ae HZ1.out.lt;have HZ4:=ae (HZ1.out.below HB4.out HZ1.out.lt);have HO4:=ae (HO1.out.below HB4.out);have HBG4:Hid (Below G w (w1.alloc (.cells #[.int .i64 2,.int .i64 1,.int .i64 K,.int .i64 H,.int .i64 Z,.int .i64 ex,.slice a3 2 c3,.slice none 0 0] 154))):=ae (HB1.out.trans (HB4.out.mono (by omega)));clear HE1 HZ1 HO1 HB1 HB4;generalize w1.alloc (.cells #[.int .i64 2,.int .i64 1,.int .i64 K,.int .i64 H,.int .i64 Z,.int .i64 ex,.slice a3 2 c3,.slice none 0 0] 154)=w4 at*;generalize w1.heap.size=N5 at*;have x7:w4.cell? ⟨N5,7,none⟩=some (.slice none 0 0):=HX4.out.cell 7
 have HR:Hid ((bZ ⟨nm,ob,ln,tr⟩).ok w4 (fun b=>(b<G∧Fm w b)∧some b≠(Value.slice none 0 0).ownBlock) [.string nm,.int .i64 ob,.int .i64 ln,.slice at_ tr.length ct]):=ae ⟨[.string nm,.int .i64 ob,.int .i64 ln],[.slice at_ tr.length ct],rfl,uM (by intro u hu;simp at hu;rcases hu with rfl | rfl | rfl <;> rfl),(rI tr).keep HT.out fun b hb _=>⟨HBG4.out.block b hb.1,hb,by simp[Value.ownBlock]⟩⟩
 go_wp2_with (at_builtin;refine dJ (w:=w4) (w1:=w4) (C:=w4.heap.size) (F:=fun b=>b<G∧Fm w b) (v:=.slice none 0 0) (L:=[]) rfl _ _ rfl underlying152 zn rfl (by decide) (by decide) (OwnS.nil _ _ _ _ _) (az _ _) (ah _) (by simp) (R:=bZ ⟨nm,ob,ln,tr⟩) HR.out rfl rfl rfl ?_)
 intro v6 w6 hO6 hb6;obtain⟨a6,c6,rfl,-⟩:=hO6.val;have HO6:Hid (OwnS w6 w4.heap.size 190 4 (fun b=>b<G∧Fm w b) (.slice a6 1 c6) [bZ ⟨nm,ob,ln,tr⟩]):=ae hO6;have HX6:=ae (HX4.out.below hb6 HX4.out.lt);have HZ6:=ae (HZ4.out.below hb6 HZ4.out.lt);have HI6:=ae (HO4.out.below hb6);have HBG6:=ae (HBG4.out.trans (hb6.mono (by have:=HX4.out.lt;have:=HN5.out;omega)));clear hO6 hb6 HR HX4 HZ4 HO4 HBG4 x7 e0 e1 e2 e3 HE4;have f7:=HX6.out.frozen 7;have x7:w6.cell? ⟨N5,7,none⟩=some (.slice none 0 0):=HX6.out.cell 7;have hset:Blk (w6.setCell ⟨N5,7,none⟩ (.slice a6 1 c6)) N5 154 #[.int .i64 2,.int .i64 1,.int .i64 K,.int .i64 H,.int .i64 Z,.int .i64 ex,.slice a3 2 c3,.slice a6 1 c6]:=by simpa using HX6.out.set 7 (.slice a6 1 c6)
 have HX7:=ae hset;have hb7:∀b,b≠N5→(w6.setCell ⟨N5,7,none⟩ (.slice a6 1 c6)).heap[b]? =w6.heap[b]? :=fun b hb=>aZ _ _ _ b hb;have HZ7:=ae (HZ6.out.far (p:=⟨N5,7,none⟩) (show G+1+1≠N5 by have:=HN5.out;omega) (.slice a6 1 c6));have HI7:Hid (OwnI (w6.setCell ⟨N5,7,none⟩ (.slice a6 1 c6)) w0.heap.size (.slice a3 2 c3) [0,1]):=ae (HI6.out.keepO fun b hb=>hb7 b fun e=>Ty.ne2 e (HI6.out.ty b hb) (Blk.ty HX6.out) (by decide));have HO7:Hid (OwnS (w6.setCell ⟨N5,7,none⟩ (.slice a6 1 c6)) w4.heap.size 190 4 (fun b=>b<G∧Fm w b) (.slice a6 1 c6) [bZ ⟨nm,ob,ln,tr⟩]):=ae (HO6.out.keepAt (fun b hb=>hb7 b fun e=>Ty.ne2 e (HO6.out.ownTy b hb) (Blk.ty HX6.out) (by decide)) fun b hb _ _=>hb7 b (by have:=HN5.out;omega));have HB7:Hid (Below G w (w6.setCell ⟨N5,7,none⟩ (.slice a6 1 c6))):=ae (HBG6.out.setCell (p:=⟨N5,7,none⟩) (by show G≤N5;have:=HN5.out;omega) _);clear hset hb7 HX6 HZ6 HI6 HO6 HBG6;have CS:=ae fun w=>EC a6 c6 (.func (.func 238) #[] #[]) w;go_upto_region 5 with fail;generalize w6.setCell ⟨N5,7,none⟩ (.slice a6 1 c6)=w7 at*;clear x7 f7;obtain⟨x0,x1,x2,x3,x4,x5,x6,x7⟩:=dc HX7.out;go_wp2_with fail;refine(CS.out w7).mono ?_;rintro r wx ⟨rfl,rfl⟩;clear CS
 go_wp2_with (change wpList _ _ _ (Oper.mk none (Op.store 154 _ _) _ _ _ _ :: _) _ _;refine wpList_store_row rfl 154 _ _ rfl (G+1+1) #[.int .i64 2,.int .i64 1,.int .i64 K,.int .i64 H,.int .i64 Z,.int .i64 ex,.slice a3 2 c3,.slice a6 1 c6] rfl rfl 154 _ HZ7.out (by kernel_rfl) rfl (by kernel_rfl) ?_)
 have HR:=ae (HZ7.out.row #[.int .i64 2,.int .i64 1,.int .i64 K,.int .i64 H,.int .i64 Z,.int .i64 ex,.slice a3 2 c3,.slice a6 1 c6]);have HB8:=ae (bR HB7.out (show G≤G+1+1 by omega) #[.int .i64 2,.int .i64 1,.int .i64 K,.int .i64 H,.int .i64 Z,.int .i64 ex,.slice a3 2 c3,.slice a6 1 c6]);have hother:∀b,b≠G+1+1→(wx.setRow (G+1+1) #[.int .i64 2,.int .i64 1,.int .i64 K,.int .i64 H,.int .i64 Z,.int .i64 ex,.slice a3 2 c3,.slice a6 1 c6]).heap[b]? =wx.heap[b]? :=fun b hb=>setRow_other _ _ _ _ (by first | exact hb | exact hb.symm);have HI8:Hid (OwnI (wx.setRow (G+1+1) #[.int .i64 2,.int .i64 1,.int .i64 K,.int .i64 H,.int .i64 Z,.int .i64 ex,.slice a3 2 c3,.slice a6 1 c6]) w0.heap.size (.slice a3 2 c3) [0,1]):=ae (HI7.out.keepO fun b hb=>hother b fun e=>Ty.ne2 e (HI7.out.ty b hb) (Blk.ty HZ7.out) (by decide));have HO8:Hid (OwnS (wx.setRow (G+1+1) #[.int .i64 2,.int .i64 1,.int .i64 K,.int .i64 H,.int .i64 Z,.int .i64 ex,.slice a3 2 c3,.slice a6 1 c6]) w4.heap.size 190 4 (fun b=>b<G∧Fm w b) (.slice a6 1 c6) [bZ ⟨nm,ob,ln,tr⟩]):=ae (HO7.out.keepAt (fun b hb=>hother b fun e=>Ty.ne2 e (HO7.out.ownTy b hb) (Blk.ty HZ7.out) (by decide)) fun b hb _ _=>hother b (by omega));clear hother HX7 HZ7 HI7 HO7 HB7 x0 x1 x2 x3 x4 x5 x6 x7;generalize wx.setRow (G+1+1) #[.int .i64 2,.int .i64 1,.int .i64 K,.int .i64 H,.int .i64 Z,.int .i64 ex,.slice a3 2 c3,.slice a6 1 c6]=w8 at*;go_wp2_with fail
 (try simp only[Exit.inBlock,Exit.then])
 refine bodyPost_ret (results_cell_row rfl _ _ (G+1+1) 154 #[.int .i64 2,.int .i64 1,.int .i64 K,.int .i64 H,.int .i64 Z,.int .i64 ex,.slice a3 2 c3,.slice a6 1 c6] (0,0) _ rfl HR.out underlying154 rfl (by kernel_rfl)) rfl ?_;rw[←HG.out];refine⟨_,_,_,rfl,HI8.out.base (by omega),?_,HB8.out⟩;exact(HO8.out.base (ah _) fun b hb=>hb.2.keep (HB8.out.block b hb.1)).repM (by decide) (by decide)
end
end Go.Proofs.YtofgapdnadbgkaaGreatDoor
