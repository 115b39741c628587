import Derived.Test.YtgccllbnfngpcaaGreatDoorW20
import Derived.Shelf.SlSortCmp.WholeK
import Derived.Test.YtgccllbnfngpcaaGreatDoorChecked
set_option linter.unusedVariables false
set_option maxRecDepth 100000
set_option maxHeartbeats 400000000
namespace Go.Proofs.YtgccllbnfngpcaaGreatDoor
open Go.RowKit _root_.Go.Proofs.Tryz List
open Value (int slice pointer bool)
open IntKind (i64)
open Ending (returned)
open Obj (cells)
def farI(x y u v:Int):Int:=(x-u)*(x-u)+(y-v)*(y-v)
theorem IZ{x:Int}(h:x.natAbs<=10000):0<=x*x/\x*x<=100000000:=by
 have h1:0<=x*x:=by
  rcases Int.le_total 0 x with h | h
  ·exact Int.mul_nonneg h h
  ·exact Int.mul_nonneg_of_nonpos_of_nonpos h h
 refine⟨h1,?_⟩;have h2:(x*x).natAbs<=10000*10000:=by rw[Int.natAbs_mul];exact bn h h
 omega
theorem Fx(ar ai br bi:Nat)(x y u v:Int)(h1:Cz ar ai x y)(h2:Cz br bi u v)(hx:(x-u).natAbs<=10000)(hy:(y-v).natAbs<=10000)(w:World):
 Calls prog 220 #[.complex .f64 ar ai,.complex .f64 br bi] w fun e w'=>∃r,e=returned (.float .f64 r)/\Fz r (farI x y u v)/\w=w':=by
 have q1:=IZ hx;have q2:=IZ hy;obtain⟨dr,di,e1,hd1,hd2⟩:=O4 h1 h2 (by omega) (by omega);obtain⟨r1,e2,f2⟩:=rG hd1 hd1 (by omega);obtain⟨r2,e3,f3⟩:=rG hd2 hd2 (by omega);obtain⟨r3,e4,f4⟩:=zf f2 f3 (by omega);have o1:=fun t w=>run_complex_sum (P:=prog) w .sub (Or.inr rfl) t .f64 _ _ _ _ _ _ e1;have o2:=fun t w=>run_float_arith (P:=prog) w .mul t .f64 _ _ _ e2;have o3:=fun t w=>run_float_arith (P:=prog) w .mul t .f64 _ _ _ e3;have o4:=fun t w=>run_float_arith (P:=prog) w .add t .f64 _ _ _ e4;have F:=ae f4;clear h1 h2 hd1 hd2 f2 f3 f4 e1 e2 e3 e4 q1 q2;go_enter func220,ntmps220
 go_wp2_with (simp only[o1,o2,o3,o4])
 go_ret;exact⟨_,rfl,F.out,rfl⟩
theorem ES(x:Nat)(a:Int)(w:World)(hx:Fz x a):Calls prog 281 #[.float .f64 x] w fun e w'=>e=returned (bool false)/\w'=w:=by
 have ho:FloatKind.f64.format.order x x=some .eq:=by rw[Ba hx hx];simp
 go_enter func281,ntmps281;go_wp2_with fail;go_ret;exact⟨by first | rfl | (simp[ho]),rfl⟩
theorem O1(b o n c:Nat)(x:Int)(hx:x≠0)(w:World)(h0:0<n)(hc:w.cell? ⟨b,o,none⟩=some (int i64 x)):Calls prog 223 #[slice (some ⟨b,o,none⟩) n c] w fun e w'=>e=returned (int i64 x)/\w'=w:=by
 have h0I:(0:Int)<(n:Int):=by omega
 have hxB:(x == 0)=false:=by rw[beq_eq_false_iff_ne];exact hx
 go_enter func223,ntmps223;go_wp2_with fail;go_loopw [8] (fun i wr=>i=int i64 0/\Hid (wr=w)) (fun _ _=>0)
 case atStart=>exact⟨rfl,ae rfl⟩
 case round=>
  obtain⟨rfl,HW⟩:=hrel;obtain rfl:=HW.out;go_wp2_with fail;go_ret;exact⟨rfl,rfl⟩
theorem ms01:[0,1].mergeSort leB=[0,1]:=by simp[mergeSort,leB]
theorem ms1:[1].mergeSort leB=[1]:=by simp[]
theorem yG:rE 2 (iH (jF 0 0))=[0,1]:=by
 unfold rE;rw[show kH (fe 2) (iH (jF 0 0))=2 by kernel_rfl];unfold rz;rw[bf (by kernel_rfl)];unfold chosen;rw[show(eF false (Int.toNat 2) (gN (fe 2) (iH (jF 0 0))) (Int.toNat ((2:Nat):Int))).take (Int.toNat ((2:Nat):Int))=[0,1] by kernel_rfl];exact ms01
theorem Ez:rE 2 (iH (jF 0 1))=[0,1]:=by
 unfold rE;rw[show kH (fe 2) (iH (jF 0 1))=2 by kernel_rfl];unfold rz;rw[bf (by kernel_rfl)];unfold chosen
 first
 | (rw[show(eF false (Int.toNat 2) (gN (fe 2) (iH (jF 0 1))) (Int.toNat ((2:Nat):Int))).take (Int.toNat ((2:Nat):Int))=[0,1] by kernel_rfl]
    exact ms01)
 | (rw[show(eF false (Int.toNat 2) (gN (fe 2) (iH (jF 0 1))) (Int.toNat ((2:Nat):Int))).take (Int.toNat ((2:Nat):Int))=[1,0] by kernel_rfl]
    simp[mergeSort,leB])
theorem EA:rE 2 (iH (jF 0 2))=[1]:=by
 unfold rE;rw[show kH (fe 2) (iH (jF 0 2))=1 by kernel_rfl];unfold rz;rw[bf (by kernel_rfl)];unfold chosen;rw[show(eF false (Int.toNat 2) (gN (fe 2) (iH (jF 0 2))) (Int.toNat ((1:Nat):Int))).take (Int.toNat ((1:Nat):Int))=[1] by kernel_rfl];exact ms1
theorem uR(i:Int)(h:0<=i/\i<=65535):iO 1 1 4 0 i=pI 2 (rE 2 (iH (jF 0 i))):=by
 unfold iO;rw[bf ⟨by decide,h⟩];rfl
theorem EB:dc 1 1 4 (0:Nat) (range 1)=true:=by
 have e:dV 1 1 4 (0:Nat) (range 1)=[[3,1],[1,1]]:=by
  show bS 1 1 1++[iO 1 1 4 0 0]=_;rw[uR 0 (by omega),yG]
  kernel_rfl
 have h2:(dE [[3,1],[1,1]]).length=2:=by kernel_rfl
 unfold dc;rw[e,h2];rfl
theorem Mo:dc 1 1 4 (0:Nat) [0,2,1]=true:=by
 have e:dV 1 1 4 (0:Nat) [0,2,1]=[[3,1],[1,1],[0,1],[1,1]]:=by
  show bS 1 1 1++[iO 1 1 4 0 0,iO 1 1 4 0 2,iO 1 1 4 0 1]=_;rw[uR 0 (by omega),yG,uR 2 (by omega),EA,uR 1 (by omega),Ez]
  kernel_rfl
 have h2:(dE [[3,1],[1,1],[0,1],[1,1]]).length=2:=by kernel_rfl
 unfold dc;rw[e,h2];rfl
theorem Jy:(prog.info? 277).map (fun i=>(i.zero,i.size,i.bytes))=some (some (.agg #[int i64 0,.float .f64 0]),2,16):=by kernel_rfl
def sG(s x:Nat):Rp:=rVs [int i64 s,.float .f64 x]
theorem Oz(L:List Nat)(F:Nat->Prop)(a:Option Addr)(n c id:Nat)(w:World)(hx:(rI L).ok w F [slice a n c])(hl:L.length=n)(h0:0<n):
 Calls prog 161 #[slice a n c,int i64 id] w fun e w'=>e=returned (int i64 (L.getD (id%n) 0:Nat))/\w'=w:=by
 obtain⟨a',c',e,hrd,-⟩:=dA hx hl;injection e with e1 e2 e3;subst e1 e3;obtain⟨b,o,rfl,hb,hcc⟩:=hrd.2 h0;have hlt:id%n<n:=Nat.mod_lt _ h0;have cq:=hcc (id%n) _ (bL (by rw[hl];exact hlt));have h1:Int.tmod (id:Int) (n:Int)=((id%n:Nat):Int):=by rw[Int.tmod_eq_emod_of_nonneg (by omega)];rfl
 have hn0:((n:Int) == 0)=false:=by rw[beq_eq_false_iff_ne];omega
 have hn1:¬n=0:=by omega
 have hn2:¬(n:Int)=0:=by omega
 generalize id%n=q at*;have hqI:(q:Int)<(n:Int):=by omega
 clear hx hrd hcc hl;go_enter func161,ntmps161;go_wp2_with fail;go_ret;exact⟨rfl,rfl⟩
end Go.Proofs.YtgccllbnfngpcaaGreatDoor
namespace Go.Proofs
open Go.Shelf
def Tryz.laysFar_ren:Go.Shelf.Ren:=⟨fun | 6=>221 | 15=>121 | 14=>280 | 28=>193 | 29=>194 | 20=>341 | 21=>342 | 22=>343 | 23=>344 | 24=>345 | 25=>346 | 26=>347 | 27=>348 | 46=>377 | 47=>249 | 48=>250 | 49=>378 | 50=>379 | 57=>391 | n=>n,fun | 22=>272 | 24=>277 | 25=>281 | 3=>3 | 39=>181 | 0=>0 | 53=>31 | 55=>248 | 4=>4 | 46=>241 | 45=>240 | 50=>214 | 5=>5 | 9=>9 | 66=>310 | 70=>314 | 76=>374 | 77=>375 | n=>n,fun | n=>n⟩
theorem Tryz.laysFar:Go.Proofs.SlLaysF0.n6 prog Tryz.laysFar_ren:= {
 mixed:=by kernel_rfl
 f6:=⟨Tryz.f221.name,by decide,func221.trans (congrArg some (by kernel_rfl))⟩
 f14:=⟨Tryz.f280.name,by decide,func280.trans (congrArg some (by kernel_rfl))⟩
 f15:=func121.trans (congrArg some (by kernel_rfl))
 f20:=⟨Tryz.f341.name,by decide,func341.trans (congrArg some (by kernel_rfl))⟩
 f21:=⟨Tryz.f342.name,by decide,func342.trans (congrArg some (by kernel_rfl))⟩
 f22:=⟨Tryz.f343.name,by decide,func343.trans (congrArg some (by kernel_rfl))⟩
 f23:=⟨Tryz.f344.name,by decide,func344.trans (congrArg some (by kernel_rfl))⟩
 f24:=⟨Tryz.f345.name,by decide,func345.trans (congrArg some (by kernel_rfl))⟩
 f25:=⟨Tryz.f346.name,by decide,func346.trans (congrArg some (by kernel_rfl))⟩
 f26:=⟨Tryz.f347.name,by decide,func347.trans (congrArg some (by kernel_rfl))⟩
 f27:=⟨Tryz.f348.name,by decide,func348.trans (congrArg some (by kernel_rfl))⟩
 f28:=func193.trans (congrArg some (by kernel_rfl))
 f29:=func194.trans (congrArg some (by kernel_rfl))
 f46:=⟨Tryz.f377.name,by decide,func377.trans (congrArg some (by kernel_rfl))⟩
 f47:=func249.trans (congrArg some (by kernel_rfl))
 f48:=func250.trans (congrArg some (by kernel_rfl))
 f49:=⟨Tryz.f378.name,by decide,func378.trans (congrArg some (by kernel_rfl))⟩
 f50:=⟨Tryz.f379.name,by decide,func379.trans (congrArg some (by kernel_rfl))⟩
 f57:=⟨Tryz.f391.name,by decide,func391.trans (congrArg some (by kernel_rfl))⟩
 t0:=underlying0
 a0:=Tryz.isAgg0
 z0:=Tryz.sizeOf0
 v0:=Tryz.zeroValue0
 t3:=underlying3
 a3:=Tryz.isAgg3
 z3:=Tryz.sizeOf3
 v3:=Tryz.zeroValue3
 t4:=underlying4
 a4:=Tryz.isAgg4
 z4:=Tryz.sizeOf4
 v4:=Tryz.zeroValue4
 t5:=underlying5
 a5:=Tryz.isAgg5
 z5:=Tryz.sizeOf5
 v5:=Tryz.zeroValue5
 t9:=underlying9
 a9:=Tryz.isAgg9
 z9:=Tryz.sizeOf9
 v9:=Tryz.zeroValue9
 t22:=underlying272
 a22:=Tryz.isAgg272
 z22:=Tryz.sizeOf272
 v22:=Tryz.zeroValue272
 t25:=underlying281
 a25:=Tryz.isAgg281
 z25:=Tryz.sizeOf281
 v25:=Tryz.zeroValue281
 t39:=underlying181
 a39:=Tryz.isAgg181
 z39:=Tryz.sizeOf181
 v39:=Tryz.zeroValue181
 t45:=underlying240
 a45:=Tryz.isAgg240
 z45:=Tryz.sizeOf240
 v45:=Tryz.zeroValue240
 t46:=underlying241
 a46:=Tryz.isAgg241
 z46:=Tryz.sizeOf241
 v46:=Tryz.zeroValue241
 t50:=underlying214
 a50:=Tryz.isAgg214
 z50:=Tryz.sizeOf214
 v50:=Tryz.zeroValue214
 t53:=underlying31
 a53:=Tryz.isAgg31
 z53:=Tryz.sizeOf31
 v53:=Tryz.zeroValue31
 t55:=underlying248
 a55:=Tryz.isAgg248
 z55:=Tryz.sizeOf248
 v55:=Tryz.zeroValue248
 t66:=underlying310
 a66:=Tryz.isAgg310
 z66:=Tryz.sizeOf310
 v66:=Tryz.zeroValue310
 t70:=underlying314
 a70:=Tryz.isAgg314
 z70:=Tryz.sizeOf314
 v70:=Tryz.zeroValue314
 t76:=underlying374
 a76:=Tryz.isAgg374
 z76:=Tryz.sizeOf374
 v76:=Tryz.zeroValue374
 t77:=underlying375
 a77:=Tryz.isAgg375
 z77:=Tryz.sizeOf375
 v77:=Tryz.zeroValue375 }
end Go.Proofs
namespace Go.Proofs.YtgccllbnfngpcaaGreatDoor
open Go.RowKit _root_.Go.Proofs.Tryz List
open Value (int slice pointer bool)
open IntKind (i64)
open Ending (returned)
open Obj (cells)
section
open Go.RowKit Go.Lib Go.Sort
def sx(a b:Int):Int:=if a<b then-1 else if b<a then 1 else 0
theorem BG(x y:Nat)(a b:Int)(w:World)(hx:Fz x a)(hy:Fz y b):Calls prog 224 #[.float .f64 x,.float .f64 y] w fun e w'=>e=returned (int i64 (sx a b))/\w'=w:=by
 have ho:FloatKind.f64.format.order x y=some (compare a b):=by rw[Ba hx hy]
 have CX:=ae fun w=>ES x a w hx;have CY:=ae fun w=>ES y b w hy
 have hcase:(compare a b=.lt/\sx a b= -1)\/(compare a b=.gt/\sx a b=1)\/(compare a b=.eq/\sx a b=0):=by
  rcases Int.lt_trichotomy a b with h | h | h
  ·exact .inl ⟨by rw[Int.compare_eq_lt];exact h,by unfold sx;rw[bf h]⟩
  ·exact .inr (.inr ⟨by rw[Int.compare_eq_eq];exact h,by unfold sx;rw[bg (by omega),bg (by omega)]⟩)
  ·exact .inr (.inl ⟨by rw[Int.compare_eq_gt];omega,by unfold sx;rw[bg (by omega),bf h]⟩)
 clear hx hy;rcases hcase with⟨hc,hv⟩ | ⟨hc,hv⟩ | ⟨hc,hv⟩
 all_goals(
  rw[hc] at ho;rw[hv];clear hc hv;go_enter func224,ntmps224;go_wp2_with fail;refine(CX.out w).mono ?_;rintro e w1 ⟨rfl,rfl⟩;go_wp2_with fail;refine(CY.out w1).mono ?_;rintro e w2 ⟨rfl,rfl⟩;go_wp2_with fail;go_ret;exact⟨rfl,rfl⟩)
def BH(x y:Int):Int:=if x=0 then y else x
theorem LG(x y:Int)(b o c:Nat)(w:World)(c0:w.cell? ⟨b,o,none⟩=some (int i64 x))(c1:w.cell? ⟨b,o+1,none⟩=some (int i64 y)):Calls prog 223 #[slice (some ⟨b,o,none⟩) 2 c] w fun e w'=>e=returned (int i64 (BH x y))/\w'=w:=by
 by_cases hx:x=0
 ·subst hx
  rw[show BH 0 y=y from rfl];go_enter func223,ntmps223;go_wp2_with fail;go_loopw [8] (fun i wr=>∃k:Nat,k<=2/\i=int i64 k/\Hid (k=2->y=0)/\Hid (wr=w)) (fun i _=>2-(intOf i).toNat)
  case atStart=>exact⟨0,by omega,rfl,ae (fun h=>by omega),ae rfl⟩
  case round=>
   obtain⟨k,hk,rfl,HY,HW⟩:=hrel;obtain rfl:=HW.out;have hk3:k=0\/k=1\/k=2:=(by omega);rcases hk3 with rfl | rfl | rfl
   ·go_wp2_with fail
    go_roundw
    case rel=>exact⟨1,by omega,by first | rfl | go_num,ae (fun h=>by omega),ae (by first | rfl | trivial)⟩
    case measure=>simp[intOf]
   ·by_cases hy:y=0
    ·subst hy
     go_wp2_with fail;go_roundw
     case rel=>exact⟨2,ah 2,rfl,ae (fun _=>by first | rfl | trivial),ae (by first | rfl | trivial)⟩
     case measure=>simp[intOf]
    ·have hyB:(y == 0)=false:=by rw[beq_eq_false_iff_ne];exact hy
     go_wp2_with fail;go_ret;exact⟨rfl,rfl⟩
   ·obtain rfl:y=0:=HY.out rfl
    go_wp2_with fail;go_ret;exact⟨rfl,rfl⟩
 ·rw[show BH x y=x by unfold BH;rw[bg hx]]
  exact O1 b o 2 c x hx w (by omega) c0
structure gW where
 s:Nat
 x:Nat
 a:Int
 h:Fz x a
instance:Inhabited gW:=⟨⟨0,0,0,jl⟩⟩
def jP(y:gW):List Value:=[int i64 y.s,.float .f64 y.x]
def zD(y z:gW):Int:=BH (sx y.a z.a) (Lib.compareInt y.s z.s)
theorem IP(y z:gW):ltOf zD y z=decide (y.a<z.a\/(y.a=z.a/\y.s<z.s)):=by
 unfold ltOf zD BH sx Lib.compareInt;by_cases h1:y.a<z.a
 ·simp[h1]
 ·by_cases h2:z.a<y.a
  ·have h3:¬y.a=z.a:=by omega
   simp[h1,h2,h3]
  ·have h3:y.a=z.a:=by omega
   by_cases h4:(y.s:Int)<z.s
   ·have h5:y.s<z.s:=by omega
    simp[h3,h4,h5]
   ·have h5:¬y.s<z.s:=by omega
    by_cases h6:(z.s:Int)<y.s
    ·simp[h3,h4,h5,h6]
    ·simp[h3,h4,h5,h6]
theorem Ol:SWO (ltOf zD) where
 irrefl x:=by rw[IP];simp
 trans x y z h1 h2:=by rw[IP] at*;simp at*;omega
 ntrans x y z h1 h2:=by rw[IP] at*;simp at*;omega
theorem Fq(s t x y:Nat)(a b:Int)(hx:Fz x a)(hy:Fz y b)(r:Int)(hr:BH (sx a b) (Lib.compareInt s t)=r)(w:World):Calls prog 222 #[.agg #[int i64 s,.float .f64 x],.agg #[int i64 t,.float .f64 y]] w fun e w'=>e=returned (int i64 r)/\∃q os',w'=grow (w.drewN q) os':=by
 have CF:=ae fun w=>BG x y a b w hx hy;have CI:=ae fun w=>Tryz.cmp_Compare_int s t w;have CR:=ae fun b' o c w=>LG (sx a b) (Lib.compareInt s t) b' o c w;rw[hr] at CR;clear hr hx hy;generalize sx a b=p at*;generalize Lib.compareInt s t=q at*;go_enter func222,ntmps222;go_upto_region 1 with fail;have hsz1:(w.alloc (cells #[int i64 s,.float .f64 x] 277)).heap.size=w.heap.size+1:=by simp
 have HX:=ae ((Blk.new w 277 #[int i64 s,.float .f64 x]).alloc (cells #[int i64 t,.float .f64 y] 277));have HY:Hid (Blk ((w.alloc (cells #[int i64 s,.float .f64 x] 277)).alloc (cells #[int i64 t,.float .f64 y] 277)) (w.heap.size+1) 277 #[int i64 t,.float .f64 y]):=ae (by rw[<-hsz1];exact Blk.new _ _ _);clear hsz1;generalize hw0:(w.alloc (cells #[int i64 s,.float .f64 x] 277)).alloc (cells #[int i64 t,.float .f64 y] 277)=w0 at*;have HW0:=ae hw0;clear hw0;have x0:w0.cell? ⟨w.heap.size,0,none⟩=some (int i64 s):=HX.out.cell 0;have x1:w0.cell? ⟨w.heap.size,1,none⟩=some (.float .f64 x):=HX.out.cell 1;have y0:w0.cell? ⟨w.heap.size+1,0,none⟩=some (int i64 t):=HY.out.cell 0;have y1:w0.cell? ⟨w.heap.size+1,1,none⟩=some (.float .f64 y):=HY.out.cell 1
 go_region_law (first
  | (go_simp;go_at_call 224;refine(CF.out _).mono ?_;rintro e wx ⟨rfl,rfl⟩;go_simp)
  | (go_simp;go_at_call 225;refine(CI.out _).mono ?_;rintro e wx ⟨rfl,rfl⟩;go_simp)
  | (go_simp;go_at_call 223;refine(CR.out _ _ _ _ (by first | exact dZ _ _ _ 0 | (go_simp;done)) (by first | exact dZ _ _ _ 1 | (go_simp;done))).mono ?_;rintro e wx ⟨rfl,rfl⟩;go_simp))
 all_goals(
  go_simp;go_wp2_with fail;go_ret;exact⟨rfl,1,_,by rw[<-HW0.out,alloc_eq_grow,alloc_eq_grow,alloc_eq_grow,grow_grow,grow_grow];rfl⟩)
theorem IQ(y z:gW)(w:World):Calls prog 222 #[.agg #[int i64 y.s,.float .f64 y.x],.agg #[int i64 z.s,.float .f64 z.x]] w fun e w'=>e=returned (int i64 (zD y z))/\∃q os',w'=grow (w.drewN q) os':=
 Fq y.s z.s y.x z.x y.a z.a y.h z.h _ rfl w
theorem Om:∀w,(isAgg (Tryz.laysFar_ren.t 24)).run prog w=.ok true w:=fun w=>Tryz.isAgg277 w
theorem LH:∀w,(Go.sizeOf (Tryz.laysFar_ren.t 24)).run prog w=.ok 2 w:=fun w=>Tryz.sizeOf277 w
def RowF(w:World)(g:Nat)(d:List gW):Prop:=g<w.heap.size/\∀i,i<d.length->w.cell? ⟨g,i*2,none⟩=some (int i64 (d.getD i default).s)/\w.cell? ⟨g,i*2+1,none⟩=some (.float .f64 (d.getD i default).x)
theorem RowF.below{w w':World}{g:Nat}{d:List gW}(h:RowF w g d)(hb:Below w.heap.size w w'):RowF w' g d:=
 ⟨aU h.1 hb.size,fun i hi=>⟨(hb.cell (p:=⟨g,i*2,none⟩) h.1).trans (h.2 i hi).1,(hb.cell (p:=⟨g,i*2+1,none⟩) h.1).trans (h.2 i hi).2⟩⟩
theorem NT(d:List gW){t:Nat}(ht:t<d.length*2):(flatK jP 2 d.toArray)[t]! =(jP (d.getD (t/2) default))[t%2]! :=by
 rw[get_flatK _ _ _ _ (by simpa using ht)];congr 2;have h2:t/2<d.length:=by omega
 rw[getElem!_pos d.toArray (t/2) (by simpa using h2),af,ag h2];simp
theorem Fs{w:World}{g:Nat}{d:List gW}(h:HoldsK jP 2 w g 0 d.toArray)(hg:g<w.heap.size):RowF w g d:=by
 refine⟨hg,fun i hi=> ?_⟩;have hs:(flatK jP 2 d.toArray).size=d.length*2:=by simp
 have h0:=(h (i*2) (by rw[hs];omega)).1;have h1:=(h (i*2+1) (by rw[hs];omega)).1;rw[NT d (by omega)] at h0 h1;rw[Nat.zero_add] at h0 h1;rw[show i*2/2=i by omega,show i*2%2=0 by omega] at h0;rw[show(i*2+1)/2=i by omega,show(i*2+1)%2=1 by omega] at h1;exact⟨h0,h1⟩
theorem Ft{w:World}{g n:Nat}{cur:Array Value}{d:List gW}(hb:Blk w g 277 cur)(hl:d.length=n)(hc:∀i,i<n->cur[i*2]? =some (int i64 (d.getD i default).s)/\cur[i*2+1]? =some (.float .f64 (d.getD i default).x)):HoldsK jP 2 w g 0 d.toArray:=by
 intro t ht;have ht:t<d.length*2:=by simpa using ht
 rw[Nat.zero_add];refine⟨?_,hb.frozen t⟩;rw[hb.cell,NT d ht];have h:=hc (t/2) (by omega);rcases Nat.mod_two_eq_zero_or_one t with h2 | h2
 ·rw[h2,show cur[t]? =cur[t/2*2]? by congr 1;omega,h.1];rfl
 ·rw[h2,show cur[t]? =cur[t/2*2+1]? by congr 1;omega,h.2];rfl
theorem Fv(d:List gW)(g n c:Nat)(w:World)(hH:HoldsK jP 2 w g 0 d.toArray)(hg:g<w.heap.size)(hl:d.length=n)(hn:n<=1000):
 Calls prog 221 #[slice (some ⟨g,0,none⟩) n c,.func (.func 222) #[] #[]] w fun e w'=>e=returned (.tuple #[])/\∃d':List gW,d'.Perm d/\RowF w' g d'/\∀C,C<=g->Below C w w':=by
 have hsz:d.toArray.size=n:=by simpa using hl
 have hcon:=AnyQ.slices_SortFunc Tryz.laysFar 2 Om LH jP (fun _=>rfl) (fun x v hv=>by simp[jP] at hv;rcases hv with rfl | rfl <;> rfl) zD Ol 222 #[] g 0 c d.toArray w (enters_of func222 (by kernel_rfl) rfl) (fun m os dk hdk y z=>by rw[Array.append_empty];exact IQ y z _) hH hg (by rw[hsz];omega);rw[hsz] at hcon;change Calls prog 221 _ _ _ at hcon;refine hcon.mono ?_;rintro e w' ⟨rfl,d',q,os,hp,-,rfl⟩;have hd:d'.size=d.toArray.size:=hp.1
 have hpm:d'.toList.Perm d:=by
  have h:=hp.2.2;rw[<-hsz] at h;have e1:d'.extract 0 d.toArray.size=d':=(by rw[<-hd];simp);have e2:d.toArray.extract 0 d.toArray.size=d.toArray:=(by simp);rw[e1,e2] at h;simpa using h
 refine⟨rfl,d'.toList,hpm,?_,fun C hC=> ?_⟩
 ·have hk:=holdsK_sortWorldK jP 2 w g 0 q d.toArray d' os hg hH hd
  exact Fs (by simpa using hk) (lt_sortWorldK jP 2 w g 0 q d' os hg)
 ·refine⟨rfl,rfl,rfl,?_,fun k hk=> ?_⟩
  ·unfold sortWorldK putRowK;simp
  ·unfold sortWorldK putRowK
   rw[heap_grow_old _ _ (by have:g<w.heap.size:=hg;simp;omega)];have:g≠k:=(by omega);simp[putRow,mapBlock,Sort.ahead,Array.getElem?_modify,this]
theorem pK(P:Program)(w:World)(a:Addr)(m:Mode)(k:FloatKind)(x:Nat):(store a (.float k x) m).run P w=stored P w a (.float k x) m:=run_store P w a _ m rfl
attribute [local go_sem] pK
theorem LI{w:World}{C:Nat}{v:Value}{d:List gW}(h:OwnS w C 277 2 (fun _=>False) v (d.map fun y=>sG y.s y.x))(h0:0<d.length):∃g c,v=slice (some ⟨g,0,none⟩) d.length c/\C<=g/\g<w.heap.size/\HoldsK jP 2 w g 0 d.toArray:=by
 have hlt:=h.lt;obtain⟨cs,h1,h2⟩:=h;rw[aC] at h1;have hl:cs.length=d.length*2:=h1.1;rcases h1.2 with⟨_,hn⟩ | ⟨g,cap,cur,rfl,hg,hh,_,_,hsz,htk⟩
 ·exact absurd hn (by omega)
 ·refine⟨g,cap,rfl,hg,(hlt g rfl).2,Ft (n:=d.length) hh rfl fun i hi=> ?_⟩
  have hk:=(h2 i (sG (d.getD i default).s (d.getD i default).x) (by rw[List.getElem?_map,af,ag hi];rfl)).1
  have e0:cs[i*2]? =some (int i64 (d.getD i default).s):=by
   have h3:((cs.drop (i*2)).take 2)[0]? =some (int i64 (d.getD i default).s):=(by rw[hk];rfl);rw[List.getElem?_take,bf (by omega),List.getElem?_drop] at h3;exact h3
  have e1:cs[i*2+1]? =some (.float .f64 (d.getD i default).x):=by
   have h3:((cs.drop (i*2)).take 2)[1]? =some (.float .f64 (d.getD i default).x):=(by rw[hk];rfl);rw[List.getElem?_take,bf (by omega),List.getElem?_drop] at h3;exact h3
  rw[<-htk] at e0 e1;rw[List.getElem?_take,bf (by omega),Array.getElem?_toList] at e0 e1;exact⟨e0,e1⟩
theorem IR{L:List Nat}{n:Nat}(h:∀x∈L,x<n)(hd:L.Nodup):L.length<=n:=by
 have h1:=List.Nodup.length_le_of_subset hd (l₂:=range n) fun x hx=>bA.2 (h x hx)
 rwa [aY] at h1
theorem yh{k:Nat}(h:k<64):(II (k:Nat)).1.natAbs<=100/\(II (k:Nat)).2.natAbs<=100:=by
 have hd:∀j:Fin 64,(II ((j.val:Nat):Int)).1.natAbs<=100/\(II ((j.val:Nat):Int)).2.natAbs<=100:=by decide +kernel
 exact hd ⟨k,h⟩
end
section
open Go.RowKit Go.Lib Go.Sort
attribute [local go_sem] pK
def kI(S:List Nat):Array Value:=((range 64).map fun j=>Value.bool (decide (j∈S))).toArray
theorem ry(S:List Nat){x:Nat}(hx:x<64):(kI S)[x]? =some (bool (decide (x∈S))):=by
 unfold kI;rw[List.getElem?_toArray,List.getElem?_map,List.getElem?_range hx];rfl
theorem Gq(S:List Nat){x:Nat}(hx:x<64):(kI S).setIfInBounds x (bool true)=kI (S++[x]):=by
 have hs:∀S,(kI S).size=64:=fun S=>by unfold kI;simp
 apply Array.ext (by rw[Array.size_setIfInBounds,hs,hs]);intro j h1 h2;rw[hs] at h2;have e1:(kI (S++[x]))[j]? =some (bool (decide (j∈S++[x]))):=ry _ h2;have e2:(kI S)[j]? =some (bool (decide (j∈S))):=ry _ h2
 have e3:((kI S).setIfInBounds x (bool true))[j]? =some (bool (decide (j∈S++[x]))):=by
  by_cases hj:x=j
  ·subst hj
   rw[Array.getElem?_setIfInBounds_self_of_lt (by rw[hs];exact hx)];simp
  ·rw[Array.getElem?_setIfInBounds_ne hj,e2]
   have hj':¬j=x:=fun e=>hj e.symm;simp[hj']
 rw[Array.getElem?_eq_getElem h1] at e3;rw[Array.getElem?_eq_getElem (by rw[hs];exact h2)] at e1;exact Option.some.inj (e3.trans e1.symm)
theorem Cx(o i:Nat)(L:List Nat)(F:Nat->Prop)(a:Option Addr)(n c:Nat)(w:World)(hx:(rI L).ok w F [slice a n c])(hl:L.length=n)(ho:o<=16777215)(hi:i<8)(hL:∀x∈L,x<64)(hnd:L.Nodup)(hn0:0<n):
 Calls prog 159 #[int i64 o,int i64 i,slice a n c] w fun e w'=>∃v ord,e=returned v/\ord.Perm L/\OwnI w' w.heap.size v ord/\Below w.heap.size w w':=by
 have S0:Hid (Sx w w [eR F (slice a n c) (rI L)]):=ae ((Sx.nil w).add (eR F (slice a n c) (rI L)) hx);have hn64:n<=64:=by rw[<-hl];exact IR hL hnd
 obtain⟨q,hq⟩:∃q,q=(8*o+i)%64:=⟨_,rfl⟩;have hq64:q<64:=by omega
 have hqI:Int.tmod (8*(o:Int)+(i:Int)) 64=(q:Int):=by rw[Int.tmod_eq_emod_of_nonneg (by omega)];omega
 have CA:=ae fun (k:Nat) (hk:k<64) w=>Lu (k:Nat) (by omega) w;have CF:=ae fun (k:Nat) (hk:k<64) (ar ai br bi:Nat) (h1:Cz ar ai (II (k:Nat)).1 (II (k:Nat)).2) (h2:Cz br bi (II (q:Nat)).1 (II (q:Nat)).2) w=>Fx ar ai br bi _ _ _ _ h1 h2 (by have h3:=yh hk;have h4:=yh hq64;omega) (by have h3:=yh hk;have h4:=yh hq64;omega) w;have hoI:¬(16777215:Int)<(o:Int):=by omega
 have hoJ:¬(o:Int)<0:=by omega
 have hiI:¬(8:Int)<=(i:Int):=by omega
 have hiJ:¬(i:Int)<0:=by omega
 have HL:=ae hl;have HLE:=ae hL;have HND:=ae hnd;clear hx hl hL hnd hq;go_enter func159,ntmps159;go_wp2_with fail;refine(CA.out q hq64 w).mono ?_;rintro e w1 ⟨r0,i0,rfl,hz0,hb⟩;have S1:=ae (S0.out.step hb);have HZ0:=ae hz0;clear hz0 hb S0;go_upto_region 6 with fail;have HK0:=ae (Blk.new w1 273 (#[bool false,bool false,bool false,bool false,bool false,bool false,bool false,bool false,bool false,bool false,bool false,bool false,bool false,bool false,bool false,bool false,bool false,bool false,bool false,bool false,bool false,bool false,bool false,bool false,bool false,bool false,bool false,bool false,bool false,bool false,bool false,bool false,bool false,bool false,bool false,bool false,bool false,bool false,bool false,bool false,bool false,bool false,bool false,bool false,bool false,bool false,bool false,bool false,bool false,bool false,bool false,bool false,bool false,bool false,bool false,bool false,bool false,bool false,bool false,bool false,bool false,bool false,bool false,bool false]:Array Value));have HB0:Hid (Below w1.heap.size w1 (w1.alloc (cells #[bool false,bool false,bool false,bool false,bool false,bool false,bool false,bool false,bool false,bool false,bool false,bool false,bool false,bool false,bool false,bool false,bool false,bool false,bool false,bool false,bool false,bool false,bool false,bool false,bool false,bool false,bool false,bool false,bool false,bool false,bool false,bool false,bool false,bool false,bool false,bool false,bool false,bool false,bool false,bool false,bool false,bool false,bool false,bool false,bool false,bool false,bool false,bool false,bool false,bool false,bool false,bool false,bool false,bool false,bool false,bool false,bool false,bool false,bool false,bool false,bool false,bool false,bool false,bool false] 273))):=ae ((az w1.heap.size w1).alloc (ah _) _);have hsz:(w1.alloc (cells #[bool false,bool false,bool false,bool false,bool false,bool false,bool false,bool false,bool false,bool false,bool false,bool false,bool false,bool false,bool false,bool false,bool false,bool false,bool false,bool false,bool false,bool false,bool false,bool false,bool false,bool false,bool false,bool false,bool false,bool false,bool false,bool false,bool false,bool false,bool false,bool false,bool false,bool false,bool false,bool false,bool false,bool false,bool false,bool false,bool false,bool false,bool false,bool false,bool false,bool false,bool false,bool false,bool false,bool false,bool false,bool false,bool false,bool false,bool false,bool false,bool false,bool false,bool false,bool false] 273)).heap.size=w1.heap.size+1:=by simp
 generalize hcs:(#[bool false,bool false,bool false,bool false,bool false,bool false,bool false,bool false,bool false,bool false,bool false,bool false,bool false,bool false,bool false,bool false,bool false,bool false,bool false,bool false,bool false,bool false,bool false,bool false,bool false,bool false,bool false,bool false,bool false,bool false,bool false,bool false,bool false,bool false,bool false,bool false,bool false,bool false,bool false,bool false,bool false,bool false,bool false,bool false,bool false,bool false,bool false,bool false,bool false,bool false,bool false,bool false,bool false,bool false,bool false,bool false,bool false,bool false,bool false,bool false,bool false,bool false,bool false,bool false]:Array Value)=cs at*;obtain rfl:cs=kI (L.take 0):=by rw[<-hcs,take_zero];rfl
 clear hcs;generalize w1.alloc (cells (kI (L.take 0)) 273)=w2 at*;obtain⟨gs,hgs⟩:∃gs,gs=w1.heap.size:=⟨_,rfl⟩;rw[<-hgs] at HK0 hsz ⊢;have HGS:Hid (w1.heap.size<=gs):=ae (by omega);have HGE:Hid (w2.heap.size=gs+1/\w1.heap.size<=w2.heap.size):=ae (by omega);have HO0:Hid (OwnS w2 w2.heap.size 277 2 (fun _=>False) (slice none 0 0) (([]:List gW).map fun y=>sG y.s y.x)):=ae (OwnS.nil _ _ _ _ _);clear hgs hsz;go_wp2_with fail;go_loopw [8,37] (fun v i wr=>∃(k:Nat) (d:List gW),k<=n/\i=int i64 k/\Hid (d.map gW.s=L.take k)/\Hid (OwnS wr w2.heap.size 277 2 (fun _=>False) v (d.map fun y=>sG y.s y.x))/\Hid (Blk wr gs 273 (kI (L.take k)))/\Hid (Below w1.heap.size w1 wr)) (fun _ i _=>n-(intOf i).toNat)
 case atStart=>exact⟨0,[],by omega,rfl,ae rfl,HO0,HK0,HB0⟩
 case round=>
  clear HO0 HK0 HB0;obtain⟨k,d,hkn,rfl,HDS,HO,HK,HB⟩:=hrel;have S2:=ae (S1.out.step HB.out);obtain⟨a8,n8,c8,rfl⟩:=HO.out.sl;by_cases hlt:k<n
  ·have hltI:(k:Int)<(n:Int):=by omega
   have hkl:k<L.length:=(by rw[HL.out];exact hlt);obtain⟨a',c',e,hrd,-⟩:=dA (S2.out.rep 0 rfl) HL.out;injection e with e1 e2 e3;subst e1 e3;obtain⟨b,o',rfl,hb,hcc⟩:=hrd.2 (by omega);have cq:=hcc k (int i64 (L.getD k 0:Nat)) (bL hkl);have hx64:L.getD k 0<64:=HLE.out _ (by rw[af,ag hkl];exact aP hkl);have HTK:Hid (L.take (k+1)=L.take k++[L.getD k 0]):=ae (by rw[aN hkl,af,ag hkl];rfl)
   have hnot:L.getD k 0∉L.take k:=fun hm=>by
    have h1:(L.take (k+1)).Nodup:=List.Nodup.sublist (take_sublist _ _) HND.out;rw[HTK.out,nodup_append] at h1;exact h1.2.2 _ hm _ (mem_singleton.2 rfl) rfl
   generalize L.getD k 0=x at*;have hxI:(x:Int)<64:=(by omega);have hxJ:(0:Int)<=(x:Int):=(by omega);have d0:wr.cell? ⟨gs,x,none⟩=some (bool false):=(HK.out.cell x).trans (by rw[ry _ hx64,decide_eq_false hnot]);have f0:wr.frozen? ⟨gs,x,none⟩=false:=HK.out.frozen x;have hgs:w1.heap.size<=gs:=HGS.out;have HB3:Hid (Below w1.heap.size w1 (wr.setCell ⟨gs,x,none⟩ (bool true))):=ae (HB.out.setCell (p:=⟨gs,x,none⟩) hgs _);have HK3:Hid (Blk (wr.setCell ⟨gs,x,none⟩ (bool true)) gs 273 (kI (L.take (k+1)))):=ae (by rw[HTK.out,<-Gq _ hx64];exact HK.out.set x (bool true));have HO3:Hid (OwnS (wr.setCell ⟨gs,x,none⟩ (bool true)) w2.heap.size 277 2 (fun _=>False) (slice a8 n8 c8) (d.map fun y=>sG y.s y.x)):=ae (HO.out.keepAt (fun b hb=>bE _ _ _ b fun e=>Ty.ne2 e (HO.out.ownTy b hb) (Blk.ty HK.out) (by decide)) fun b hb _ _=>hb.elim);clear HB HK HO hcc hrd S2 hnot hkl;go_wp2_with fail;clear cq d0 f0;generalize wr.setCell ⟨gs,x,none⟩ (bool true)=w3 at*;refine(CA.out x hx64 w3).mono ?_;rintro e w4 ⟨rk,ik,rfl,hzk,hb4⟩;have HZK:=ae hzk;have HB4:=ae (HB3.out.trans (hb4.mono HB3.out.size));have HK4:=ae (HK3.out.below hb4 HK3.out.lt);have HO4:=ae (HO3.out.new hb4);clear hzk hb4 HB3 HK3 HO3;go_wp2_with fail;refine(CF.out x hx64 rk ik r0 i0 HZK.out HZ0.out w4).mono ?_;rintro e w5 ⟨x1,rfl,hf,rfl⟩;have HD5:Hid ((d++[(⟨x,x1,_,hf⟩:gW)]).map gW.s=L.take (k+1)):=ae (by rw[aQ,HDS.out,HTK.out];rfl);have HM5:Hid ((d++[(⟨x,x1,_,hf⟩:gW)]).map (fun y=>sG y.s y.x)=d.map (fun y=>sG y.s y.x)++[sG x x1]):=ae (by rw[aQ];rfl);generalize d++[(⟨x,x1,_,hf⟩:gW)]=d5 at*;have hs4:w2.heap.size<=w4.heap.size:=by have:=HK4.out.lt;have:=HGE.out;omega
   have hml:(d.map fun y=>sG y.s y.x).length<=1000000:=by
    have h1:=congrArg List.length HDS.out;rw[aC,aG] at h1;rw[aC];omega
   have HR:Hid ((sG x x1).ok w4 (fun b=>False/\some b≠(Value.slice a8 n8 c8).ownBlock) [int i64 x,.float .f64 x1]):=ae (yR (by intro u hu;simp at hu;rcases hu with rfl | rfl <;> rfl));clear hf HDS;generalize (d.map fun y=>sG y.s y.x)=LL at*
   go_wp2_with (at_builtin;refine fF (w:=w4) (w1:=w4) rfl _ _ rfl underlying272 Jy rfl (by decide) (by decide) HO4.out (az _ _) hs4 hml (R:=sG x x1) HR.out rfl rfl rfl ?_)
   intro v6 w6 hO6 hb6;rw[<-HM5.out] at hO6;have HO6:=ae hO6;have HB6:=ae (HB4.out.trans (hb6.mono (by have:=HB4.out.size;have:=HGE.out;omega)));have HK6:Hid (Blk w6 gs 273 (kI (L.take (k+1)))):=ae ((hb6.block gs (by have:=HGE.out;omega)).trans HK4.out);obtain⟨a6,n6,c6,rfl⟩:=hO6.sl;clear hO6 hb6 HO4 HK4 HB4 HR hml HM5;go_wp2_with fail;go_roundw
   case rel=>exact⟨k+1,d5,by omega,by go_num,HD5,HO6,HK6,HB6⟩
   case measure=>simp[intOf];omega
  ·obtain rfl:k=n:=by omega
   have hdl:d.length=k:=by
    have h1:=congrArg List.length HDS.out;rw[aC,aG,HL.out] at h1;omega
   have HDL:Hid (d.map gW.s=L):=ae (by rw[HDS.out,aJ (by rw[HL.out];exact ah _)]);obtain⟨g2,c2,e2,hg2,hgl,hh⟩:=LI HO.out (by omega);rw[hdl] at e2;injection e2 with e3 e4 e5;subst e3 e4 e5;have CSRT:=ae (Fv d g2 n8 c8 wr hh hgl hdl (by omega));have HG2:Hid (w.heap.size<=g2):=ae (by have:=S1.out.1.size;have:=HGE.out.2;omega);clear HO HB hh hg2 hgl CA CF HZ0 HK HDS;go_wp2_with fail;refine CSRT.out.mono ?_;rintro e w5 ⟨rfl,d',hpm,hrow,hbe⟩;have HROW:=ae hrow;have HPM:Hid ((d'.map gW.s).Perm L):=ae (by have h:=hpm.map gW.s;rwa [HDL.out] at h);have hd':d'.length=n8:=hpm.length_eq.trans hdl;have HBL:=ae (S2.out.1.trans (hbe _ HG2.out));have HI0:Hid (OwnI w5 w5.heap.size (slice none 0 0) ((d'.map gW.s).take 0)):=ae (OwnI.nil _ _);have HJ0:=ae (az w5.heap.size w5);clear hbe CSRT S2 hrow hpm HDL hdl;go_wp2_with fail;go_loopw [12,69] (fun v i wr=>∃k:Nat,k<=n8/\i=int i64 k/\Hid (OwnI wr w5.heap.size v ((d'.map gW.s).take k))/\Hid (Below w5.heap.size w5 wr)) (fun _ i _=>n8-(intOf i).toNat)
   case atStart=>exact⟨0,by omega,rfl,HI0,HJ0⟩
   case round=>
    clear HI0 HJ0;obtain⟨k,hk2,rfl,HO7r,HB7r⟩:=hrel;obtain⟨a7,n7,c7,rfl⟩:=HO7r.out.sl;by_cases hlt:k<n8
    ·have hltI:(k:Int)<(n8:Int):=by omega
     have hrw:=(HROW.out.below HB7r.out).2 k (by omega);have cell0:=hrw.1;have cell1:=hrw.2
     have HTK:Hid ((d'.map gW.s).take (k+1)=(d'.map gW.s).take k++[(d'.getD k default).s]):=ae (by
      have hkl:k<(d'.map gW.s).length:=(by rw[aC];omega);rw[aN hkl,getElem_map,af,ag (by omega)];rfl)
     have hml:((d'.map gW.s).take k).length<=1000000:=(by rw[aG];omega);generalize (d'.getD k default).s=y at*;generalize (d'.getD k default).x=z at*;generalize (d'.map gW.s).take k=LL at*;have hba:=(az wr.heap.size wr).alloc (ah _) (cells #[int i64 y,.float .f64 z] 277);have HX7:=ae (Blk.new wr 277 #[int i64 y,.float .f64 z]);have HO7:=ae (HO7r.out.below hba);have HB7:=ae (HB7r.out.trans (hba.mono HB7r.out.size));have hs7:=HB7.out.size;clear hba hrw HO7r HB7r;go_upto_region 18 with fail;clear cell0 cell1;generalize wr.alloc (cells #[int i64 y,.float .f64 z] 277)=w7 at*;have z0:w7.cell? ⟨wr.heap.size,0,none⟩=some (int i64 y):=HX7.out.cell 0
     go_wp2_with (at_builtin;refine jv (w:=w7) (C:=w5.heap.size) (y:=y) rfl _ _ rfl rfl HO7.out hs7 hml rfl rfl ?_)
     intro v9 w9 hO9 hb9;rw[<-HTK.out] at hO9;have HO9:=ae hO9;have HB9:=ae (HB7.out.trans hb9);clear hO9 hb9 HO7 HB7 HX7 z0;obtain⟨a9,n9,c9,rfl⟩:=HO9.out.sl;go_wp2_with fail;go_roundw
     case rel=>exact⟨k+1,by omega,by go_num,HO9,HB9⟩
     case measure=>simp[intOf];omega
    ·obtain rfl:k=n8:=by omega
     have HE:Hid ((d'.map gW.s).take k=d'.map gW.s):=ae (aJ (by rw[aC,hd'];exact ah _));rw[HE.out] at HO7r;go_wp2_with fail;go_ret;exact⟨_,_,rfl,HPM.out,HO7r.out.base HBL.out.size,HBL.out.trans (HB7r.out.mono HBL.out.size)⟩
end
def noT(K H Z o b:Nat):Prop:=∀t,t<16->dc K H Z (ig o b t:Nat) (range K)=false
theorem Ll(K H Z o b:Nat):(∃t,rJ K H Z o b t)\/noT K H Z o b:=by
 have h:∀n,n<=16->(∃t,t<n/\rJ K H Z o b t)\/∀t,t<n->dc K H Z (ig o b t:Nat) (range K)=false:=by
  intro n
  induction n with
  | zero=>intro _;exact .inr fun t ht=>by omega
  | succ n ih=>
    intro hn;rcases ih (by omega) with⟨t,h1,h2⟩ | h
    ·exact .inl ⟨t,by omega,h2⟩
    ·cases hf:dc K H Z (ig o b n:Nat) (range K) with
     | true=>exact .inl ⟨n,by omega,by omega,hf,h⟩
     | false=>
       refine .inr fun t ht=> ?_;rcases bq t n with h1 | h1
       ·exact h t h1
       ·rw[show t=n by omega];exact hf
 rcases h 16 (ah _) with⟨t,_,h⟩ | h
 ·exact .inl ⟨t,h⟩
 ·exact .inr h
theorem IB(K H Z o b:Nat)(w:World)(hk:eD K H Z=true)(ho:o<=16777215)(hb:b<=8)(ht:noT K H Z o b):
 Calls prog 155 #[cE K H Z,int i64 o,int i64 b] w fun e w'=>e=returned (.tuple #[int i64 0,bool false])/\Below w.heap.size w w':=by
 have S0:Hid (Sx w (w.alloc (cells #[int i64 K,int i64 H,int i64 Z] 25)) [bQ w.heap.size 25 #[int i64 K,int i64 H,int i64 Z]]):=
  ae ((((Sx.nil w).alloc _).add (bQ _ _ _) (Blk.new w 25 #[int i64 K,int i64 H,int i64 Z])))
 have CS:=ae fun (n:Nat) (hn:n<=16) w=>lC o b n w ho hb hn;have CR:=ae fun (n:Nat) (hn:n<=16) w=>lZ K H Z (ig o b n:Nat) w hk (by omega) (by unfold ig;omega);have HT:=ae ht;clear hk ho hb ht;unfold cE at CR ⊢;go_enter func155,ntmps155;go_wp2_with fail;generalize w.alloc (cells #[int i64 K,int i64 H,int i64 Z] 25)=w0 at*;have HB0:=ae (az w0.heap.size w0);go_loopw [9] (fun i wr=>∃k:Nat,k<=16/\i=int i64 k/\Hid (Below w0.heap.size w0 wr)) (fun i _=>16-(intOf i).toNat)
 case atStart=>exact⟨0,by omega,rfl,HB0⟩
 case round=>
  clear HB0;obtain⟨k,hkt,rfl,HB⟩:=hrel;have S1:=ae (S0.out.step HB.out);have hcase:k=16\/k<16:=(by omega);rcases hcase with rfl | hlt
  ·go_wp2_with fail
   go_ret2;exact⟨rfl,S1.out.1⟩
  ·have hk16:(k:Int)<16:=by omega
   have CS1:=ae (CS.out k (by omega));have CR1:=ae (CR.out k (by omega));obtain⟨p0,p1,p2⟩:=kU (S1.out.blk 0 rfl);rw[show dc (K:Nat) H Z (ig o b k:Nat) (range K)=false from HT.out k hlt] at CR1;have HLT:=ae hlt;clear hlt;unfold ig at CR1;go_upto_region 4 with fail;clear p0 p1 p2;refine bO (by kernel_rfl) (by kernel_rfl) ?_
   iterate 6 (
    with_reducible refine wpQuiet_step (fun Kq hKq=> ?_)
    go_simp
    first
    | refine hKq _ ?_
    | refine⟨_,fun _ _=>rfl,hKq _ ?_⟩
    | (apply Exists.intro
       refine⟨fun w' hw'=> ?_,hKq _ ?_⟩
       ·obtain⟨p0',p1',p2'⟩:=kU ((S1.out.step hw').blk 0 rfl)
        first
        | (go_simp
           first | exact rfl | exact⟨rfl,rfl⟩)
        | (go_at_call 114
           refine(CS1.out w').mono ?_;rintro r w5 ⟨rfl,rfl⟩;exact⟨rfl,hw'⟩)
        | (go_at_call 214
           refine(CR1.out w').mono ?_;rintro r w5 ⟨rfl,hb5⟩;exact⟨rfl,hw'.trans (hb5.mono hw'.size)⟩))
    clear hKq Kq)
   with_reducible refine wpQuiet_nil ?_
   intro w5 hw5;have HB5:=ae (HB.out.trans (hw5.mono HB.out.size));clear hw5;go_wp2_with fail;have hlt:=HLT.out;go_roundw
   case rel=>exact⟨k+1,by omega,by go_num,HB5⟩
   case measure=>simp[intOf];omega
def wI(K H Z o n:Nat)(T:List Nat):Prop:=T.length=n/\∀b,b<n->rJ K H Z o b (T.getD b 0)
theorem NQ{K H Z o n t:Nat}{T:List Nat}(h:wI K H Z o n T)(ht:rJ K H Z o n t):wI K H Z o (n+1) (T++[t]):=by
 obtain⟨h1,h2⟩:=h;refine⟨by rw[aH,h1];rfl,fun b hb=> ?_⟩;rcases bq b n with h | h
 ·rw[af,List.getElem?_append_left (by omega),<-af];exact h2 b h
 ·obtain rfl:b=n:=by omega
  rw[af,List.getElem?_append_right (by omega),h1,Nat.sub_self];exact ht
theorem NS(K H Z o n:Nat)(w:World)(hk:eD K H Z=true)(ho:o<=16777215)(hn:n<=8):
 Calls prog 102 #[cE K H Z,int i64 o,int i64 n] w fun e w'=>Below w.heap.size w w'/\((∃v T,e=returned (.tuple #[v,bool true])/\OwnI w' w.heap.size v T/\wI K H Z o n T)\/(e=returned (.tuple #[slice none 0 0,bool false])/\∃b,b<n/\noT K H Z o b)):=by
 have S0:Hid (Sx w (w.alloc (cells #[int i64 K,int i64 H,int i64 Z] 25)) [bQ w.heap.size 25 #[int i64 K,int i64 H,int i64 Z]]):=
  ae ((((Sx.nil w).alloc _).add (bQ _ _ _) (Blk.new w 25 #[int i64 K,int i64 H,int i64 Z])))
 have CT:=ae fun (b t:Nat) (hb:b<n) (ht:rJ K H Z o b t) w=>ND K H Z o b t w hk ho (by omega) ht;have CN:=ae fun (b:Nat) (hb:b<n) (ht:noT K H Z o b) w=>IB K H Z o b w hk ho (by omega) ht;have hn8:n<=8:=hn;unfold cE at CT CN ⊢;clear hk ho;go_enter func102,ntmps102;go_wp2_with fail;have hsz0:w.heap.size<=(w.alloc (cells #[int i64 K,int i64 H,int i64 Z] 25)).heap.size:=S0.out.1.size;generalize w.alloc (cells #[int i64 K,int i64 H,int i64 Z] 25)=w0 at*;have HB0:=ae (az w0.heap.size w0);have HO0:Hid (OwnI w0 w0.heap.size (slice none 0 0) []):=ae (OwnI.nil _ _);have HT0:Hid (wI K H Z o 0 []):=ae ⟨rfl,fun b hb=>by omega⟩;go_loopw [8,13] (fun v i wr=>∃(k:Nat) (T:List Nat),k<=n/\i=int i64 k/\Hid (OwnI wr w0.heap.size v T)/\Hid (wI K H Z o k T)/\Hid (Below w0.heap.size w0 wr)) (fun _ i _=>n-(intOf i).toNat)
 case atStart=>exact⟨0,[],by omega,rfl,HO0,HT0,HB0⟩
 case round=>
  clear HB0 HO0 HT0;obtain⟨k,T,hkn,rfl,HO,HT,HB⟩:=hrel;have S1:=ae (S0.out.step HB.out);obtain⟨bv,nv,cv,rfl⟩:=HO.out.sl;by_cases hlt:k<n
  ·have hltI:(k:Int)<(n:Int):=by omega
   obtain⟨p0,p1,p2⟩:=kU (S1.out.blk 0 rfl);have hml:T.length<=1000000:=(by rw[HT.out.1];omega);rcases Ll K H Z o k with⟨t,ht⟩ | ht
   ·have CT1:=ae (CT.out k t hlt ht)
    have HT2:=ae (NQ HT.out ht);clear ht CT CN;go_wp2_with fail;refine(CT1.out wr).mono ?_;rintro r w2 ⟨rfl,hb2⟩;have HO2:=ae (HO.out.below hb2);have HB2:=ae (HB.out.trans (hb2.mono HB.out.size));have hsz:=HB2.out.size;clear hb2 p0 p1 p2 CT1 HO HB S1 HT
    go_wp2_with (at_builtin;refine jv (w:=w2) (C:=w0.heap.size) (y:=t) rfl _ _ rfl rfl HO2.out hsz hml rfl rfl ?_)
    intro v3 w3 hO3 hb3;have HO3:=ae hO3;have HB3:=ae (HB2.out.trans hb3);clear hO3 hb3 HO2 HB2;go_wp2_with fail;go_roundw
    case rel=>exact⟨k+1,_,by omega,by go_num,HO3,HT2,HB3⟩
    case measure=>simp[intOf];omega
   ·have CN1:=ae (CN.out k hlt ht)
    have HNT:=ae (And.intro hlt ht);clear ht CT CN hlt;go_wp2_with fail;refine(CN1.out wr).mono ?_;rintro r w2 ⟨rfl,hb2⟩;have S2:=ae (S1.out.step hb2);clear hb2 p0 p1 p2 CN1 HO HB S1 HT;go_wp2_with fail;go_ret2;exact⟨S2.out.1,.inr ⟨rfl,k,HNT.out⟩⟩
  ·obtain rfl:k=n:=by omega
   go_wp2_with fail;go_ret2;exact⟨S1.out.1,.inl ⟨_,T,rfl,HO.out.base hsz0,HT.out⟩⟩
section
variable {B:Nat}
theorem ChgT.ofD{w w':World}(h:ChgD B w w'):ChgT w w':=Chg.mono h fun _ _ hk=>hk.2.elim .inl fun h=>.inr (.inl h)
end
section
variable {B:Nat}
structure Fl where
 p:Nat
 n:Nat
 D:Nat->Nat
 room:Nat->Nat
 Z:Nat->Bool
def drL(p room:Nat):Array Value:=#[pointer (some ⟨p,0,none⟩),int i64 room,slice none 0 0,int i64 0,slice none 0 0,bool false,bool true]
def DrW(w:World)(g p room:Nat)(R:List (List Nat))(wt:Nat)(o:Option Nat):Prop:=∃v,DrB w g p room v wt/\OwnS w 0 30 1 (Ty 5 w) v (R.map rB)/\wt<=R.length/\v.ownBlock=o/\∀r∈R,r.length=64
theorem DrW.r{w:World}{g p room wt:Nat}{R:List (List Nat)}{o:Option Nat}(h:DrW w g p room R wt o):DrR w g p room R o:=by obtain⟨v,h⟩:=h;exact⟨v,wt,h⟩
theorem DrW.chg{w w':World}{g p room wt:Nat}{R:List (List Nat)}{o:Option Nat}{M:Nat->Prop}(h:DrW w g p room R wt o)(hc:Chg M w w')(hg:¬M g)(ho:∀b,o=some b->¬M b)(hM:∀b,M b->¬Ty 5 w b):DrW w' g p room R wt o:=by
 obtain⟨v,h1,h2,h3,h4,h5⟩:=h;exact⟨v,Blk.chg h1 hc hg,h2.chg hc (fun b hb=>ho b (h4.symm.trans hb)) hM,h3,h4,h5⟩
def DrX(w:World)(g p room:Nat)(z:Bool)(R:List (List Nat))(wt:Nat)(o:Option Nat):Prop:=(z=true/\Blk w g 88 (drL p room)/\o=none)\/(z=false/\DrW w g p room R wt o)
theorem DrX.ty{w:World}{g p room wt:Nat}{z:Bool}{R:List (List Nat)}{o:Option Nat}(h:DrX w g p room z R wt o):Ty 88 w g:=by
 rcases h with⟨-,h,-⟩ | ⟨-,h⟩
 ·exact Blk.ty h
 ·exact h.r.ty
theorem DrX.oty{w:World}{g p room wt:Nat}{z:Bool}{R:List (List Nat)}{o:Option Nat}(h:DrX w g p room z R wt o):∀b,o=some b->Ty 30 w b:=by
 rcases h with⟨-,h,h2⟩ | ⟨-,h⟩
 ·intro b hb;rw[h2] at hb;cases hb
 ·exact h.r.oty
theorem DrX.chg{w w':World}{g p room wt:Nat}{z:Bool}{R:List (List Nat)}{o:Option Nat}{M:Nat->Prop}(h:DrX w g p room z R wt o)(hc:Chg M w w')(hg:¬M g)(ho:∀b,o=some b->¬M b)(hM:∀b,M b->¬Ty 5 w b):DrX w' g p room z R wt o:=by
 rcases h with⟨h1,h,h2⟩ | ⟨h1,h⟩
 ·exact .inl ⟨h1,Blk.chg h hc hg,h2⟩
 ·exact .inr ⟨h1,h.chg hc hg ho hM⟩
theorem DrX.below{w w':World}{g p room wt:Nat}{z:Bool}{R:List (List Nat)}{o:Option Nat}(h:DrX w g p room z R wt o)(hb:Below w.heap.size w w'):DrX w' g p room z R wt o:=
 h.chg (M:=fun _=>False) (Chg.of hb) (fun h=>h) (fun _ _ h=>h) fun _ h=>h.elim
structure Drz (B:Nat) (w:World) (f:Fl) (R:Nat->List (List Nat)) (W:Nat->Nat):Prop where
 pw:PwS w f.p
 dr:∃o:Nat->Option Nat,(∀i,i<f.n->DrX w (f.D i) f.p (f.room i) (f.Z i) (R i) (W i) (o i))/\(∀i j b,i<f.n->j<f.n->i≠j->o i=some b->o j≠some b)/\∀i b,i<f.n->o i=some b->B<=b
 ne:∀i j,i<f.n->j<f.n->i≠j->f.D i≠f.D j
 lo:∀i,i<f.n->B<=f.D i
theorem Drz.below{w w':World}{f:Fl}{R:Nat->List (List Nat)}{W:Nat->Nat}(h:Drz B w f R W)(hb:Below w.heap.size w w'):Drz B w' f R W:=by
 obtain⟨h1,⟨o,h2,h3,h4⟩,h5,h6⟩:=h;exact⟨Blk.below h1 hb (Blk.lt h1),⟨o,fun i hi=>(h2 i hi).below hb,h3,h4⟩,h5,h6⟩
theorem Drz.chgTy{w w':World}{f:Fl}{R:Nat->List (List Nat)}{W:Nat->Nat}{M:Nat->Prop}{t:TypeId}(h:Drz B w f R W)(hc:Chg M w w')(hM:∀b,M b->Ty t w b)(ht:t≠88/\t≠30/\t≠5/\t≠138):Drz B w' f R W:=by
 obtain⟨hp,⟨o,h0,ha⟩,hne,hlo⟩:=h;exact⟨Blk.chg hp hc fun hm=>(hM _ hm).ne (Blk.ty hp) ht.2.2.2,⟨o,fun i hi=>(h0 i hi).chg hc (fun hm=>(hM _ hm).ne (h0 i hi).ty ht.1) (fun b hb hm=>(hM _ hm).ne ((h0 i hi).oty b hb) ht.2.1) (fun b hm hu=>(hM _ hm).ne hu ht.2.2.1),ha⟩,hne,hlo⟩
def og(m:cQ)(vd vo:Value)(p:Nat)(x:Nat->Value):Array Value:=#[int i64 m.seq,int i64 m.next,int i64 m.K,int i64 m.H,int i64 m.Z,int i64 m.extra,vd,vo,pointer (some ⟨p,0,none⟩),int i64 0]++((range 64).map x).toArray
theorem qI(m:cQ)(vd vo:Value)(p:Nat)(x:Nat->Value){i:Nat}(hi:i<64):(og m vd vo p x)[10+i]? =some (x i):=by
 unfold og;rw[Array.getElem?_append_right (by simp)];simp[hi]
theorem Nf(m:cQ)(vd vo:Value)(p:Nat)(x:Nat->Value)(y:Value){k:Nat}(hk:k<64):(og m vd vo p x).setIfInBounds (10+k) y=og m vd vo p (fun i=>if i=k then y else x i):=by
 unfold og;rw[Array.setIfInBounds_append_right (by simp)];congr 1;apply Array.ext';apply ext_getElem
 ·simp
 ·intro j h1 h2
  simp at h1 h2;simp[getElem_set];by_cases e:k=j
  ·subst e;simp
  ·simp[e,Ne.symm e]
theorem gM{w:World}{g p:Nat}{m:cQ}{vd vo:Value}{x:Nat->Value}(h:Blk w g 96 (og m vd vo p x)):
 w.cell? ⟨g,0,none⟩=some (int i64 m.seq)/\w.cell? ⟨g,1,none⟩=some (int i64 m.next)/\w.cell? ⟨g,2,none⟩=some (int i64 m.K)/\w.cell? ⟨g,3,none⟩=some (int i64 m.H)/\w.cell? ⟨g,4,none⟩=some (int i64 m.Z)/\w.cell? ⟨g,5,none⟩=some (int i64 m.extra)/\
 w.cell? ⟨g,6,none⟩=some vd/\w.cell? ⟨g,7,none⟩=some vo/\w.cell? ⟨g,8,none⟩=some (pointer (some ⟨p,0,none⟩))/\w.cell? ⟨g,9,none⟩=some (int i64 0):=
 ⟨(Blk.cell h 0).trans (by simp[og]),(Blk.cell h 1).trans (by simp[og]),(Blk.cell h 2).trans (by simp[og]),(Blk.cell h 3).trans (by simp[og]),(Blk.cell h 4).trans (by simp[og]),(Blk.cell h 5).trans (by simp[og]),
  (Blk.cell h 6).trans (by simp[og]),(Blk.cell h 7).trans (by simp[og]),(Blk.cell h 8).trans (by simp[og]),(Blk.cell h 9).trans (by simp[og])⟩
def zg(n:Nat)(D:Nat->Nat)(i:Nat):Value:=if i<n then pointer (some ⟨D i,0,none⟩) else pointer none
def O7(f:Fl):Nat->Value:=zg f.n f.D
theorem zh(f:Fl){s:Nat}(h:s<f.n):O7 f s=pointer (some ⟨f.D s,0,none⟩):=by unfold O7 zg;rw[bf h]
structure Stq (B:Nat) (w:World) (g:Nat) (f:Fl) (m:cQ) (R:Nat->List (List Nat)):Prop where
 drs:Drz B w f R (fun _=>0)
 st:∃vd vo,Blk w g 96 (og m vd vo f.p (O7 f))/\(rI m.drives).ok w (Fu w) [vd]/\(rS 4 (m.objs.map cN)).ok w (Fu w) [vo]
 dv:m.drives=range f.n
 n0:0<f.n/\f.n<=64
theorem Stq.below{w w':World}{g:Nat}{f:Fl}{m:cQ}{R:Nat->List (List Nat)}(h:Stq B w g f m R)(hb:Below w.heap.size w w'):Stq B w' g f m R:=by
 obtain⟨h1,⟨vd,vo,h2,h3,h4⟩,h5,h6⟩:=h;exact⟨h1.below hb,⟨vd,vo,Blk.below h2 hb (Blk.lt h2),(rI _).fu h3 hb,(rS 4 _).fu h4 hb⟩,h5,h6⟩
theorem Stq.chgD{w w':World}{g:Nat}{f:Fl}{m:cQ}{R Q:Nat->List (List Nat)}(h:Stq B w g f m R)(hc:ChgD B w w')(hd:Drz B w' f Q (fun _=>0)):Stq B w' g f m Q:=by
 obtain⟨h1,⟨vd,vo,h2,h3,h4⟩,h5,h6⟩:=h;exact⟨hd,⟨vd,vo,Blk.chg h2 hc fun hm=>Md.not (Blk.ty h2) (by decide) (by decide) hm.2,(rI _).chgT h3 hc.toT,(rS 4 _).chgT h4 hc.toT⟩,h5,h6⟩
def StB(w:World)(g:Nat)(f:Fl):Prop:=∃m vd vo,Blk w g 96 (og m vd vo f.p (O7 f))
theorem Stq.sb{w:World}{g:Nat}{f:Fl}{m:cQ}{R:Nat->List (List Nat)}(h:Stq B w g f m R):StB w g f:=by obtain⟨-,⟨vd,vo,h,-⟩,-⟩:=h;exact⟨m,vd,vo,h⟩
theorem StB.below{w w':World}{g:Nat}{f:Fl}(h:StB w g f)(hb:Below w.heap.size w w'):StB w' g f:=by obtain⟨m,vd,vo,h⟩:=h;exact⟨m,vd,vo,h.below hb h.lt⟩
theorem StB.chgD{w w':World}{g:Nat}{f:Fl}(h:StB w g f)(hc:ChgD B w w'):StB w' g f:=by obtain⟨m,vd,vo,h⟩:=h;exact⟨m,vd,vo,Blk.chg h hc fun hm=>Md.not (Blk.ty h) (by decide) (by decide) hm.2⟩
def jI(B g:Nat)(f:Fl)(m:cQ)(R:Nat->List (List Nat)):wR:=⟨fun w=>Stq B w g f m R,fun _ _ h hb=>h.below hb⟩
theorem Sx.stq{w0 w:World}{L:List wR}(h:Sx w0 w L)(i:Nat){g:Nat}{f:Fl}{m:cQ}{R:Nat->List (List Nat)}(hi:L[i]? =some (jI B g f m R)):Stq B w g f m R:=h.get i hi
theorem Ky(g p room:Nat)(w:World)(h:Blk w g 88 (drL p room)):Calls prog 90 #[pointer (some ⟨g,0,none⟩)] w fun e w'=>e=returned (bool true)/\w'=w:=by
 have c6:w.cell? ⟨g,6,none⟩=some (bool true):=Blk.cell h 6;go_enter func90,ntmps90;go_wp2_with fail;go_ret;exact⟨rfl,rfl⟩
theorem Ng(g p room wt:Nat)(z:Bool)(R:List (List Nat))(o:Option Nat)(w:World)(h:DrX w g p room z R wt o):Calls prog 90 #[pointer (some ⟨g,0,none⟩)] w fun e w'=>e=returned (.bool z)/\w'=w:=by
 rcases h with⟨rfl,h,-⟩ | ⟨rfl,v,h,-⟩
 ·exact Ky g p room w h
 ·exact zq g p room wt v w h
theorem nI(s g:Nat)(f:Fl)(w:World)(h:StB w g f)(hs:s<f.n)(hn:f.n<=64):Calls prog 38 #[pointer (some ⟨g,0,none⟩),int i64 s] w fun e w'=>e=returned (pointer (some ⟨f.D s,0,none⟩))/\w'=w:=by
 obtain⟨m,vd,vo,hb⟩:=h;have hs64:s<64:=by omega
 have hsI:¬(s:Int)<0:=by omega
 have hsJ:(s:Int)<64:=by omega
 have hsK:¬(64:Int)<=(s:Int):=by omega
 have c10:w.cell? ⟨g,10+s,none⟩=some (pointer (some ⟨f.D s,0,none⟩)):=(Blk.cell hb (10+s)).trans (by rw[qI _ _ _ _ _ hs64];rw[zh f hs]);generalize f.D s=ds at*;clear hb;go_enter func38,ntmps38;go_wp2_with fail;go_ret;exact⟨rfl,rfl⟩
theorem Kz(g:Nat)(f:Fl)(m:cQ)(R:Nat->List (List Nat))(w:World)(h:Stq B w g f m R):Calls prog 55 #[pointer (some ⟨g,0,none⟩)] w fun e w'=>e=returned (bool false)/\Below w.heap.size w w':=by
 obtain⟨hd,⟨vd,vo,hb,-⟩,-⟩:=h;obtain⟨k0,k1,k2,k3,k4,k5,k6,k7,k8,k9⟩:=gM hb;have HB:=ae hb;have HP:=ae hd.pw;clear hb k0 k1 k2 k3 k4 k5 k6 k7 hd;generalize f.p=p at*;go_enter func55,ntmps55;go_upto_region 1 with fail;refine bO (by kernel_rfl) (by kernel_rfl) ?_
 iterate 23 (
  with_reducible refine wpQuiet_step (fun Kq hKq=> ?_)
  go_simp
  first
  | refine hKq _ ?_
  | refine⟨_,fun _ _=>rfl,hKq _ ?_⟩
  | (apply Exists.intro
     refine⟨fun w' hw'=> ?_,hKq _ ?_⟩
     ·obtain⟨k0',k1',k2',k3',k4',k5',k6',k7',k8',k9'⟩:=gM (HB.out.below hw' HB.out.lt)
      first
      | (go_simp
         first | exact rfl | exact⟨rfl,rfl⟩)
      | (go_at_call 81
         refine(E9 p w' (HP.out.below hw' (Blk.lt HP.out))).mono ?_;rintro e w5 ⟨rfl,rfl⟩;exact⟨rfl,hw'⟩)
      | (go_at_call 89
         refine(Fa p w' (HP.out.below hw' (Blk.lt HP.out))).mono ?_;rintro e w5 ⟨rfl,rfl⟩;exact⟨rfl,hw'⟩))
  clear hKq Kq)
 with_reducible refine wpQuiet_nil ?_
 intro w5 hw5;go_wp2_with fail;go_ret;exact⟨rfl,hw5⟩
theorem Od(g:Nat)(f:Fl)(m:cQ)(R:Nat->List (List Nat))(w:World)(h:Stq B w g f m R):Calls prog 110 #[pointer (some ⟨g,0,none⟩)] w fun e w'=>e=returned (bool false)/\Below w.heap.size w w':=by
 have CO:=ae (Kz g f m R w h);clear h;go_enter func110,ntmps110;go_wp2_with fail;refine CO.out.mono ?_;rintro e w1 ⟨rfl,hb⟩;have HB:=ae hb;clear hb CO;go_wp2_with fail;go_ret;exact⟨rfl,HB.out⟩
def bH(f:Fl):List Nat:=(range f.n).filter fun i=> !f.Z i
theorem ek{f:Fl}{x:Nat}(h:x∈bH f):x<f.n/\f.Z x=false:=by
 unfold bH at h;rw[mem_filter] at h;exact⟨bA.1 h.1,by simpa using h.2⟩
theorem KA{f:Fl}(h:f.n<=64):∀x∈bH f,x<64:=fun x hx=>by have:=(ek hx).1;omega
theorem gD(f:Fl):(bH f).Nodup:=List.Nodup.sublist filter_sublist nodup_range
theorem jd{f:Fl}(h:f.n<=64):(bH f).length<=64:=aO (length_filter_le _ _) (by rw[aY];exact h)
theorem Hg(L:List Nat)(F:Nat->Prop)(a:Option Addr)(n c:Nat)(g:Nat)(f:Fl)(R:Nat->List (List Nat))(W:Nat->Nat)(w:World)(h:Drz B w f R W)(hst:StB w g f)(hx:(rI L).ok w F [slice a n c])(hl:L.length=n)(hn:n<=64)(hL:∀x∈L,x<f.n)(h64:f.n<=64):
 Calls prog 44 #[.func (.func 38) #[pointer (some ⟨g,0,none⟩)] #[],slice a n c] w fun e w'=>∃v,e=returned v/\OwnI w' w.heap.size v (L.filter fun i=> !f.Z i)/\Below w.heap.size w w':=by
 have S0:Hid (Sx w w [eR F (slice a n c) (rI L)]):=ae ((Sx.nil w).add (eR F (slice a n c) (rI L)) hx);have HD:=ae h;have HST:=ae hst;have HL:=ae hl;have HLE:=ae hL;have HO0:Hid (OwnI w w.heap.size (slice none 0 0) ((L.take 0).filter fun i=> !f.Z i)):=ae (OwnI.nil _ _);have HB0:=ae (az w.heap.size w);clear h hst hx hl hL;go_enter func44,ntmps44;go_wp2_with fail;go_loopw [5,11] (fun v i wr=>∃k:Nat,k<=n/\i=int i64 k/\Hid (OwnI wr w.heap.size v ((L.take k).filter fun i=> !f.Z i))/\Hid (Below w.heap.size w wr)) (fun _ i _=>n-(intOf i).toNat)
 case atStart=>exact⟨0,by omega,rfl,HO0,HB0⟩
 case round=>
  clear HO0 HB0;obtain⟨k,hkn,rfl,HO,HB⟩:=hrel;have S1:=ae (S0.out.step HB.out);obtain⟨bv,nv,cv,rfl⟩:=HO.out.sl;by_cases hlt:k<n
  ·have hltI:(k:Int)<(n:Int):=by omega
   have hkl:k<L.length:=(by rw[HL.out];exact hlt);obtain⟨a',c',e,hrd,-⟩:=dA (S1.out.rep 0 rfl) HL.out;injection e with e1 e2 e3;subst e1 e3;obtain⟨b,o,rfl,hb,hcc⟩:=hrd.2 (by omega);have cq:=hcc k (int i64 (L.getD k 0:Nat)) (bL hkl);have hx1:=HLE.out (L.getD k 0) (by rw[af,ag hkl];exact aP hkl)
   have HT:Hid ((L.take (k+1)).filter (fun i=> !f.Z i)=(L.take k).filter (fun i=> !f.Z i)++(if f.Z (L.getD k 0)=true then [] else [L.getD k 0])):=ae (by
    rw[aN hkl,af,ag hkl,filter_append];congr 1;cases hz:f.Z L[k] <;> simp[hz])
   have hml:((L.take k).filter fun i=> !f.Z i).length<=1000000:=aO (length_filter_le _ _) (by rw[aG];omega);have hsz:=HB.out.size;generalize L.getD k 0=x at*;have CD:=ae (nI x g f wr (HST.out.below HB.out) hx1 h64)
   have CL:Hid (Calls prog 90 #[pointer (some ⟨f.D x,0,none⟩)] wr fun e w'=>e=returned (bool (f.Z x))/\w'=wr):=ae (by
    obtain⟨-,⟨o,h0,-⟩,-⟩:=HD.out.below HB.out;exact Ng _ _ _ _ _ _ _ _ (h0 x hx1))
   generalize (L.take k).filter (fun i=> !f.Z i)=LL at*;generalize f.D x=dx at*;clear hcc hrd hx1 hkl;go_wp2_with fail;refine CD.out.mono ?_;rintro e wx ⟨rfl,rfl⟩;go_wp2_with fail;refine CL.out.mono ?_;rintro e wy ⟨rfl,rfl⟩;clear CD CL;cases hz:f.Z x with
   | true=>
     rw[hz,bf rfl,append_nil] at HT;rw[<-HT.out] at HO;clear HT;go_wp2_with fail;go_roundw
     case rel=>exact⟨k+1,by omega,by go_num,HO,HB⟩
     case measure=>simp[intOf];omega
   | false=>
     rw[hz,bg (by decide)] at HT
     go_wp2_with (at_builtin;refine jv (w:=wy) (C:=w.heap.size) (y:=x) rfl _ _ rfl rfl HO.out hsz hml rfl rfl ?_)
     intro v2 w2 hO2 hb2;rw[<-HT.out] at hO2;have HO2:=ae hO2;have HB2:=ae (HB.out.trans hb2);clear hO2 hb2 HO HB HT;go_wp2_with fail;go_roundw
     case rel=>exact⟨k+1,by omega,by go_num,HO2,HB2⟩
     case measure=>simp[intOf];omega
  ·obtain rfl:k=n:=by omega
   rw[aJ (by rw[HL.out];exact ah _)] at HO;go_wp2_with fail;go_ret;exact⟨_,rfl,HO.out,HB.out⟩
theorem kR(g:Nat)(f:Fl)(m:cQ)(R:Nat->List (List Nat))(w:World)(h:Stq B w g f m R):
 Calls prog 22 #[pointer (some ⟨g,0,none⟩)] w fun e w'=>∃v,e=returned v/\OwnI w' w.heap.size v (bH f)/\Below w.heap.size w w':=by
 have hsb:=h.sb;obtain⟨hd,⟨vd,vo,hb,h1,h2⟩,hdv,h0,h64⟩:=h;obtain⟨k0,k1,k2,k3,k4,k5,k6,k7,k8,k9⟩:=gM hb;have hln:m.drives.length=f.n:=by rw[hdv,aY]
 obtain⟨a,c,rfl,-⟩:=dA h1 hln;have CL:=ae (Hg m.drives (Fu w) a f.n c g f R _ w hd hsb h1 hln h64 (by rw[hdv];intro x hx;exact bA.1 hx) h64);rw[hdv,show(range f.n).filter (fun i=> !f.Z i)=bH f from rfl] at CL;clear hd hb h1 h2 k0 k1 k2 k3 k4 k5 k7 k8 k9 hsb hln hdv h0;generalize f.n=n at*;go_enter func22,ntmps22;go_wp2_with fail;refine CL.out.mono ?_;rintro e w1 ⟨v,rfl,ho,hb⟩;have HO:=ae ho;have HB:=ae hb;clear ho hb CL;go_wp2_with fail;go_ret;exact⟨_,rfl,HO.out,HB.out⟩
end
