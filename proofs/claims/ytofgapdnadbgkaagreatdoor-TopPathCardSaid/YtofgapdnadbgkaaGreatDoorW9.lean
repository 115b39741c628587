import Derived.Test.YtofgapdnadbgkaaGreatDoorW8
import Derived.Shelf.Small.Bits
import Derived.Shelf.Strconv.Itoa0
import Derived.Shelf.Sort.Plain
import Derived.Test.YtofgapdnadbgkaaGreatDoorProg
import Derived.Sort.Walk7a
import Derived.Sort.OwnSortedInts
set_option linter.unusedVariables false
set_option maxRecDepth 100000
set_option maxHeartbeats 400000000
namespace Go.Proofs
open Go.Shelf
def Tryz.lays125_ren:Go.Shelf.Ren:=⟨fun | 125=>185 | 128=>261 | 129=>262 | n=>n,fun | 46=>22 | 3=>3 | 51=>29 | 53=>226 | 4=>4 | 5=>5 | 9=>9 | n=>n,fun | n=>n⟩
theorem Tryz.lays125:Go.Proofs.Lays.n125 prog Tryz.lays125_ren:= {
 mixed:=by kernel_rfl
 f125:=func185.trans (congrArg some (by kernel_rfl))
 f128:=func261.trans (congrArg some (by kernel_rfl))
 f129:=func262.trans (congrArg some (by kernel_rfl))
 t3:=underlying3
 a3:=Tryz.isAgg3
 z3:=Tryz.sizeOf3
 v3:=Tryz.zeroValue3
 t4:=underlying4
 a4:=Tryz.isAgg4
 z4:=Tryz.sizeOf4
 v4:=Tryz.zeroValue4
 t5:=underlying5
 a5:=Tryz.isAgg5
 z5:=Tryz.sizeOf5
 v5:=Tryz.zeroValue5
 t9:=underlying9
 a9:=Tryz.isAgg9
 z9:=Tryz.sizeOf9
 v9:=Tryz.zeroValue9
 t46:=underlying22
 a46:=Tryz.isAgg22
 z46:=Tryz.sizeOf22
 v46:=Tryz.zeroValue22
 t51:=underlying29
 a51:=Tryz.isAgg29
 z51:=Tryz.sizeOf29
 v51:=Tryz.zeroValue29
 t53:=underlying226
 a53:=Tryz.isAgg226
 z53:=Tryz.sizeOf226
 v53:=Tryz.zeroValue226 }
theorem Tryz.bits_Len(x:Int)(w:World)(h0:0≤x)(h1:x≤18446744073709551615):
 Calls prog 185 #[.int .u64 x] w fun e w'=>e=.returned (.int .i64 (Lib.bitLen x.toNat))∧w'=w:=Any.bits_Len Tryz.lays125 x w h0 h1
def Tryz.lays189_ren:Go.Shelf.Ren:=⟨fun | 189=>106 | 125=>185 | 257=>184 | 128=>261 | 129=>262 | 294=>252 | 295=>253 | 296=>254 | 297=>255 | 298=>256 | 299=>257 | 216=>258 | 300=>259 | 301=>260 | 328=>300 | 329=>301 | 330=>302 | 331=>303 | 332=>304 | 215=>305 | 343=>332 | n=>n,fun | 28=>24 | 3=>3 | 46=>22 | 0=>0 | 51=>29 | 53=>226 | 4=>4 | 183=>309 | 182=>308 | 131=>292 | 5=>5 | 9=>9 | 218=>353 | 222=>357 | 228=>387 | 229=>388 | n=>n,fun | n=>n⟩
theorem Tryz.lays189:Go.Proofs.Lays.n189 prog Tryz.lays189_ren:= {
 mixed:=by kernel_rfl
 f125:=func185.trans (congrArg some (by kernel_rfl))
 f128:=func261.trans (congrArg some (by kernel_rfl))
 f129:=func262.trans (congrArg some (by kernel_rfl))
 f189:=func106.trans (congrArg some (by kernel_rfl))
 f215:=func305.trans (congrArg some (by kernel_rfl))
 f216:=func258.trans (congrArg some (by kernel_rfl))
 f257:=func184.trans (congrArg some (by kernel_rfl))
 f294:=func252.trans (congrArg some (by kernel_rfl))
 f295:=func253.trans (congrArg some (by kernel_rfl))
 f296:=func254.trans (congrArg some (by kernel_rfl))
 f297:=func255.trans (congrArg some (by kernel_rfl))
 f298:=func256.trans (congrArg some (by kernel_rfl))
 f299:=func257.trans (congrArg some (by kernel_rfl))
 f300:=func259.trans (congrArg some (by kernel_rfl))
 f301:=func260.trans (congrArg some (by kernel_rfl))
 f328:=func300.trans (congrArg some (by kernel_rfl))
 f329:=func301.trans (congrArg some (by kernel_rfl))
 f330:=func302.trans (congrArg some (by kernel_rfl))
 f331:=func303.trans (congrArg some (by kernel_rfl))
 f332:=func304.trans (congrArg some (by kernel_rfl))
 f343:=func332.trans (congrArg some (by kernel_rfl))
 t0:=underlying0
 a0:=Tryz.isAgg0
 z0:=Tryz.sizeOf0
 v0:=Tryz.zeroValue0
 t3:=underlying3
 a3:=Tryz.isAgg3
 z3:=Tryz.sizeOf3
 v3:=Tryz.zeroValue3
 t4:=underlying4
 a4:=Tryz.isAgg4
 z4:=Tryz.sizeOf4
 v4:=Tryz.zeroValue4
 t5:=underlying5
 a5:=Tryz.isAgg5
 z5:=Tryz.sizeOf5
 v5:=Tryz.zeroValue5
 t9:=underlying9
 a9:=Tryz.isAgg9
 z9:=Tryz.sizeOf9
 v9:=Tryz.zeroValue9
 t28:=underlying24
 a28:=Tryz.isAgg24
 z28:=Tryz.sizeOf24
 v28:=Tryz.zeroValue24
 t46:=underlying22
 a46:=Tryz.isAgg22
 z46:=Tryz.sizeOf22
 v46:=Tryz.zeroValue22
 t51:=underlying29
 a51:=Tryz.isAgg29
 z51:=Tryz.sizeOf29
 v51:=Tryz.zeroValue29
 t53:=underlying226
 a53:=Tryz.isAgg226
 z53:=Tryz.sizeOf226
 v53:=Tryz.zeroValue226
 t131:=underlying292
 a131:=Tryz.isAgg292
 z131:=Tryz.sizeOf292
 v131:=Tryz.zeroValue292
 t182:=underlying308
 a182:=Tryz.isAgg308
 z182:=Tryz.sizeOf308
 v182:=Tryz.zeroValue308
 t183:=underlying309
 a183:=Tryz.isAgg309
 z183:=Tryz.sizeOf309
 v183:=Tryz.zeroValue309
 t218:=underlying353
 a218:=Tryz.isAgg353
 z218:=Tryz.sizeOf353
 v218:=Tryz.zeroValue353
 t222:=underlying357
 a222:=Tryz.isAgg357
 z222:=Tryz.sizeOf357
 v222:=Tryz.zeroValue357
 t228:=underlying387
 a228:=Tryz.isAgg387
 z228:=Tryz.sizeOf387
 v228:=Tryz.zeroValue387
 t229:=underlying388
 a229:=Tryz.isAgg388
 z229:=Tryz.sizeOf388
 v229:=Tryz.zeroValue388 }
open Go.Sort Go.RowKit in
theorem Tryz.slices_Sort_int(blk off cap:Nat)(zs:List Int)(w:World)(hH:Holds (Value.int .i64) w blk off zs.toArray)(hblk:blk<w.heap.size)(hsz:zs.length<4611686018427387904):
 Calls prog 106 #[.slice (some ⟨blk,off,none⟩) zs.length cap] w fun e w'=>
  e=.returned (.tuple #[])∧∃n os,w'=grow (putRow (Value.int .i64) (Sort.ahead w n) blk off (zs.mergeSort fun x y=>decide (x≤y)).toArray) os:=Any.slices_Sort_int Tryz.lays189 blk off cap zs w hH hblk hsz
end Go.Proofs
namespace Go.Proofs.YtofgapdnadbgkaaGreatDoor
open Go.RowKit _root_.Go.Proofs.Tryz
theorem jB{a b:Nat}(h:a=b):Ending.returned (.int .i64 (a:Int))=.returned (.int .i64 (b:Int)):=by rw[h]
theorem dK:(prog.info? 3).map (fun i=>(i.zero,i.size,i.bytes))=some (some (.int .i64 0),1,8):=by kernel_rfl
def bf(l:List Nat):List Value:=l.map fun x:Nat=>Value.int .i64 x
theorem Bc(l:List Nat):∀u∈bf l,u.oneCell'=true:=by
 intro u hu;obtain⟨x,_,rfl⟩:=List.mem_map.1 hu;rfl
theorem sS(l:List Nat):(bf l).length=l.length:=aG _
theorem bM{l:List Nat}{i:Nat}(h:i<l.length):(bf l)[i]? =some (.int .i64 (l.getD i 0:Nat)):=by
 simp[bf,List.getElem?_map,ag h]
theorem Hz(r:Nat)(h:r≤64)(w:World):Calls prog 185 #[.int .u64 r] w fun e w'=>e=.returned (.int .i64 (Lib.bitLen r:Nat))∧w=w':=by
 refine(Tryz.bits_Len (r:Int) w (by omega) (by omega)).mono ?_;rintro e w' ⟨rfl,rfl⟩;exact⟨by rw[Int.toNat_natCast],rfl⟩
theorem H5(l:Nat)(h1:1≤l)(h2:l≤64)(w:World):
 Calls prog 221 #[.int .i64 l] w fun e w'=>e=.returned (.int .i64 (dH l:Nat))∧w=w':=by
 go_enter func221,ntmps221;go_wp2_with fail
 go_loop [3] (fun r=>∃k:Nat,k≤8∧r=.int .i64 k∧Hid (nQ l k (9-k)=dH l)) (fun r=>8-(intOf r).toNat)
 case atStart=>exact⟨0,by omega,rfl,ae rfl⟩
 case round=>
  obtain⟨k,hk,rfl,HK⟩:=hrel;have hkk:k*k≤8*8:=Nat.mul_le_mul hk hk;have e1:(k:Int)*(k:Int)=((k*k:Nat):Int):=(by rw[Int.natCast_mul]);have HS:Hid (nQ l k (9-k)=if k*k<l then nQ l (k+1) (9-(k+1)) else k):=ae (by rw[show 9-k=(9-(k+1))+1 by omega,nQ]);have h8:k=8→k*k=64:=(by rintro rfl;rfl);generalize k*k=q at*;by_cases hlt:q<l
  ·have hk7:k<8:=by omega
   clear h8;go_wp2_with fail
   go_round
   case rel=>exact⟨k+1,by omega,by go_num,ae (by rw[←HK.out,HS.out,if_pos hlt])⟩
   case measure=>simp[intOf];omega
  ·clear h8
   go_wp2_with fail;go_ret;exact⟨jB (by rw[←HK.out,HS.out,if_neg hlt]),rfl⟩
theorem Bd(l k:Nat)(h1:1≤l)(h2:l≤64)(k1:1≤k)(k2:k≤l)(w:World):
 Calls prog 155 #[.int .i64 l,.int .i64 k] w fun e w'=>e=.returned (.int .i64 (yN l k:Nat))∧w=w':=by
 have hr:=Ex h1 h2;have cr:=fun w=>H5 l h1 h2 w;have HV:Hid (yN l k=if k<l/dH l then He l k+1048576*dH l/(l*k) else if k=l/dH l then He l k+1048576*dH l*Lib.bitLen (dH l)/l else He l k):=ae rfl;have cl:=fun w=>Hz (dH l) (by omega) w;generalize yN l k=out at*;generalize hb:Lib.bitLen (dH l)=b at*;clear hb;generalize dH l=r at*;have HB:Hid (He l k=if 1<k then 1048576/(k*(k-1)) else 1048576/l):=ae rfl;generalize He l k=base at*;have p1:k*(k-1)≤64*63:=Nat.mul_le_mul (by omega) (by omega);have p2:l*k≤64*64:=Nat.mul_le_mul h2 (by omega);have p2':1*1≤l*k:=Nat.mul_le_mul h1 k1;have p3:1048576*r*b≤1048576*8*4:=Nat.mul_le_mul (by omega) hr.2.2;have p1':1<k→2*1≤k*(k-1):=fun h=>Nat.mul_le_mul h (by omega);have e1:(k:Int)*((k:Int)-1)=((k*(k-1):Nat):Int):=by rw[Int.natCast_mul,Int.ofNat_sub (by omega)];rfl
 have e2:(l:Int)*(k:Int)=((l*k:Nat):Int):=by rw[Int.natCast_mul]
 have e3:1048576*(r:Int)*(b:Int)=((1048576*r*b:Nat):Int):=by rw[Int.natCast_mul,Int.natCast_mul];rfl
 have q1:(1048576:Int)/(l:Int)=((1048576/l:Nat):Int):=by simp
 have q1b:1048576/l≤1048576:=Nat.div_le_self _ _;have q2:(l:Int)/(r:Int)=((l/r:Nat):Int):=by simp
 have q2b:l/r≤l:=Nat.div_le_self _ _;generalize l/r=m at*;generalize hd1:1048576/l=d1 at*;have HD1:=ae hd1;clear hd1;generalize k*(k-1)=P at*;generalize l*k=Q at*;have q3:(1048576:Int)/(P:Int)=((1048576/P:Nat):Int):=by simp
 have q3b:1048576/P≤1048576:=Nat.div_le_self _ _;generalize hd2:1048576/P=d2 at*;have HD2:=ae hd2;clear hd2;have q4:(1048576*(r:Int))/(Q:Int)=((1048576*r/Q:Nat):Int):=by simp
 have q4b:1048576*r/Q≤1048576*r:=Nat.div_le_self _ _;generalize 1048576*r/Q=d3 at*;generalize 1048576*r*b=V at*;have q5:(V:Int)/(l:Int)=((V/l:Nat):Int):=by simp
 have q5b:V/l≤V:=Nat.div_le_self _ _;generalize V/l=d4 at*;have CR:=ae cr;have CL:=ae cl;clear cr cl
 have hc:(k<m∧((k:Int) == (m:Int))=false)∨(k=m∧¬(k:Int)<(m:Int)∧((k:Int) == (m:Int))=true)∨(m<k∧¬(k:Int)<(m:Int)∧((k:Int) == (m:Int))=false):=by
  rcases Nat.lt_trichotomy k m with h | h | h
  ·exact .inl ⟨h,by rw[beq_eq_false_iff_ne];omega⟩
  ·exact .inr (.inl ⟨h,by omega,by rw[beq_iff_eq];omega⟩)
  ·exact .inr (.inr ⟨h,by omega,by rw[beq_eq_false_iff_ne];omega⟩)
 by_cases hk:1<k
 ·rw[if_pos hk] at HB
  have p1'':=p1' hk;clear p1';rcases hc with⟨hm,hm2⟩ | ⟨hm,hm1,hm2⟩ | ⟨hm,hm1,hm2⟩
  ·rw[if_pos hm] at HV
   go_enter func155,ntmps155;go_wp2_with fail;refine(CR.out _).mono ?_;rintro e w1 ⟨rfl,rfl⟩;go_wp2_with fail;go_ret;exact⟨jB (by first | (rw[HV.out,HB.out];done) | (rw[HV.out,HB.out,←HD2.out];done) | (rw[HV.out,HB.out,←HD1.out];done)),rfl⟩
  ·rw[if_neg (by omega),if_pos hm] at HV
   have HM:=ae hm;clear hm;go_enter func155,ntmps155;go_wp2_with fail;refine(CR.out _).mono ?_;rintro e w1 ⟨rfl,rfl⟩;go_wp2_with fail;refine(CL.out _).mono ?_;rintro e w1 ⟨rfl,rfl⟩;go_wp2_with fail;go_ret;exact⟨jB (by first | (rw[HV.out,HB.out];done) | (rw[HV.out,HB.out,←HD2.out];done) | (rw[HV.out,HB.out,←HD1.out];done)),rfl⟩
  ·rw[if_neg (by omega),if_neg (by omega)] at HV
   go_enter func155,ntmps155;go_wp2_with fail;refine(CR.out _).mono ?_;rintro e w1 ⟨rfl,rfl⟩;go_wp2_with fail;go_ret;exact⟨jB (by first | (rw[HV.out,HB.out];done) | (rw[HV.out,HB.out,←HD2.out];done) | (rw[HV.out,HB.out,←HD1.out];done)),rfl⟩
 ·rw[if_neg hk] at HB
  clear p1';rcases hc with⟨hm,hm2⟩ | ⟨hm,hm1,hm2⟩ | ⟨hm,hm1,hm2⟩
  ·rw[if_pos hm] at HV
   go_enter func155,ntmps155;go_wp2_with fail;refine(CR.out _).mono ?_;rintro e w1 ⟨rfl,rfl⟩;go_wp2_with fail;go_ret;exact⟨jB (by first | (rw[HV.out,HB.out];done) | (rw[HV.out,HB.out,←HD2.out];done) | (rw[HV.out,HB.out,←HD1.out];done)),rfl⟩
  ·rw[if_neg (by omega),if_pos hm] at HV
   have HM:=ae hm;clear hm;go_enter func155,ntmps155;go_wp2_with fail;refine(CR.out _).mono ?_;rintro e w1 ⟨rfl,rfl⟩;go_wp2_with fail;refine(CL.out _).mono ?_;rintro e w1 ⟨rfl,rfl⟩;go_wp2_with fail;go_ret;exact⟨jB (by first | (rw[HV.out,HB.out];done) | (rw[HV.out,HB.out,←HD2.out];done) | (rw[HV.out,HB.out,←HD1.out];done)),rfl⟩
  ·rw[if_neg (by omega),if_neg (by omega)] at HV
   go_enter func155,ntmps155;go_wp2_with fail;refine(CR.out _).mono ?_;rintro e w1 ⟨rfl,rfl⟩;go_wp2_with fail;go_ret;exact⟨jB (by first | (rw[HV.out,HB.out];done) | (rw[HV.out,HB.out,←HD2.out];done) | (rw[HV.out,HB.out,←HD1.out];done)),rfl⟩
def OwnI(w:World)(C:Nat)(v:Value)(l:List Nat):Prop:=w.ownsRow C 3 1 v l.length (bf l)
theorem OwnI.nil(w:World)(C:Nat):OwnI w C (.slice none 0 0) []:=World.ownsRow_nil _ _ _ _
theorem OwnI.below{w w':World}{C:Nat}{v:Value}{l:List Nat}(h:OwnI w C v l)(hb:Below w.heap.size w w'):OwnI w' C v l:=eZ h hb
theorem OwnI.base{w:World}{C C':Nat}{v:Value}{l:List Nat}(h:OwnI w C v l)(hC:C'≤C):OwnI w C' v l:=kI h hC
theorem OwnI.rd{w:World}{C:Nat}{v:Value}{l:List Nat}(h:OwnI w C v l):∃a c,v=.slice a l.length c∧Rd w w.heap.size a l.length (bf l):=mE h
theorem OwnI.append{w':World}{C:Nat}{v':Value}{l:List Nat}{x:Nat}(h:w'.ownsRow C 3 1 v' (l.length+1) (bf l++[.int .i64 (x:Nat)])):OwnI w' C v' (l++[x]):=by
 unfold OwnI;rw[show bf (l++[x])=bf l++[.int .i64 (x:Nat)] by simp[bf],aJ];exact h
theorem FX(l:Int)(hl: -9223372036854775808≤l∧l≤9223372036854775807)(w:World):
 Calls prog 82 #[.int .i64 l] w fun e w'=>∃v,e=.returned v∧OwnI w' w.heap.size v (eD l)∧Below w.heap.size w w':=by
 by_cases hin:1≤l∧l≤64
 ·obtain⟨n,rfl⟩:=Int.eq_ofNat_of_zero_le (a:=l) (by omega)
  have h1:1≤n:=(by omega);have h2:n≤64:=(by omega);rw[sF ⟨h1,h2⟩];clear hl hin;have HW:Hid (∀k,1≤k→k≤n→∀w,Calls prog 155 #[.int .i64 n,.int .i64 k] w fun e w'=>e=.returned (.int .i64 (yN n k:Nat))∧w=w'):=ae fun k a b w=>Bd n k h1 h2 a b w;obtain⟨i0,hi,hz0,hz1,hz2⟩:=info_parts dK;go_enter func82,ntmps82
  go_wp2_with (at_make;refine wpList_make_own _ rfl _ _ 24 rfl w.heap.size 3 i0 (.int .i64 0) 1 underlying24 hi hz0 hz1 _ _ _ n rfl rfl rfl ?m1 ?m2 ?m3 ?_)
  case m1=>rw[hz2];omega
  case m2=>unfold maxLen;omega
  case m3=>exact ah _
  intro w1 hown hg;have hb1:Below w.heap.size w w1:=(az _ _).grown hg (ah _) (by simp);have HO:Hid (OwnI w1 w.heap.size (.slice (some ⟨w.heap.size,0,none⟩) 0 n) ((gG n).take 0)):=hown;have HB:=ae hb1;clear hown hg hb1 hi hz0 hz1 hz2;go_wp2_with fail;generalize hB0:w.heap.size=B0 at*;have HB0:=ae hB0;clear hB0;generalize (Value.slice (some ⟨B0,0,none⟩) 0 (n:Nat))=v0 at*;go_loopw [3,4,5] (fun v s i wr=>∃k:Nat,k≤n∧i=.int .i64 ((k:Int)+1)∧s=.int .i64 (fN n k:Nat)∧Hid (OwnI wr B0 v ((gG n).take k))∧Hid (Below B0 w wr)) (fun _ _ i _=>n+1-(intOf i).toNat)
  case atStart=>exact⟨0,by omega,rfl,rfl,HO,HB⟩
  case round=>
   clear HO HB;obtain⟨k,hk,rfl,rfl,HO,HB⟩:=hrel;by_cases hlt:k<n
   ·have hw:∀w,Calls prog 155 #[.int .i64 n,.int .i64 ((k:Int)+1)] w fun e w'=>e=.returned (.int .i64 (yN n (k+1):Nat))∧w=w':=HW.out (k+1) (by omega) (by omega)
    have hs0:=sum_lt h2 (k:=k) (by omega);have hs1:=sum_lt h2 (k:=k+1) (by omega);have hss:(fN n k:Int)+(yN n (k+1):Int)=(fN n (k+1):Nat):=(by rw[←Int.natCast_add];rfl);have htk:=xw hlt;have hlen:((gG n).take k).length=k:=(by rw[aI,eC];omega);have CW:=ae hw;have HT:=ae htk;have HL:=ae hlen;clear hw htk hlen;generalize fN n k=s0 at*;generalize hs1e:fN n (k+1)=s1 at*;have HS1:=ae hs1e;clear hs1e;generalize yN n (k+1)=wt at*;go_wp2_with fail;refine(CW.out _).mono ?_;rintro e w2 ⟨rfl,rfl⟩;have ho:=HO.out;unfold OwnI at ho;rw[HL.out] at ho;have hsz:B0≤wr.heap.size:=by have:=HB.out.size;have:=HB0.out;omega
    go_wp2_with (at_builtin;refine jX _ rfl _ _ 24 rfl B0 3 (.int .i64 0) 8 underlying24 dK rfl _ k _ rfl (ho.alloc _) _ (.int .i64 (s1:Nat)) rfl ?p2 rfl ?p3 ?p4 ?p5 ?_)
    case p2=>go_simp
    case p3=>omega
    case p4=>unfold maxLen;omega
    case p5=>simp;omega
    intro v6 w6 hown6 hg6 _;have HO6:Hid (OwnI w6 B0 v6 ((gG n).take (k+1))):=ae (by rw[HT.out];exact OwnI.append (by rw[HL.out];exact hown6));have HB6:Hid (Below B0 w w6):=ae ((HB.out.alloc hsz _).grown hg6 (by simp;omega) (fun g hg=>(ho.lt g hg).1));clear ho hown6 hg6 HO HB;go_wp2_with fail;go_roundw
    case rel=>exact⟨k+1,by omega,by go_num,by rw[HS1.out],HO6,HB6⟩
    case measure=>simp[intOf];omega
   ·obtain rfl:k=n:=by omega
    have ht:(gG k).take k=gG k:=aO (by rw[eC];exact ah _);rw[ht] at HO;go_wp2_with fail;go_ret;exact⟨_,rfl,by rw[HB0.out];exact HO.out,by rw[HB0.out];exact HB.out⟩
 ·have hout:l<1∨64<l:=by omega
  rw[AX hout];clear hin;by_cases h1:l<1
  ·go_enter func82,ntmps82
   go_wp2_with fail;go_ret;exact⟨_,rfl,OwnI.nil _ _,az _ _⟩
  ·have h2:64<l:=by omega
   go_enter func82,ntmps82;go_wp2_with fail;go_ret;exact⟨_,rfl,OwnI.nil _ _,az _ _⟩
def Dp(w:World)(p:Option Addr)(s:Int):Prop:=p=none∨∃b o,p=some ⟨b,o,none⟩∧At w ⟨b,o,none⟩ (.int .u64 s)
def fM(w:World)(p:Option Addr)(s:Int):World:=match p with | none=>w | some a=>w.setCell a (.int .u64 s)
theorem xk(w:World)(p:Option Addr)(s t:Int)(h:p=none∨∃b o,p=some ⟨b,o,none⟩):fM (fM w p s) p t=fM w p t:=by
 rcases h with rfl | ⟨b,o,rfl⟩
 ·rfl
 ·exact Go.Proofs.setCell_setCell w b o _ _
theorem jw(w:World)(p:Option Addr)(s:Int):(fM w p s).heap.size=w.heap.size:=by
 unfold fM;split <;> simp[World.setCell]
theorem Dp.lt{w:World}{b o:Nat}{s:Int}(h:Dp w (some ⟨b,o,none⟩) s):b<w.heap.size:=by
 rcases h with h | ⟨b',o',h1,h2⟩
 ·cases h
 ·injection h1 with h1;injection h1 with h1 h3;subst h1;exact h2.lt
theorem Dp.put{w:World}{p:Option Addr}{s:Int}(h:Dp w p s)(t:Int):Dp (fM w p t) p t:=by
 rcases h with rfl | ⟨b,o,rfl,h2⟩
 ·exact .inl rfl
 ·exact .inr ⟨b,o,rfl,h2.put _⟩
theorem Dp.form{w:World}{p:Option Addr}{s:Int}(h:Dp w p s):p=none∨∃b o,p=some ⟨b,o,none⟩:=by
 rcases h with h | ⟨b,o,h,_⟩
 ·exact .inl h
 ·exact .inr ⟨b,o,h⟩
theorem Dp.below{w w':World}{p:Option Addr}{s:Int}{B:Nat}(h:Dp w p s)(hb:Below B w w')(hB:w.heap.size≤B):Dp w' p s:=by
 rcases h with h | ⟨b,o,rfl,h2⟩
 ·exact .inl h
 ·exact .inr ⟨b,o,rfl,h2.below hb (by have:=h2.lt;omega)⟩
theorem Dp.far{w:World}{p:Option Addr}{s:Int}(h:Dp w p s){g:Nat}(hp:∀b o,p=some ⟨b,o,none⟩→b<g)(i:Nat)(v:Value):Dp (w.setCell ⟨g,i,none⟩ v) p s:=by
 rcases h with h | ⟨b,o,rfl,h2⟩
 ·exact .inl h
 ·exact .inr ⟨b,o,rfl,h2.far (q:=⟨g,i,none⟩) (by have:=hp b o rfl;simp;omega) v⟩
theorem uV{B:Nat}{X Y:World}(h:Below B X Y)(hB:B≤X.heap.size)(p:Option Addr)(t:Int):Below B (fM X p t) (fM Y p t):=by
 unfold fM;split
 ·exact h
 ·rename_i a
  refine⟨h.os,h.tape,h.output,by simpa[World.setCell] using h.size,fun k hk=> ?_⟩;have:=h.block k hk;by_cases he:a.block=k
  ·subst he
   simp only[World.setCell,Array.getElem?_modify];rw[this]
  ·simp only[World.setCell,Array.getElem?_modify,if_neg he]
   exact this
theorem Blk.setD{w:World}{g:Nat}{t:TypeId}{cs:Array Value}(h:Blk w g t cs){p:Option Addr}(hp:∀b o,p=some ⟨b,o,none⟩→b<g)(hf:p=none∨∃b o,p=some ⟨b,o,none⟩)(x:Int):Blk (fM w p x) g t cs:=by
 rcases hf with rfl | ⟨b,o,rfl⟩
 ·exact h
 ·exact h.far (p:=⟨b,o,none⟩) (by have:=hp b o rfl;simp;omega) _
theorem Aw(s n:Int)(p:Option Addr)(w:World)(h:Dp w p s)(hn: -9223372036854775808≤n∧n≤9223372036854775807):
 Calls prog 154 #[.pointer p,.int .i64 n] w fun e w'=>e=.returned (.int .i64 (bN p.isNone s n:Nat))∧w'=fM w p (sN p.isNone s n):=by
 rcases h with rfl | ⟨b,o,rfl,h2⟩
 ·exact(sQ n w).mono fun e w' ⟨h1,h3⟩=>⟨h1,h3.symm⟩
 ·refine(sP s n _ w h2.1 h2.2 hn).mono fun e w' ⟨h1,h3⟩=>⟨?_,h3.symm⟩
  rw[h1];have:(iT s n)=((iT s n).toNat:Int):=(by have:=(lZ s n).1;omega);show Ending.returned (.int .i64 (iT s n))=Ending.returned (.int .i64 ((iT s n).toNat:Int));rw[←this]
theorem yE(s n:Int)(b o:Nat)(w:World)(h2:At w ⟨b,o,none⟩ (.int .u64 s))(hn: -9223372036854775808≤n∧n≤9223372036854775807):
 Calls prog 316 #[.pointer (some ⟨b,o,none⟩),.int .i64 n] w fun e w'=>e=.returned (.int .i64 (bN false s n:Nat))∧w'=fM w (some ⟨b,o,none⟩) (sN false s n):=by
 refine(qU s n _ w h2.1 h2.2 hn).mono fun e w' ⟨h1,h3⟩=>⟨?_,h3.symm⟩;rw[h1];have:(iT s n)=((iT s n).toNat:Int):=by have:=(lZ s n).1;omega
 show Ending.returned (.int .i64 (iT s n))=Ending.returned (.int .i64 ((iT s n).toNat:Int));rw[←this]
def lV(l:List Nat):Array Value:=(bf l).toArray
theorem Gy(l:List Nat):(lV l).size=l.length:=by simp[lV,bf]
theorem pY{l:List Nat}{i:Nat}(h:i<l.length):(lV l)[i]? =some (.int .i64 (l.getD i 0:Nat)):=by
 simp only[lV,List.getElem?_toArray];exact bM h
theorem uW(l:List Nat)(i x:Nat):(lV l).setIfInBounds i (.int .i64 (x:Nat))=lV (l.set i x):=by
 apply Array.ext';rw[Array.toList_setIfInBounds];simp[lV,bf]
def Ei(n k:Nat):List Nat:=List.range k++List.replicate (n-k) 0
theorem Ej{n k:Nat}(h:k≤n):(Ei n k).length=n:=by simp[Ei];omega
theorem JF(n:Nat):Ei n n=List.range n:=by simp[Ei]
theorem LJ{n k:Nat}(h:k<n):(Ei n k).set k k=Ei n (k+1):=by
 unfold Ei;rw[List.set_append_right _ _ (by simp),List.length_range,Nat.sub_self,show n-k=(n-(k+1))+1 by omega,List.replicate_succ,List.set_cons_zero,List.range_succ,List.append_assoc];rfl
theorem JG(n:Nat):madeCells #[Value.int .i64 0] n=lV (Ei n 0):=by
 apply Array.ext (by rw[size_madeCells,Gy,Ej (Nat.zero_le _)]);intro i h1 h2;simp[madeCells,lV,bf,Ei,Nat.mod_one]
theorem Gz(ad:Addr)(n c:Nat)(xs:List Value)(w:World)(hr:Rd w w.heap.size (some ad) n xs)(h1:∀u∈xs,u.oneCell'=true)(hn:n*8≤140737488355328):
 Calls prog 156 #[.slice (some ad) n c] w fun e w'=>∃v,e=.returned v∧w'.ownsRow w.heap.size 3 1 v n xs∧Below w.heap.size w w'∧v≠ .slice none 0 0:=by
 have hq:=fun W=>Lib.run_eql_slice_nil (P:=prog) W 24 3 (some ad) n c 0 0 underlying24;have HR:=ae hr;have H1:=ae h1;clear hr h1;go_enter func156,ntmps156
 go_wp2_with (at_builtin;refine zF _ rfl _ _ 24 rfl w.heap.size 3 (.int .i64 0) 8 underlying24 dK rfl (.slice (some ⟨w.heap.size,0,none⟩) 0 0) 0 [] rfl ?o1 w.heap.size ad n c xs rfl ?o2 H1.out ?o3 ?o4 ?o5 ?_)
 case o1=>exact World.ownsRow_made w #[] 0 (ah _) (by unfold maxLen;omega) (by simp)
 case o2=>exact HR.out.keep (fun p hp=>World.cell?_alloc_lt _ _ _ hp)
 case o3=>omega
 case o4=>unfold maxLen;omega
 case o5=>simp
 intro v w1 hown hg hv;have hb:Below w.heap.size w w1:=((az _ _).alloc (ah _) _).grown hg (by simp) (fun k hk=>by simp[Value.ownBlock] at hk;omega);have hown':w1.ownsRow w.heap.size 3 1 v n xs:=by simpa using hown
 have hne:Hid (v≠ .slice none 0 0):=ae (by simpa using hv);clear hv;go_wp2_with fail;go_ret;exact⟨_,rfl,hown',hb,hne.out⟩
section
open Go.RowKit Go.Sort
theorem Gd{n:Nat}(hn:n≤1000000)(w:World):(Instr.makeSlice 24 (.int .i64 (n:Int)) (.int .i64 (n:Int))).run prog w=.ok (.slice (some ⟨w.heap.size,0,none⟩) n n) (w.alloc (.cells (lV (Ei n 0)) 3)):=by
 obtain⟨i0,hi,hz0,hz1,hz2⟩:=info_parts dK;have h:=run_make (P:=prog) w 24 3 i0 (.int .i64 0) underlying24 hi hz0 .i64 .i64 (n:Int) (n:Int) (by omega) (by omega) (by rw[hz2];omega) (by omega);rw[hz1,Nat.mul_one,Int.toNat_natCast] at h;rw[←JG];exact h
theorem Ad(p:Option Addr)(n k:Int)(w:World)(hno:¬(0≤n∧n≤64∧0≤k∧k≤n)):
 Calls prog 83 #[.pointer p,.int .i64 n,.int .i64 k] w fun e w'=>e=.returned (.slice none 0 0)∧w=w':=by
 go_enter func83,ntmps83;go_wp2_with fail
 all_goals first | omega | (go_ret;exact⟨rfl,rfl⟩) | skip
theorem Jf(p:Option Addr)(s:Int)(n k:Nat)(w:World)(hn:n≤64)(hk:k≤n)(hD:Dp w p s):
 Calls prog 83 #[.pointer p,.int .i64 n,.int .i64 k] w fun e w'=>∃v,e=.returned v∧OwnI w' w.heap.size v (chosen p.isNone n s k)∧Below w.heap.size (fM w p (dE p.isNone n s k)) w':=by
 have hmk:=Gd (n:=n) (by omega);have g1:¬(n:Int)>64:=by omega
 have g2:¬(k:Int)>(n:Int):=by omega
 have HD:=ae hD;clear hD;go_enter func83,ntmps83
 go_wp2_with (simp only[hmk])
 have hB1:=Blk.new w 3 (lV (Ei n 0));have hb1:=(az w.heap.size w).alloc (ah _) (.cells (lV (Ei n 0)) 3);have HB:=ae hB1;have HBL:=ae hb1;clear hB1 hb1 hmk;generalize w.alloc (.cells (lV (Ei n 0)) 3)=w1 at*;generalize hG:w.heap.size=G at*;have HG:=ae hG;clear hG;go_loopw [8,31] (fun _ i wr=>∃j:Nat,j≤n∧i=.int .i64 j∧Hid (Blk wr G 3 (lV (Ei n j)))∧Hid (Below G w wr)) (fun _ i _=>n-(intOf i).toNat)
 case atStart=>exact⟨0,by omega,rfl,HB,HBL⟩
 case round=>
  clear HB HBL;obtain⟨j,hj,rfl,HB,HBL⟩:=hrel;by_cases hlt:j<n
  ·have hset:=HB.out.set j (.int .i64 (j:Nat))
   rw[uW,LJ hlt] at hset;have co:=(HB.out.cell j).trans (pY (by rw[Ej (by omega)];exact hlt));have fo:=HB.out.frozen j;have HS:=ae hset;have HB2:=ae (HBL.out.setCell (p:=⟨G,j,none⟩) (ah _) (.int .i64 (j:Nat)));clear hset HB HBL;have hlt':(j:Int)<(n:Int):=(by omega);go_wp2_with fail;go_roundw
   case rel=>exact⟨j+1,by omega,by go_num,HS,HB2⟩
   case measure=>simp[intOf];omega
  ·obtain rfl:j=n:=by omega
   have HB1:Hid (Blk wr G 3 (lV (dR p.isNone j s 0))):=ae (by have h:=HB.out;rw[JF] at h;exact h);have hD1:Dp wr p s:=HD.out.below HBL.out (by rw[HG.out];exact ah _)
   have hset0:Hid (Below G (fM w p s) wr):=ae (by
    rcases HD.out with h | ⟨b,o,h,h2⟩
    ·subst h;exact HBL.out
    ·subst h
     show Below G (w.setCell ⟨b,o,none⟩ (.int .u64 s)) wr;rw[eF w _ _ h2.1];exact HBL.out)
   have HD1:=ae hD1;have hform:=ae HD.out.form;have hplt:=ae (show ∀b o,p=some ⟨b,o,none⟩→b<G from fun b o h=>by rw[←HG.out];subst h;exact HD.out.lt);generalize hnl:p.isNone=nl at*;have HNL:=ae hnl;clear HB HBL hD1 HD hnl g1 hlt;go_wp2_with fail;go_loopw [9,10,40] (fun _ _ i wr=>∃q:Nat,q≤k∧i=.int .i64 q∧Hid (Blk wr G 3 (lV (dR nl j s q)))∧Hid (Dp wr p (dE nl j s q))∧Hid (Below G (fM w p (dE nl j s q)) wr)) (fun _ _ i _=>k-(intOf i).toNat)
   case atStart=>exact⟨0,by omega,rfl,HB1,HD1,hset0⟩
   case round=>
    clear HB1 HD1 hset0;obtain⟨q,hq,rfl,HB,HD,HBL⟩:=hrel;by_cases hlt:q<k
    ·have hqn:q<j:=by omega
     have hjj:=Bg (nl:=nl) (s:=s) hqn;have cD:=Aw (dE nl j s q) ((j:Int)-(q:Int)) p wr HD.out (by omega);rw[HNL.out] at cD;have hL1:Hid (dR nl j s (q+1)=kC (dR nl j s q) q (q+bN nl (dE nl j s q) ((j:Int)-(q:Int)))):=ae rfl;have hS1:Hid (dE nl j s (q+1)=sN nl (dE nl j s q) ((j:Int)-(q:Int))):=ae rfl;have hlen:=eT nl j s q;have hBb:=Ia (nl:=nl) (s:=dE nl j s q) (n:=(j:Int)-(q:Int)) (by omega);generalize bN nl (dE nl j s q) ((j:Int)-(q:Int))=bb at*;generalize hs1:sN nl (dE nl j s q) ((j:Int)-(q:Int))=s1 at*;generalize dE nl j s q=s0 at*;generalize dR nl j s q=L at*;have CD:=ae cD;have HLEN:=ae hlen;have HBb:=ae hBb;have HS1x:=ae hs1;clear cD hlen hBb hs1;have hlt':(q:Int)<(k:Int):=(by omega);go_wp2_with fail;refine CD.out.mono ?_;rintro e w2 ⟨rfl,rfl⟩;have hB2:=HB.out.setD hplt.out hform.out s1;have HD2:=ae (HD.out.put s1);have hbl2:=uV HBL.out (by rw[jw,HG.out];exact ah _) p s1;rw[xk _ _ _ _ hform.out] at hbl2;have HBL2:=ae hbl2;obtain⟨jj,hjje⟩:∃jj,jj=q+bb:=⟨_,rfl⟩;rw[←hjje] at hjj;have hjI:(q:Int)+(bb:Int)=(jj:Int):=(by omega);have hbI:(bb:Int)<64:=(by have:=HBb.out;omega);rw[←hjje] at hL1;have c1:=(hB2.cell q).trans (pY (by rw[HLEN.out];exact hqn));have c2:=(hB2.cell jj).trans (pY (by rw[HLEN.out];exact hjj));have f1:=hB2.frozen q;have f2:=hB2.frozen jj;have t1:=(hB2.set q (.int .i64 (L.getD jj 0:Nat))).set jj (.int .i64 (L.getD q 0:Nat));rw[uW,uW] at t1;have T1:Hid (Blk (((fM wr p s1).setCell ⟨G,q,none⟩ (.int .i64 (L.getD jj 0:Nat))).setCell ⟨G,jj,none⟩ (.int .i64 (L.getD q 0:Nat))) G 3 (lV (dR nl j s (q+1)))):=ae (by rw[hL1.out];exact t1);have t3:=(hB2.set q (.int .i64 (L.getD jj 0:Nat))).frozen jj;have HJJ:=ae hjje;clear hB2 hbl2 t1 HB HBL HD hjje CD HBb;generalize L.getD q 0=x at*;generalize L.getD jj 0=y at*;generalize fM wr p s1=w3 at*;have T2:=ae ((HBL2.out.setCell (p:=⟨G,q,none⟩) (ah _) (.int .i64 (y:Nat))).setCell (p:=⟨G,jj,none⟩) (ah _) (.int .i64 (x:Nat)));have hqI:(q:Int)<(j:Int):=(by omega);have hjjI:(jj:Int)<(j:Int):=(by omega);go_wp2_with fail;have HLT:=ae hlt;have T3:=ae ((HD2.out.far hplt.out q (.int .i64 (y:Nat))).far hplt.out jj (.int .i64 (x:Nat)));rw[hS1.out.symm] at T2 T3;clear hjI hbI hqn hjj hlt hlt' hq;by_cases hqj:q=jj
     ·subst hqj
      obtain rfl:x=y:=(by rw[c1] at c2;injection c2 with c2;injection c2 with _ c2;omega);go_region;go_wp2_with fail;refine⟨⟨q+1,by have:=HLT.out;omega,by go_num,ae T1.out.drew,ae T3.out,ae (Below.drew T2.out)⟩,?_⟩;have:=HLT.out;simp[intOf];omega
     ·go_region
      go_wp2_with fail;refine⟨⟨q+1,by have:=HLT.out;omega,by go_num,ae T1.out.drew,ae T3.out,ae (Below.drew T2.out)⟩,?_⟩;have:=HLT.out;simp[intOf];omega
    ·obtain rfl:q=k:=by omega
     have hlen:=eT nl j s q
     have hr:Rd wr wr.heap.size (some ⟨G,0,none⟩) q (bf ((dR nl j s q).take q)):=by
      refine⟨by simp[bf];omega,fun h0=>⟨G,0,rfl,HB.out.lt,fun i u hu=> ?_⟩⟩
      have hi:i<q:=by
       have:=(List.getElem?_eq_some_iff.1 hu).1;simp[bf] at this;omega
      rw[Nat.zero_add,HB.out.cell i,pY (by omega)];rw[bM (by rw[aI];omega)] at hu;rw[←hu];simp only[af,List.getElem?_take,if_pos hi]
     have CC:=ae (Gz ⟨G,0,none⟩ q j _ wr hr (Bc _) (by omega));have HLS:Hid (((dR nl j s q).take q).length=q):=ae (by rw[aI];omega);have hch:Hid (chosen nl j s q=((dR nl j s q).take q).mergeSort leB):=ae rfl;generalize (dR nl j s q).take q=Z at*;clear hr hlen HB HD;have hqj:q≤j:=hk;go_wp2_with fail;refine CC.out.mono ?_;rintro e w5 ⟨v5,rfl,ho5,hb5,hne5⟩
     obtain⟨g,cap,cur,rfl,hg5,hblk5,hcap1,hcap2,hcsz,hct⟩:∃g cap cur,v5=.slice (some ⟨g,0,none⟩) q cap∧wr.heap.size≤g∧w5.heap[g]? =some (.cells cur 3 (0,0))∧q≤cap∧cap≤maxLen∧cur.size=cap*1∧cur.toList.take (q*1)=bf Z:=by
      rcases ho5.2 with⟨h,_⟩ | h
      ·exact absurd h hne5
      ·exact h
     have hzl:(Z.map fun x:Nat=>(x:Int)).length=q:=(by rw[aG];exact HLS.out);have hZ:bf Z=(Z.map fun x:Nat=>(x:Int)).map (Value.int .i64):=(by simp[bf]);have hH:=holds_of_blockI (ss:=Z.map fun x:Nat=>(x:Int)) hblk5 (by rw[hzl,←hZ,←Nat.mul_one q];exact hct);have cS:=Tryz.slices_Sort_int g 0 cap (Z.map fun x:Nat=>(x:Int)) w5 hH (Array.getElem?_eq_some_iff.1 hblk5).1 (by rw[hzl];omega);rw[hzl] at cS
     have hms:(Z.map fun x:Nat=>(x:Int)).mergeSort (fun x y=>decide (x≤y))=(Z.mergeSort leB).map fun x:Nat=>(x:Int):=by
      refine(List.map_mergeSort ?_).symm;intro a _ b _;simp[leB]
     have hfin:=ae fun n os=>ownsRow_sortedI (n:=n) (os:=os) (ts:=(Z.mergeSort leB).map fun x:Nat=>(x:Int)) (ss:=Z.map fun x:Nat=>(x:Int)) (by rw[aG,(fO Z).length_eq,aG]) hg5 hblk5 (by rw[hzl];exact hcap1) hcap2 hcsz;rw[hzl] at hfin;rw[hms] at cS;have CS:=ae cS;have HB5:=ae (HBL.out.trans (hb5.mono (by have h:=HBL.out.size;rw[jw,HG.out] at h;exact h)));have HG5:=ae (show G≤g from aQ (by have h:=HBL.out.size;rw[jw,HG.out] at h;exact h) hg5);have HW5:=ae (show G≤wr.heap.size from by have h:=HBL.out.size;rw[jw,HG.out] at h;exact h);clear hH cS hms hZ ho5 hb5 hne5 hblk5 hcap1 hcap2 hcsz hct hzl hg5 HBL CC;go_wp2_with fail;refine CS.out.mono ?_;rintro e w6 ⟨rfl,n6,os,rfl⟩;have HO:=ae (hfin.out n6 os);have HB6:=ae (HB5.out.grown (grownBy_sortedI (w:=w5) (g:=g) (n:=n6) (os:=os) ((Z.mergeSort leB).map fun x:Nat=>(x:Int)).toArray) (by have:=HW5.out;have h:=HB5.out.size;rw[jw,HG.out] at h;exact h) (fun g' hg'=>by cases hg';exact HG5.out));generalize grow _ os=w7 at*;clear hfin CS HB5;go_wp2_with fail;go_ret;refine⟨_,rfl,?_,by rw[HG.out,HNL.out];exact HB6.out⟩;rw[HNL.out,hch.out];have h:=HO.out;show World.ownsRow _ _ _ _ _ _ (bf _);rw[(fO Z).length_eq,HLS.out,HG.out,show bf (Z.mergeSort leB)=((Z.mergeSort leB).map fun x:Nat=>(x:Int)).map (Value.int .i64) by simp[bf]];exact kI h HW5.out
end
end Go.Proofs.YtofgapdnadbgkaaGreatDoor
