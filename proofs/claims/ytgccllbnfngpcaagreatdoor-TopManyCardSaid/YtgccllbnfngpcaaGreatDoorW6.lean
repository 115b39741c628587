import Derived.Test.YtgccllbnfngpcaaGreatDoorW5
import Derived.Lib.BitFns
import Derived.Shelf.Small.Bits
import Derived.Shelf.Strconv.Itoa0
import Derived.Shelf.Sort.Plain
import Derived.Test.YtgccllbnfngpcaaGreatDoorProg
import Derived.Sort.Walk7a
import Derived.Sort.OwnSortedInts
set_option linter.unusedVariables false
set_option maxRecDepth 100000
set_option maxHeartbeats 400000000
namespace Go.Proofs.YtgccllbnfngpcaaGreatDoor
open Go.RowKit _root_.Go.Proofs.Tryz List
open Value (int slice pointer bool)
open IntKind (i64)
open Ending (returned)
open Obj (cells)
def oF(l:Nat):Nat->Nat->Nat | r,0=>r | r,f+1=>if r*r<l then oF l (r+1) f else r
def dQ(l:Nat):Nat:=oF l 0 9
def He(l k:Nat):Nat:=if 1<k then 1048576/(k*(k-1)) else 1048576/l
def zA(l k:Nat):Nat:=
 if k<l/dQ l then He l k+1048576*dQ l/(l*k)
 else if k=l/dQ l then He l k+1048576*dQ l*Lib.bitLen (dQ l)/l
 else He l k
def gB(l:Nat):Nat->Nat | 0=>0 | k+1=>gB l k+zA l (k+1)
def ic(l:Nat):List Nat:=(range l).map fun i=>gB l (i+1)
theorem eZ(l:Nat):(ic l).length=l:=by simp[ic]
theorem jw{l i:Nat}(h:i<l):(ic l).getD i 0=gB l (i+1):=by
 simp[ic,h]
theorem xP{l k:Nat}(h:k<l):(ic l).take (k+1)=(ic l).take k++[gB l (k+1)]:=by
 have hk:k<(ic l).length:=by rw[eZ];exact h
 rw[aN hk];congr 2;have:=jw h;rw[af,ag hk] at this;exact this
def O6(l:Nat):Bool:=decide (1<=dQ l/\dQ l<=8/\l<=dQ l*dQ l/\Lib.bitLen (dQ l)<=4)
theorem DF:((range 65).all fun l=>l == 0 || O6 l)=true:=by decide +kernel
theorem ET{l:Nat}(h1:1<=l)(h2:l<=64):1<=dQ l/\dQ l<=8/\Lib.bitLen (dQ l)<=4:=by
 have:=all_eq_true.1 DF l (bA.2 (by omega));rw[Bool.or_eq_true] at this;rcases this with h | h
 ·have:=aZ h;omega
 ·have:=aZ h;exact⟨this.1,this.2.1,this.2.2.2⟩
def okTab(l:Nat):Bool:=(range l).all fun i=>decide (1<=zA l (i+1)/\gB l (i+1)<8388608/\(1<=i->i+1≠l/dQ l->zA l (i+1)<=zA l 2))
theorem Hf:((range 65).all okTab)=true:=by decide +kernel
theorem Kt{l i:Nat}(h2:l<=64)(hi:i<l):1<=zA l (i+1)/\gB l (i+1)<8388608/\(1<=i->i+1≠l/dQ l->zA l (i+1)<=zA l 2):=
 aZ (all_eq_true.1 (all_eq_true.1 Hf l (bA.2 (by omega))) i (bA.2 hi))
theorem sum_lt{l k:Nat}(h2:l<=64)(hk:k<=l):gB l k<8388608:=by
 cases k with
 | zero=>show 0<8388608;decide
 | succ k=>exact(Kt h2 hk).2.1
theorem Bd{l k:Nat}(h2:l<=64)(hk:k<l):gB l k<gB l (k+1):=by
 have:=(Kt h2 hk).1;show gB l k<gB l k+zA l (k+1);omega
theorem vG{l:Nat}(h2:l<=64):∀ {j k:Nat},k<=l->j<=k->gB l j<=gB l k:=by
 intro j k
 induction k with
 | zero=>intro _ h;rw[show j=0 by omega];exact ah _
 | succ k ih=>
   intro hk h;by_cases e:j=k+1
   ·rw[e];exact ah _
   ·have:=ih (by omega) (by omega)
    have:=Bd h2 (k:=k) (by omega);omega
def fe(l:Int):List Nat:=if 1<=l/\l<=64 then ic l.toNat else []
theorem tz{l:Nat}(h:1<=l/\l<=64):fe l=ic l:=by unfold fe;rw[bf (by omega),Int.toNat_natCast]
theorem Be{l:Int}(h:l<1\/64<l):fe l=[]:=by unfold fe;rw[bg (by omega)]
def BC(xs:List Nat)(x:Int):Nat->Nat->Nat
 | _,0=>0
 | i,f+1=>if x<(xs.getD i 0:Int) then i+1 else BC xs x (i+1) f
def nZ(xs:List Nat)(x:Int):Nat:=if xs=[]\/x<0\/(xs.getD (xs.length-1) 0:Int)<=x then 0 else BC xs x 0 xs.length
def sI(xs:List Nat)(x:Int):Nat:=if x<0 then 0 else BC xs x 0 xs.length
theorem Ku{xs:List Nat}{x:Int}:∀f i,(∀j,i<=j->j<i+f->(xs.getD j 0:Int)<=x)->BC xs x i f=0:=by
 intro f
 induction f with
 | zero=>intro i _;rfl
 | succ f ih=>
   intro i h;rw[BC,bg (by have:=h i (ah _) (by omega);omega)];exact ih (i+1) fun j h1 h2=>h j (by omega) (by omega)
theorem Kv{xs:List Nat}{x:Int}:∀f i k,i<=k->k<i+f->(∀j,i<=j->j<k->(xs.getD j 0:Int)<=x)->x<(xs.getD k 0:Int)->BC xs x i f=k+1:=by
 intro f
 induction f with
 | zero=>intro i k h1 h2;omega
 | succ f ih=>
   intro i k h1 h2 h3 h4;rw[BC];by_cases e:i=k
   ·subst e;rw[bf h4]
   ·rw[bg (by have:=h3 i (ah _) (by omega);omega)]
    exact ih (i+1) k (by omega) (by omega) (fun j a b=>h3 j (by omega) b) h4
theorem Na{l:Nat}(h2:l<=64)(x:Int):nZ (ic l) x=sI (ic l) x:=by
 unfold nZ sI;rw[eZ];by_cases hx:x<0
 ·rw[bf (.inr (.inl hx)),bf hx]
 ·rw[bg hx]
  by_cases h0:l=0
  ·subst h0;rw[bf (.inl rfl)];rfl
  ·by_cases hl:((ic l).getD (l-1) 0:Int)<=x
   ·rw[bf (.inr (.inr hl))]
    refine(Ku l 0 fun j _ hj=> ?_).symm;rw[jw (by omega)];rw[jw (by omega),show l-1+1=l by omega] at hl;have:=vG h2 (j:=j+1) (k:=l) (ah _) (by omega);omega
   ·rw[bg]
    rintro(h | h | h)
    ·have:=congrArg List.length h;rw[eZ] at this;exact h0 this
    ·exact hx h
    ·exact hl h
theorem EU(x:Int):nZ [] x=0/\sI [] x=0:=⟨by unfold nZ;rw[bf (.inl rfl)],by unfold sI;split <;> rfl⟩
theorem Kw(l x:Int):nZ (fe l) x=sI (fe l) x:=by
 unfold fe;split
 ·exact Na (by omega) x
 ·rw[(EU x).1,(EU x).2]
theorem Nb{l k:Nat}(h2:l<=64)(hk:k<l){x:Int}(h0:(gB l k:Int)<=x)(h1:x<(gB l (k+1):Int)):nZ (ic l) x=k+1:=by
 have hl:gB l (k+1)<=gB l l:=vG h2 (ah _) hk;unfold nZ;rw[eZ,bg]
 ·refine Kv l 0 k (bu _) (by omega) (fun j _ hj=> ?_) ?_
  ·rw[jw (by omega)]
   have:=vG h2 (j:=j+1) (k:=k) (by omega) hj;omega
  ·rw[jw hk];exact h1
 ·rintro(h | h | h)
  ·have:=congrArg List.length h;rw[eZ] at this;simp at this;omega
  ·omega
  ·rw[jw (by omega),show l-1+1=l by omega] at h;omega
theorem Nc{l:Nat}(h1:1<=l)(h2:l<=64){x:Int}(h0:0<=x)(hx:x<(gB l l:Int)):1<=nZ (ic l) x/\nZ (ic l) x<=l:=by
 have:∀n,n<=l->x<(gB l n:Int)->∃k,k<n/\(gB l k:Int)<=x/\x<(gB l (k+1):Int):=by
  intro n
  induction n with
  | zero=>intro _ h;simp[gB] at h;omega
  | succ n ih=>
    intro hn h;by_cases hc:(gB l n:Int)<=x
    ·exact⟨n,by omega,hc,h⟩
    ·obtain⟨k,a,b,c⟩:=ih (by omega) (by omega)
     exact⟨k,by omega,b,c⟩
 obtain⟨k,a,b,c⟩:=this l (ah _) hx;rw[Nb h2 a b c];omega
end Go.Proofs.YtgccllbnfngpcaaGreatDoor
namespace Go.Proofs
open Go.Shelf
def Tryz.lays125_ren:Go.Shelf.Ren:=⟨fun | 125=>121 | 128=>193 | 129=>194 | n=>n,fun | 46=>181 | 3=>3 | 51=>31 | 53=>248 | 4=>4 | 5=>5 | 9=>9 | n=>n,fun | n=>n⟩
theorem Tryz.lays125:Go.Proofs.Lays.n125 prog Tryz.lays125_ren:= {
 mixed:=by kernel_rfl
 f125:=func121.trans (congrArg some (by kernel_rfl))
 f128:=func193.trans (congrArg some (by kernel_rfl))
 f129:=func194.trans (congrArg some (by kernel_rfl))
 t3:=underlying3
 a3:=Tryz.isAgg3
 z3:=Tryz.sizeOf3
 v3:=Tryz.zeroValue3
 t4:=underlying4
 a4:=Tryz.isAgg4
 z4:=Tryz.sizeOf4
 v4:=Tryz.zeroValue4
 t5:=underlying5
 a5:=Tryz.isAgg5
 z5:=Tryz.sizeOf5
 v5:=Tryz.zeroValue5
 t9:=underlying9
 a9:=Tryz.isAgg9
 z9:=Tryz.sizeOf9
 v9:=Tryz.zeroValue9
 t46:=underlying181
 a46:=Tryz.isAgg181
 z46:=Tryz.sizeOf181
 v46:=Tryz.zeroValue181
 t51:=underlying31
 a51:=Tryz.isAgg31
 z51:=Tryz.sizeOf31
 v51:=Tryz.zeroValue31
 t53:=underlying248
 a53:=Tryz.isAgg248
 z53:=Tryz.sizeOf248
 v53:=Tryz.zeroValue248 }
theorem Tryz.bits_Len(x:Int)(w:World)(h0:0<=x)(h1:x<=18446744073709551615):
 Calls prog 121 #[.int .u64 x] w fun e w'=>e=.returned (.int .i64 (Lib.bitLen x.toNat))/\w'=w:=Any.bits_Len Tryz.lays125 x w h0 h1
def Tryz.lays189_ren:Go.Shelf.Ren:=⟨fun | 189=>63 | 125=>121 | 257=>120 | 128=>193 | 129=>194 | 294=>184 | 295=>185 | 296=>186 | 297=>187 | 298=>188 | 299=>189 | 216=>190 | 300=>191 | 301=>192 | 328=>248 | 329=>249 | 330=>250 | 331=>251 | 332=>252 | 215=>253 | 343=>313 | n=>n,fun | 28=>22 | 3=>3 | 46=>181 | 0=>0 | 51=>31 | 53=>248 | 4=>4 | 183=>241 | 182=>240 | 131=>214 | 5=>5 | 9=>9 | 218=>310 | 222=>314 | 228=>374 | 229=>375 | n=>n,fun | n=>n⟩
theorem Tryz.lays189:Go.Proofs.Lays.n189 prog Tryz.lays189_ren:= {
 mixed:=by kernel_rfl
 f125:=func121.trans (congrArg some (by kernel_rfl))
 f128:=func193.trans (congrArg some (by kernel_rfl))
 f129:=func194.trans (congrArg some (by kernel_rfl))
 f189:=func63.trans (congrArg some (by kernel_rfl))
 f215:=func253.trans (congrArg some (by kernel_rfl))
 f216:=func190.trans (congrArg some (by kernel_rfl))
 f257:=func120.trans (congrArg some (by kernel_rfl))
 f294:=func184.trans (congrArg some (by kernel_rfl))
 f295:=func185.trans (congrArg some (by kernel_rfl))
 f296:=func186.trans (congrArg some (by kernel_rfl))
 f297:=func187.trans (congrArg some (by kernel_rfl))
 f298:=func188.trans (congrArg some (by kernel_rfl))
 f299:=func189.trans (congrArg some (by kernel_rfl))
 f300:=func191.trans (congrArg some (by kernel_rfl))
 f301:=func192.trans (congrArg some (by kernel_rfl))
 f328:=func248.trans (congrArg some (by kernel_rfl))
 f329:=func249.trans (congrArg some (by kernel_rfl))
 f330:=func250.trans (congrArg some (by kernel_rfl))
 f331:=func251.trans (congrArg some (by kernel_rfl))
 f332:=func252.trans (congrArg some (by kernel_rfl))
 f343:=func313.trans (congrArg some (by kernel_rfl))
 t0:=underlying0
 a0:=Tryz.isAgg0
 z0:=Tryz.sizeOf0
 v0:=Tryz.zeroValue0
 t3:=underlying3
 a3:=Tryz.isAgg3
 z3:=Tryz.sizeOf3
 v3:=Tryz.zeroValue3
 t4:=underlying4
 a4:=Tryz.isAgg4
 z4:=Tryz.sizeOf4
 v4:=Tryz.zeroValue4
 t5:=underlying5
 a5:=Tryz.isAgg5
 z5:=Tryz.sizeOf5
 v5:=Tryz.zeroValue5
 t9:=underlying9
 a9:=Tryz.isAgg9
 z9:=Tryz.sizeOf9
 v9:=Tryz.zeroValue9
 t28:=underlying22
 a28:=Tryz.isAgg22
 z28:=Tryz.sizeOf22
 v28:=Tryz.zeroValue22
 t46:=underlying181
 a46:=Tryz.isAgg181
 z46:=Tryz.sizeOf181
 v46:=Tryz.zeroValue181
 t51:=underlying31
 a51:=Tryz.isAgg31
 z51:=Tryz.sizeOf31
 v51:=Tryz.zeroValue31
 t53:=underlying248
 a53:=Tryz.isAgg248
 z53:=Tryz.sizeOf248
 v53:=Tryz.zeroValue248
 t131:=underlying214
 a131:=Tryz.isAgg214
 z131:=Tryz.sizeOf214
 v131:=Tryz.zeroValue214
 t182:=underlying240
 a182:=Tryz.isAgg240
 z182:=Tryz.sizeOf240
 v182:=Tryz.zeroValue240
 t183:=underlying241
 a183:=Tryz.isAgg241
 z183:=Tryz.sizeOf241
 v183:=Tryz.zeroValue241
 t218:=underlying310
 a218:=Tryz.isAgg310
 z218:=Tryz.sizeOf310
 v218:=Tryz.zeroValue310
 t222:=underlying314
 a222:=Tryz.isAgg314
 z222:=Tryz.sizeOf314
 v222:=Tryz.zeroValue314
 t228:=underlying374
 a228:=Tryz.isAgg374
 z228:=Tryz.sizeOf374
 v228:=Tryz.zeroValue374
 t229:=underlying375
 a229:=Tryz.isAgg375
 z229:=Tryz.sizeOf375
 v229:=Tryz.zeroValue375 }
open Go.Sort Go.RowKit in
theorem Tryz.slices_Sort_int(blk off cap:Nat)(zs:List Int)(w:World)(hH:Holds (Value.int .i64) w blk off zs.toArray)(hblk:blk<w.heap.size)(hsz:zs.length<4611686018427387904):
 Calls prog 63 #[.slice (some ⟨blk,off,none⟩) zs.length cap] w fun e w'=>
  e=.returned (.tuple #[])/\∃n os,w'=grow (putRow (Value.int .i64) (Sort.ahead w n) blk off (zs.mergeSort fun x y=>decide (x<=y)).toArray) os:=Any.slices_Sort_int Tryz.lays189 blk off cap zs w hH hblk hsz
end Go.Proofs
namespace Go.Proofs.YtgccllbnfngpcaaGreatDoor
open Go.RowKit _root_.Go.Proofs.Tryz List
open Value (int slice pointer bool)
open IntKind (i64)
open Ending (returned)
open Obj (cells)
theorem jR{a b:Nat}(h:a=b):Ending.returned (int i64 (a:Int))=returned (int i64 (b:Int)):=by rw[h]
theorem dY:(prog.info? 3).map (fun i=>(i.zero,i.size,i.bytes))=some (some (int i64 0),1,8):=by kernel_rfl
def bG(l:List Nat):List Value:=l.map fun x:Nat=>Value.int .i64 x
theorem BS(l:List Nat):∀u∈bG l,u.oneCell'=true:=by
 intro u hu;obtain⟨x,_,rfl⟩:=aW.1 hu;rfl
theorem tV(l:List Nat):(bG l).length=l.length:=aC _
theorem bL{l:List Nat}{i:Nat}(h:i<l.length):(bG l)[i]? =some (int i64 (l.getD i 0:Nat)):=by
 simp[bG,List.getElem?_map,ag h]
theorem I5(r:Nat)(h:r<=64)(w:World):Calls prog 121 #[.int .u64 r] w fun e w'=>e=returned (int i64 (Lib.bitLen r:Nat))/\w=w':=by
 refine(Tryz.bits_Len (r:Int) w (by omega) (by omega)).mono ?_;rintro e w' ⟨rfl,rfl⟩;exact⟨by rw[Int.toNat_natCast],rfl⟩
theorem I6(l:Nat)(h1:1<=l)(h2:l<=64)(w:World):
 Calls prog 363 #[int i64 l] w fun e w'=>e=returned (int i64 (dQ l:Nat))/\w=w':=by
 go_enter func363,ntmps363;go_wp2_with fail
 go_loop [3] (fun r=>∃k:Nat,k<=8/\r=int i64 k/\Hid (oF l k (9-k)=dQ l)) (fun r=>8-(intOf r).toNat)
 case atStart=>exact⟨0,by omega,rfl,ae rfl⟩
 case round=>
  obtain⟨k,hk,rfl,HK⟩:=hrel;have hkk:k*k<=8*8:=bn hk hk;have e1:(k:Int)*(k:Int)=((k*k:Nat):Int):=(by rw[Int.natCast_mul]);have HS:Hid (oF l k (9-k)=if k*k<l then oF l (k+1) (9-(k+1)) else k):=ae (by rw[show 9-k=(9-(k+1))+1 by omega,oF]);have h8:k=8->k*k=64:=(by rintro rfl;rfl);generalize k*k=q at*;by_cases hlt:q<l
  ·have hk7:k<8:=by omega
   clear h8;go_wp2_with fail
   go_round
   case rel=>exact⟨k+1,by omega,by go_num,ae (by rw[<-HK.out,HS.out,bf hlt])⟩
   case measure=>simp[intOf];omega
  ·clear h8
   go_wp2_with fail;go_ret;exact⟨jR (by rw[<-HK.out,HS.out,bg hlt]),rfl⟩
theorem BU(l k:Nat)(h1:1<=l)(h2:l<=64)(k1:1<=k)(k2:k<=l)(w:World):
 Calls prog 310 #[int i64 l,int i64 k] w fun e w'=>e=returned (int i64 (zA l k:Nat))/\w=w':=by
 have hr:=ET h1 h2;have cr:=fun w=>I6 l h1 h2 w;have HV:Hid (zA l k=if k<l/dQ l then He l k+1048576*dQ l/(l*k) else if k=l/dQ l then He l k+1048576*dQ l*Lib.bitLen (dQ l)/l else He l k):=ae rfl;have cl:=fun w=>I5 (dQ l) (by omega) w;generalize zA l k=out at*;generalize hb:Lib.bitLen (dQ l)=b at*;clear hb;generalize dQ l=r at*;have HB:Hid (He l k=if 1<k then 1048576/(k*(k-1)) else 1048576/l):=ae rfl;generalize He l k=base at*;have p1:k*(k-1)<=64*63:=bn (by omega) (by omega);have p2:l*k<=64*64:=bn h2 (by omega);have p2':1*1<=l*k:=bn h1 k1;have p3:1048576*r*b<=1048576*8*4:=bn (by omega) hr.2.2;have p1':1<k->2*1<=k*(k-1):=fun h=>bn h (by omega);have e1:(k:Int)*((k:Int)-1)=((k*(k-1):Nat):Int):=by rw[Int.natCast_mul,Int.ofNat_sub (by omega)];rfl
 have e2:(l:Int)*(k:Int)=((l*k:Nat):Int):=by rw[Int.natCast_mul]
 have e3:1048576*(r:Int)*(b:Int)=((1048576*r*b:Nat):Int):=by rw[Int.natCast_mul,Int.natCast_mul];rfl
 have q1:(1048576:Int)/(l:Int)=((1048576/l:Nat):Int):=by simp
 have q1b:1048576/l<=1048576:=Nat.div_le_self _ _;have q2:(l:Int)/(r:Int)=((l/r:Nat):Int):=by simp
 have q2b:l/r<=l:=Nat.div_le_self _ _;generalize l/r=m at*;generalize hd1:1048576/l=d1 at*;have HD1:=ae hd1;clear hd1;generalize k*(k-1)=P at*;generalize l*k=Q at*;have q3:(1048576:Int)/(P:Int)=((1048576/P:Nat):Int):=by simp
 have q3b:1048576/P<=1048576:=Nat.div_le_self _ _;generalize hd2:1048576/P=d2 at*;have HD2:=ae hd2;clear hd2;have q4:(1048576*(r:Int))/(Q:Int)=((1048576*r/Q:Nat):Int):=by simp
 have q4b:1048576*r/Q<=1048576*r:=Nat.div_le_self _ _;generalize 1048576*r/Q=d3 at*;generalize 1048576*r*b=V at*;have q5:(V:Int)/(l:Int)=((V/l:Nat):Int):=by simp
 have q5b:V/l<=V:=Nat.div_le_self _ _;generalize V/l=d4 at*;have CR:=ae cr;have CL:=ae cl;clear cr cl
 have hc:(k<m/\((k:Int) == (m:Int))=false)\/(k=m/\¬(k:Int)<(m:Int)/\((k:Int) == (m:Int))=true)\/(m<k/\¬(k:Int)<(m:Int)/\((k:Int) == (m:Int))=false):=by
  rcases Nat.lt_trichotomy k m with h | h | h
  ·exact .inl ⟨h,by rw[beq_eq_false_iff_ne];omega⟩
  ·exact .inr (.inl ⟨h,by omega,by rw[beq_iff_eq];omega⟩)
  ·exact .inr (.inr ⟨h,by omega,by rw[beq_eq_false_iff_ne];omega⟩)
 by_cases hk:1<k
 ·rw[bf hk] at HB
  have p1'':=p1' hk;clear p1';rcases hc with⟨hm,hm2⟩ | ⟨hm,hm1,hm2⟩ | ⟨hm,hm1,hm2⟩
  ·rw[bf hm] at HV
   go_enter func310,ntmps310;go_wp2_with fail;refine(CR.out _).mono ?_;rintro e w1 ⟨rfl,rfl⟩;go_wp2_with fail;go_ret;exact⟨jR (by first | (rw[HV.out,HB.out];done) | (rw[HV.out,HB.out,<-HD2.out];done) | (rw[HV.out,HB.out,<-HD1.out];done)),rfl⟩
  ·rw[bg (by omega),bf hm] at HV
   have HM:=ae hm;clear hm;go_enter func310,ntmps310;go_wp2_with fail;refine(CR.out _).mono ?_;rintro e w1 ⟨rfl,rfl⟩;go_wp2_with fail;refine(CL.out _).mono ?_;rintro e w1 ⟨rfl,rfl⟩;go_wp2_with fail;go_ret;exact⟨jR (by first | (rw[HV.out,HB.out];done) | (rw[HV.out,HB.out,<-HD2.out];done) | (rw[HV.out,HB.out,<-HD1.out];done)),rfl⟩
  ·rw[bg (by omega),bg (by omega)] at HV
   go_enter func310,ntmps310;go_wp2_with fail;refine(CR.out _).mono ?_;rintro e w1 ⟨rfl,rfl⟩;go_wp2_with fail;go_ret;exact⟨jR (by first | (rw[HV.out,HB.out];done) | (rw[HV.out,HB.out,<-HD2.out];done) | (rw[HV.out,HB.out,<-HD1.out];done)),rfl⟩
 ·rw[bg hk] at HB
  clear p1';rcases hc with⟨hm,hm2⟩ | ⟨hm,hm1,hm2⟩ | ⟨hm,hm1,hm2⟩
  ·rw[bf hm] at HV
   go_enter func310,ntmps310;go_wp2_with fail;refine(CR.out _).mono ?_;rintro e w1 ⟨rfl,rfl⟩;go_wp2_with fail;go_ret;exact⟨jR (by first | (rw[HV.out,HB.out];done) | (rw[HV.out,HB.out,<-HD2.out];done) | (rw[HV.out,HB.out,<-HD1.out];done)),rfl⟩
  ·rw[bg (by omega),bf hm] at HV
   have HM:=ae hm;clear hm;go_enter func310,ntmps310;go_wp2_with fail;refine(CR.out _).mono ?_;rintro e w1 ⟨rfl,rfl⟩;go_wp2_with fail;refine(CL.out _).mono ?_;rintro e w1 ⟨rfl,rfl⟩;go_wp2_with fail;go_ret;exact⟨jR (by first | (rw[HV.out,HB.out];done) | (rw[HV.out,HB.out,<-HD2.out];done) | (rw[HV.out,HB.out,<-HD1.out];done)),rfl⟩
  ·rw[bg (by omega),bg (by omega)] at HV
   go_enter func310,ntmps310;go_wp2_with fail;refine(CR.out _).mono ?_;rintro e w1 ⟨rfl,rfl⟩;go_wp2_with fail;go_ret;exact⟨jR (by first | (rw[HV.out,HB.out];done) | (rw[HV.out,HB.out,<-HD2.out];done) | (rw[HV.out,HB.out,<-HD1.out];done)),rfl⟩
def OwnI(w:World)(C:Nat)(v:Value)(l:List Nat):Prop:=w.ownsRow C 3 1 v l.length (bG l)
theorem OwnI.nil(w:World)(C:Nat):OwnI w C (slice none 0 0) []:=World.ownsRow_nil _ _ _ _
theorem OwnI.below{w w':World}{C:Nat}{v:Value}{l:List Nat}(h:OwnI w C v l)(hb:Below w.heap.size w w'):OwnI w' C v l:=fQ h hb
theorem OwnI.base{w:World}{C C':Nat}{v:Value}{l:List Nat}(h:OwnI w C v l)(hC:C'<=C):OwnI w C' v l:=li h hC
theorem OwnI.rd{w:World}{C:Nat}{v:Value}{l:List Nat}(h:OwnI w C v l):∃a c,v=slice a l.length c/\Rd w w.heap.size a l.length (bG l):=mY h
theorem OwnI.append{w':World}{C:Nat}{v':Value}{l:List Nat}{x:Nat}(h:w'.ownsRow C 3 1 v' (l.length+1) (bG l++[int i64 (x:Nat)])):OwnI w' C v' (l++[x]):=by
 unfold OwnI;rw[show bG (l++[x])=bG l++[int i64 (x:Nat)] by simp[bG],aH];exact h
theorem Hy(l:Int)(hl: -9223372036854775808<=l/\l<=9223372036854775807)(w:World):
 Calls prog 243 #[int i64 l] w fun e w'=>∃v,e=returned v/\OwnI w' w.heap.size v (fe l)/\Below w.heap.size w w':=by
 by_cases hin:1<=l/\l<=64
 ·obtain⟨n,rfl⟩:=Int.eq_ofNat_of_zero_le (a:=l) (by omega)
  have h1:1<=n:=(by omega);have h2:n<=64:=(by omega);rw[tz ⟨h1,h2⟩];clear hl hin;have HW:Hid (∀k,1<=k->k<=n->∀w,Calls prog 310 #[int i64 n,int i64 k] w fun e w'=>e=returned (int i64 (zA n k:Nat))/\w=w'):=ae fun k a b w=>BU n k h1 h2 a b w;obtain⟨i0,hi,hz0,hz1,hz2⟩:=info_parts dY;go_enter func243,ntmps243
  go_wp2_with (at_make;refine wpList_make_own _ rfl _ _ 22 rfl w.heap.size 3 i0 (int i64 0) 1 underlying22 hi hz0 hz1 _ _ _ n rfl rfl rfl ?m1 ?m2 ?m3 ?_)
  case m1=>rw[hz2];omega
  case m2=>unfold maxLen;omega
  case m3=>exact ah _
  intro w1 hown hg;have hb1:Below w.heap.size w w1:=(az _ _).grown hg (ah _) (by simp);have HO:Hid (OwnI w1 w.heap.size (slice (some ⟨w.heap.size,0,none⟩) 0 n) ((ic n).take 0)):=hown;have HB:=ae hb1;clear hown hg hb1 hi hz0 hz1 hz2;go_wp2_with fail;generalize hB0:w.heap.size=B0 at*;have HB0:=ae hB0;clear hB0;generalize (Value.slice (some ⟨B0,0,none⟩) 0 (n:Nat))=v0 at*;go_loopw [3,4,5] (fun v s i wr=>∃k:Nat,k<=n/\i=int i64 ((k:Int)+1)/\s=int i64 (gB n k:Nat)/\Hid (OwnI wr B0 v ((ic n).take k))/\Hid (Below B0 w wr)) (fun _ _ i _=>n+1-(intOf i).toNat)
  case atStart=>exact⟨0,by omega,rfl,rfl,HO,HB⟩
  case round=>
   clear HO HB;obtain⟨k,hk,rfl,rfl,HO,HB⟩:=hrel;by_cases hlt:k<n
   ·have hw:∀w,Calls prog 310 #[int i64 n,int i64 ((k:Int)+1)] w fun e w'=>e=returned (int i64 (zA n (k+1):Nat))/\w=w':=HW.out (k+1) (by omega) (by omega)
    have hs0:=sum_lt h2 (k:=k) (by omega);have hs1:=sum_lt h2 (k:=k+1) (by omega);have hss:(gB n k:Int)+(zA n (k+1):Int)=(gB n (k+1):Nat):=(by rw[<-Int.natCast_add];rfl);have htk:=xP hlt;have hlen:((ic n).take k).length=k:=(by rw[aG,eZ];omega);have CW:=ae hw;have HT:=ae htk;have HL:=ae hlen;clear hw htk hlen;generalize gB n k=s0 at*;generalize hs1e:gB n (k+1)=s1 at*;have HS1:=ae hs1e;clear hs1e;generalize zA n (k+1)=wt at*;go_wp2_with fail;refine(CW.out _).mono ?_;rintro e w2 ⟨rfl,rfl⟩;have ho:=HO.out;unfold OwnI at ho;rw[HL.out] at ho;have hsz:B0<=wr.heap.size:=by have:=HB.out.size;have:=HB0.out;omega
    go_wp2_with (at_builtin;refine kG _ rfl _ _ 22 rfl B0 3 (int i64 0) 8 underlying22 dY rfl _ k _ rfl (ho.alloc _) _ (int i64 (s1:Nat)) rfl ?p2 rfl ?p3 ?p4 ?p5 ?_)
    case p2=>go_simp
    case p3=>omega
    case p4=>unfold maxLen;omega
    case p5=>simp;omega
    intro v6 w6 hown6 hg6 _;have HO6:Hid (OwnI w6 B0 v6 ((ic n).take (k+1))):=ae (by rw[HT.out];exact OwnI.append (by rw[HL.out];exact hown6));have HB6:Hid (Below B0 w w6):=ae ((HB.out.alloc hsz _).grown hg6 (by simp;omega) (fun g hg=>(ho.lt g hg).1));clear ho hown6 hg6 HO HB;go_wp2_with fail;go_roundw
    case rel=>exact⟨k+1,by omega,by go_num,by rw[HS1.out],HO6,HB6⟩
    case measure=>simp[intOf];omega
   ·obtain rfl:k=n:=by omega
    have ht:(ic k).take k=ic k:=aJ (by rw[eZ];exact ah _);rw[ht] at HO;go_wp2_with fail;go_ret;exact⟨_,rfl,by rw[HB0.out];exact HO.out,by rw[HB0.out];exact HB.out⟩
 ·have hout:l<1\/64<l:=by omega
  rw[Be hout];clear hin;by_cases h1:l<1
  ·go_enter func243,ntmps243
   go_wp2_with fail;go_ret;exact⟨_,rfl,OwnI.nil _ _,az _ _⟩
  ·have h2:64<l:=by omega
   go_enter func243,ntmps243;go_wp2_with fail;go_ret;exact⟨_,rfl,OwnI.nil _ _,az _ _⟩
def Dp(w:World)(p:Option Addr)(s:Int):Prop:=p=none\/∃b o,p=some ⟨b,o,none⟩/\At w ⟨b,o,none⟩ (.int .u64 s)
def gh(w:World)(p:Option Addr)(s:Int):World:=match p with | none=>w | some a=>w.setCell a (.int .u64 s)
theorem xC(w:World)(p:Option Addr)(s t:Int)(h:p=none\/∃b o,p=some ⟨b,o,none⟩):gh (gh w p s) p t=gh w p t:=by
 rcases h with rfl | ⟨b,o,rfl⟩
 ·rfl
 ·exact Go.Proofs.setCell_setCell w b o _ _
theorem jM(w:World)(p:Option Addr)(s:Int):(gh w p s).heap.size=w.heap.size:=by
 unfold gh;split <;> simp[World.setCell]
theorem Dp.lt{w:World}{b o:Nat}{s:Int}(h:Dp w (some ⟨b,o,none⟩) s):b<w.heap.size:=by
 rcases h with h | ⟨b',o',h1,h2⟩
 ·cases h
 ·injection h1 with h1;injection h1 with h1 h3;subst h1;exact h2.lt
theorem Dp.put{w:World}{p:Option Addr}{s:Int}(h:Dp w p s)(t:Int):Dp (gh w p t) p t:=by
 rcases h with rfl | ⟨b,o,rfl,h2⟩
 ·exact .inl rfl
 ·exact .inr ⟨b,o,rfl,h2.put _⟩
theorem Dp.form{w:World}{p:Option Addr}{s:Int}(h:Dp w p s):p=none\/∃b o,p=some ⟨b,o,none⟩:=by
 rcases h with h | ⟨b,o,h,_⟩
 ·exact .inl h
 ·exact .inr ⟨b,o,h⟩
theorem Dp.below{w w':World}{p:Option Addr}{s:Int}{B:Nat}(h:Dp w p s)(hb:Below B w w')(hB:w.heap.size<=B):Dp w' p s:=by
 rcases h with h | ⟨b,o,rfl,h2⟩
 ·exact .inl h
 ·exact .inr ⟨b,o,rfl,h2.below hb (by have:=h2.lt;omega)⟩
theorem Dp.far{w:World}{p:Option Addr}{s:Int}(h:Dp w p s){g:Nat}(hp:∀b o,p=some ⟨b,o,none⟩->b<g)(i:Nat)(v:Value):Dp (w.setCell ⟨g,i,none⟩ v) p s:=by
 rcases h with h | ⟨b,o,rfl,h2⟩
 ·exact .inl h
 ·exact .inr ⟨b,o,rfl,h2.far (q:=⟨g,i,none⟩) (by have:=hp b o rfl;simp;omega) v⟩
theorem ve{B:Nat}{X Y:World}(h:Below B X Y)(hB:B<=X.heap.size)(p:Option Addr)(t:Int):Below B (gh X p t) (gh Y p t):=by
 unfold gh;split
 ·exact h
 ·rename_i a
  refine⟨h.os,h.tape,h.output,by simpa[World.setCell] using h.size,fun k hk=> ?_⟩;have:=h.block k hk;by_cases he:a.block=k
  ·subst he
   simp only[World.setCell,Array.getElem?_modify];rw[this]
  ·simp only[World.setCell,Array.getElem?_modify,bg he]
   exact this
theorem Blk.setD{w:World}{g:Nat}{t:TypeId}{cs:Array Value}(h:Blk w g t cs){p:Option Addr}(hp:∀b o,p=some ⟨b,o,none⟩->b<g)(hf:p=none\/∃b o,p=some ⟨b,o,none⟩)(x:Int):Blk (gh w p x) g t cs:=by
 rcases hf with rfl | ⟨b,o,rfl⟩
 ·exact h
 ·exact h.far (p:=⟨b,o,none⟩) (by have:=hp b o rfl;simp;omega) _
theorem AL(s n:Int)(p:Option Addr)(w:World)(h:Dp w p s)(hn: -9223372036854775808<=n/\n<=9223372036854775807):
 Calls prog 309 #[.pointer p,int i64 n] w fun e w'=>e=returned (int i64 (bN p.isNone s n:Nat))/\w'=gh w p (sN p.isNone s n):=by
 rcases h with rfl | ⟨b,o,rfl,h2⟩
 ·exact(uL n w).mono fun e w' ⟨h1,h3⟩=>⟨h1,h3.symm⟩
 ·refine(uK s n _ w h2.1 h2.2 hn).mono fun e w' ⟨h1,h3⟩=>⟨?_,h3.symm⟩
  rw[h1];have:(ju s n)=((ju s n).toNat:Int):=(by have:=(mZ s n).1;omega);show Ending.returned (int i64 (ju s n))=Ending.returned (int i64 ((ju s n).toNat:Int));rw[<-this]
theorem yV(s n:Int)(b o:Nat)(w:World)(h2:At w ⟨b,o,none⟩ (.int .u64 s))(hn: -9223372036854775808<=n/\n<=9223372036854775807):
 Calls prog 375 #[pointer (some ⟨b,o,none⟩),int i64 n] w fun e w'=>e=returned (int i64 (bN false s n:Nat))/\w'=gh w (some ⟨b,o,none⟩) (sN false s n):=by
 refine(rU s n _ w h2.1 h2.2 hn).mono fun e w' ⟨h1,h3⟩=>⟨?_,h3.symm⟩;rw[h1];have:(ju s n)=((ju s n).toNat:Int):=by have:=(mZ s n).1;omega
 show Ending.returned (int i64 (ju s n))=Ending.returned (int i64 ((ju s n).toNat:Int));rw[<-this]
def mG(l:List Nat):Array Value:=(bG l).toArray
theorem GJ(l:List Nat):(mG l).size=l.length:=by simp[mG,bG]
theorem qC{l:List Nat}{i:Nat}(h:i<l.length):(mG l)[i]? =some (int i64 (l.getD i 0:Nat)):=by
 simp only[mG,List.getElem?_toArray];exact bL h
theorem vg(l:List Nat)(i x:Nat):(mG l).setIfInBounds i (int i64 (x:Nat))=mG (l.set i x):=by
 apply Array.ext';rw[Array.toList_setIfInBounds];simp[mG,bG]
def EJ(n k:Nat):List Nat:=range k++replicate (n-k) 0
theorem EK{n k:Nat}(h:k<=n):(EJ n k).length=n:=by simp[EJ];omega
theorem Ka(n:Nat):EJ n n=range n:=by simp[EJ]
theorem MF{n k:Nat}(h:k<n):(EJ n k).set k k=EJ n (k+1):=by
 unfold EJ;rw[set_append_right _ _ (by simp),aY,Nat.sub_self,show n-k=(n-(k+1))+1 by omega,replicate_succ,set_cons_zero,range_succ,append_assoc];rfl
theorem Kb(n:Nat):madeCells #[Value.int .i64 0] n=mG (EJ n 0):=by
 apply Array.ext (by rw[size_madeCells,GJ,EK (bu _)]);intro i h1 h2;simp[madeCells,mG,bG,EJ,Nat.mod_one]
theorem GK(ad:Addr)(n c:Nat)(xs:List Value)(w:World)(hr:Rd w w.heap.size (some ad) n xs)(h1:∀u∈xs,u.oneCell'=true)(hn:n*8<=140737488355328):
 Calls prog 99 #[slice (some ad) n c] w fun e w'=>∃v,e=returned v/\w'.ownsRow w.heap.size 3 1 v n xs/\Below w.heap.size w w'/\v≠ slice none 0 0:=by
 have hq:=fun W=>Lib.run_eql_slice_nil (P:=prog) W 22 3 (some ad) n c 0 0 underlying22;have HR:=ae hr;have H1:=ae h1;clear hr h1;go_enter func99,ntmps99
 go_wp2_with (at_builtin;refine zY _ rfl _ _ 22 rfl w.heap.size 3 (int i64 0) 8 underlying22 dY rfl (slice (some ⟨w.heap.size,0,none⟩) 0 0) 0 [] rfl ?o1 w.heap.size ad n c xs rfl ?o2 H1.out ?o3 ?o4 ?o5 ?_)
 case o1=>exact World.ownsRow_made w #[] 0 (ah _) (by unfold maxLen;omega) (by simp)
 case o2=>exact HR.out.keep (fun p hp=>World.cell?_alloc_lt _ _ _ hp)
 case o3=>omega
 case o4=>unfold maxLen;omega
 case o5=>simp
 intro v w1 hown hg hv;have hb:Below w.heap.size w w1:=((az _ _).alloc (ah _) _).grown hg (by simp) (fun k hk=>by simp[Value.ownBlock] at hk;omega);have hown':w1.ownsRow w.heap.size 3 1 v n xs:=by simpa using hown
 have hne:Hid (v≠ slice none 0 0):=ae (by simpa using hv);clear hv;go_wp2_with fail;go_ret;exact⟨_,rfl,hown',hb,hne.out⟩
section
open Go.RowKit Go.Sort
theorem IE{n:Nat}(hn:n<=1000000)(w:World):(Instr.makeSlice 22 (int i64 (n:Int)) (int i64 (n:Int))).run prog w=.ok (slice (some ⟨w.heap.size,0,none⟩) n n) (w.alloc (cells (mG (EJ n 0)) 3)):=by
 obtain⟨i0,hi,hz0,hz1,hz2⟩:=info_parts dY;have h:=run_make (P:=prog) w 22 3 i0 (int i64 0) underlying22 hi hz0 .i64 .i64 (n:Int) (n:Int) (by omega) (by omega) (by rw[hz2];omega) (by omega);rw[hz1,Nat.mul_one,Int.toNat_natCast] at h;rw[<-Kb];exact h
theorem BB(p:Option Addr)(n k:Int)(w:World)(hno:¬(0<=n/\n<=64/\0<=k/\k<=n)):
 Calls prog 244 #[.pointer p,int i64 n,int i64 k] w fun e w'=>e=returned (slice none 0 0)/\w=w':=by
 go_enter func244,ntmps244;go_wp2_with fail
 all_goals first | omega | (go_ret;exact⟨rfl,rfl⟩) | skip
theorem Lp(p:Option Addr)(s:Int)(n k:Nat)(w:World)(hn:n<=64)(hk:k<=n)(hD:Dp w p s):
 Calls prog 244 #[.pointer p,int i64 n,int i64 k] w fun e w'=>∃v,e=returned v/\OwnI w' w.heap.size v (chosen p.isNone n s k)/\Below w.heap.size (gh w p (dR p.isNone n s k)) w':=by
 have hmk:=IE (n:=n) (by omega);have g1:¬(n:Int)>64:=by omega
 have g2:¬(k:Int)>(n:Int):=by omega
 have HD:=ae hD;clear hD;go_enter func244,ntmps244
 go_wp2_with (simp only[hmk])
 have hB1:=Blk.new w 3 (mG (EJ n 0));have hb1:=(az w.heap.size w).alloc (ah _) (cells (mG (EJ n 0)) 3);have HB:=ae hB1;have HBL:=ae hb1;clear hB1 hb1 hmk;generalize w.alloc (cells (mG (EJ n 0)) 3)=w1 at*;generalize hG:w.heap.size=G at*;have HG:=ae hG;clear hG;go_loopw [8,31] (fun _ i wr=>∃j:Nat,j<=n/\i=int i64 j/\Hid (Blk wr G 3 (mG (EJ n j)))/\Hid (Below G w wr)) (fun _ i _=>n-(intOf i).toNat)
 case atStart=>exact⟨0,by omega,rfl,HB,HBL⟩
 case round=>
  clear HB HBL;obtain⟨j,hj,rfl,HB,HBL⟩:=hrel;by_cases hlt:j<n
  ·have hset:=HB.out.set j (int i64 (j:Nat))
   rw[vg,MF hlt] at hset;have co:=(HB.out.cell j).trans (qC (by rw[EK (by omega)];exact hlt));have fo:=HB.out.frozen j;have HS:=ae hset;have HB2:=ae (HBL.out.setCell (p:=⟨G,j,none⟩) (ah _) (int i64 (j:Nat)));clear hset HB HBL;have hlt':(j:Int)<(n:Int):=(by omega);go_wp2_with fail;go_roundw
   case rel=>exact⟨j+1,by omega,by go_num,HS,HB2⟩
   case measure=>simp[intOf];omega
  ·obtain rfl:j=n:=by omega
   have HB1:Hid (Blk wr G 3 (mG (eF p.isNone j s 0))):=ae (by have h:=HB.out;rw[Ka] at h;exact h);have hD1:Dp wr p s:=HD.out.below HBL.out (by rw[HG.out];exact ah _)
   have hset0:Hid (Below G (gh w p s) wr):=ae (by
    rcases HD.out with h | ⟨b,o,h,h2⟩
    ·subst h;exact HBL.out
    ·subst h
     show Below G (w.setCell ⟨b,o,none⟩ (.int .u64 s)) wr;rw[fE w _ _ h2.1];exact HBL.out)
   have HD1:=ae hD1;have hform:=ae HD.out.form;have hplt:=ae (show ∀b o,p=some ⟨b,o,none⟩->b<G from fun b o h=>by rw[<-HG.out];subst h;exact HD.out.lt);generalize hnl:p.isNone=nl at*;have HNL:=ae hnl;clear HB HBL hD1 HD hnl g1 hlt;go_wp2_with fail;go_loopw [9,10,40] (fun _ _ i wr=>∃q:Nat,q<=k/\i=int i64 q/\Hid (Blk wr G 3 (mG (eF nl j s q)))/\Hid (Dp wr p (dR nl j s q))/\Hid (Below G (gh w p (dR nl j s q)) wr)) (fun _ _ i _=>k-(intOf i).toNat)
   case atStart=>exact⟨0,by omega,rfl,HB1,HD1,hset0⟩
   case round=>
    clear HB1 HD1 hset0;obtain⟨q,hq,rfl,HB,HD,HBL⟩:=hrel;by_cases hlt:q<k
    ·have hqn:q<j:=by omega
     have hjj:=D7 (nl:=nl) (s:=s) hqn;have cD:=AL (dR nl j s q) ((j:Int)-(q:Int)) p wr HD.out (by omega);rw[HNL.out] at cD;have hL1:Hid (eF nl j s (q+1)=lH (eF nl j s q) q (q+bN nl (dR nl j s q) ((j:Int)-(q:Int)))):=ae rfl;have hS1:Hid (dR nl j s (q+1)=sN nl (dR nl j s q) ((j:Int)-(q:Int))):=ae rfl;have hlen:=fK nl j s q;have hBb:=K8 (nl:=nl) (s:=dR nl j s q) (n:=(j:Int)-(q:Int)) (by omega);generalize bN nl (dR nl j s q) ((j:Int)-(q:Int))=bb at*;generalize hs1:sN nl (dR nl j s q) ((j:Int)-(q:Int))=s1 at*;generalize dR nl j s q=s0 at*;generalize eF nl j s q=L at*;have CD:=ae cD;have HLEN:=ae hlen;have HBb:=ae hBb;have HS1x:=ae hs1;clear cD hlen hBb hs1;have hlt':(q:Int)<(k:Int):=(by omega);go_wp2_with fail;refine CD.out.mono ?_;rintro e w2 ⟨rfl,rfl⟩;have hB2:=HB.out.setD hplt.out hform.out s1;have HD2:=ae (HD.out.put s1);have hbl2:=ve HBL.out (by rw[jM,HG.out];exact ah _) p s1;rw[xC _ _ _ _ hform.out] at hbl2;have HBL2:=ae hbl2;obtain⟨jj,hjje⟩:∃jj,jj=q+bb:=⟨_,rfl⟩;rw[<-hjje] at hjj;have hjI:(q:Int)+(bb:Int)=(jj:Int):=(by omega);have hbI:(bb:Int)<64:=(by have:=HBb.out;omega);rw[<-hjje] at hL1;have c1:=(hB2.cell q).trans (qC (by rw[HLEN.out];exact hqn));have c2:=(hB2.cell jj).trans (qC (by rw[HLEN.out];exact hjj));have f1:=hB2.frozen q;have f2:=hB2.frozen jj;have t1:=(hB2.set q (int i64 (L.getD jj 0:Nat))).set jj (int i64 (L.getD q 0:Nat));rw[vg,vg] at t1;have T1:Hid (Blk (((gh wr p s1).setCell ⟨G,q,none⟩ (int i64 (L.getD jj 0:Nat))).setCell ⟨G,jj,none⟩ (int i64 (L.getD q 0:Nat))) G 3 (mG (eF nl j s (q+1)))):=ae (by rw[hL1.out];exact t1);have t3:=(hB2.set q (int i64 (L.getD jj 0:Nat))).frozen jj;have HJJ:=ae hjje;clear hB2 hbl2 t1 HB HBL HD hjje CD HBb;generalize L.getD q 0=x at*;generalize L.getD jj 0=y at*;generalize gh wr p s1=w3 at*;have T2:=ae ((HBL2.out.setCell (p:=⟨G,q,none⟩) (ah _) (int i64 (y:Nat))).setCell (p:=⟨G,jj,none⟩) (ah _) (int i64 (x:Nat)));have hqI:(q:Int)<(j:Int):=(by omega);have hjjI:(jj:Int)<(j:Int):=(by omega);go_wp2_with fail;have HLT:=ae hlt;have T3:=ae ((HD2.out.far hplt.out q (int i64 (y:Nat))).far hplt.out jj (int i64 (x:Nat)));rw[hS1.out.symm] at T2 T3;clear hjI hbI hqn hjj hlt hlt' hq;by_cases hqj:q=jj
     ·subst hqj
      obtain rfl:x=y:=(by rw[c1] at c2;injection c2 with c2;injection c2 with _ c2;omega);go_region;go_wp2_with fail;refine⟨⟨q+1,by have:=HLT.out;omega,by go_num,ae T1.out.drew,ae T3.out,ae (Below.drew T2.out)⟩,?_⟩;have:=HLT.out;simp[intOf];omega
     ·go_region
      go_wp2_with fail;refine⟨⟨q+1,by have:=HLT.out;omega,by go_num,ae T1.out.drew,ae T3.out,ae (Below.drew T2.out)⟩,?_⟩;have:=HLT.out;simp[intOf];omega
    ·obtain rfl:q=k:=by omega
     have hlen:=fK nl j s q
     have hr:Rd wr wr.heap.size (some ⟨G,0,none⟩) q (bG ((eF nl j s q).take q)):=by
      refine⟨by simp[bG];omega,fun h0=>⟨G,0,rfl,HB.out.lt,fun i u hu=> ?_⟩⟩
      have hi:i<q:=by
       have:=(List.getElem?_eq_some_iff.1 hu).1;simp[bG] at this;omega
      rw[Nat.zero_add,HB.out.cell i,qC (by omega)];rw[bL (by rw[aG];omega)] at hu;rw[<-hu];simp only[af,List.getElem?_take,bf hi]
     have CC:=ae (GK ⟨G,0,none⟩ q j _ wr hr (BS _) (by omega));have HLS:Hid (((eF nl j s q).take q).length=q):=ae (by rw[aG];omega);have hch:Hid (chosen nl j s q=((eF nl j s q).take q).mergeSort leB):=ae rfl;generalize (eF nl j s q).take q=Z at*;clear hr hlen HB HD;have hqj:q<=j:=hk;go_wp2_with fail;refine CC.out.mono ?_;rintro e w5 ⟨v5,rfl,ho5,hb5,hne5⟩
     obtain⟨g,cap,cur,rfl,hg5,hblk5,hcap1,hcap2,hcsz,hct⟩:∃g cap cur,v5=slice (some ⟨g,0,none⟩) q cap/\wr.heap.size<=g/\w5.heap[g]? =some (.cells cur 3 (0,0))/\q<=cap/\cap<=maxLen/\cur.size=cap*1/\cur.toList.take (q*1)=bG Z:=by
      rcases ho5.2 with⟨h,_⟩ | h
      ·exact absurd h hne5
      ·exact h
     have hzl:(Z.map fun x:Nat=>(x:Int)).length=q:=(by rw[aC];exact HLS.out);have hZ:bG Z=(Z.map fun x:Nat=>(x:Int)).map (Value.int .i64):=(by simp[bG]);have hH:=holds_of_blockI (ss:=Z.map fun x:Nat=>(x:Int)) hblk5 (by rw[hzl,<-hZ,<-Nat.mul_one q];exact hct);have cS:=Tryz.slices_Sort_int g 0 cap (Z.map fun x:Nat=>(x:Int)) w5 hH (Array.getElem?_eq_some_iff.1 hblk5).1 (by rw[hzl];omega);rw[hzl] at cS
     have hms:(Z.map fun x:Nat=>(x:Int)).mergeSort (fun x y=>decide (x<=y))=(Z.mergeSort leB).map fun x:Nat=>(x:Int):=by
      refine(map_mergeSort ?_).symm;intro a _ b _;simp[leB]
     have hfin:=ae fun n os=>ownsRow_sortedI (n:=n) (os:=os) (ts:=(Z.mergeSort leB).map fun x:Nat=>(x:Int)) (ss:=Z.map fun x:Nat=>(x:Int)) (by rw[aC,(fA Z).length_eq,aC]) hg5 hblk5 (by rw[hzl];exact hcap1) hcap2 hcsz;rw[hzl] at hfin;rw[hms] at cS;have CS:=ae cS;have HB5:=ae (HBL.out.trans (hb5.mono (by have h:=HBL.out.size;rw[jM,HG.out] at h;exact h)));have HG5:=ae (show G<=g from aO (by have h:=HBL.out.size;rw[jM,HG.out] at h;exact h) hg5);have HW5:=ae (show G<=wr.heap.size from by have h:=HBL.out.size;rw[jM,HG.out] at h;exact h);clear hH cS hms hZ ho5 hb5 hne5 hblk5 hcap1 hcap2 hcsz hct hzl hg5 HBL CC;go_wp2_with fail;refine CS.out.mono ?_;rintro e w6 ⟨rfl,n6,os,rfl⟩;have HO:=ae (hfin.out n6 os);have HB6:=ae (HB5.out.grown (grownBy_sortedI (w:=w5) (g:=g) (n:=n6) (os:=os) ((Z.mergeSort leB).map fun x:Nat=>(x:Int)).toArray) (by have:=HW5.out;have h:=HB5.out.size;rw[jM,HG.out] at h;exact h) (fun g' hg'=>by cases hg';exact HG5.out));generalize grow _ os=w7 at*;clear hfin CS HB5;go_wp2_with fail;go_ret;refine⟨_,rfl,?_,by rw[HG.out,HNL.out];exact HB6.out⟩;rw[HNL.out,hch.out];have h:=HO.out;show World.ownsRow _ _ _ _ _ _ (bG _);rw[(fA Z).length_eq,HLS.out,HG.out,show bG (Z.mergeSort leB)=((Z.mergeSort leB).map fun x:Nat=>(x:Int)).map (Value.int .i64) by simp[bG]];exact li h HW5.out
end
section
open Go.RowKit Go.Sort
theorem Ef(l:List Nat)(k x:Nat):(bG l).set k (int i64 (x:Nat))=bG (l.set k x):=by simp[bG]
theorem OwnI.cellA{w:World}{C g n c:Nat}{l:List Nat}(h:OwnI w C (slice (some ⟨g,0,none⟩) n c) l)(hl:l.length=n){k:Nat}(hk:k<n):w.cell? ⟨g,k,none⟩=some (int i64 (l.getD k 0:Nat))/\w.frozen? ⟨g,k,none⟩=false:=by
 unfold OwnI at h;rw[hl] at h;exact⟨(h.cellAt k (by omega)).trans (bL (by omega)),h.frozenAt k⟩
theorem OwnI.storedA{w:World}{C g n c:Nat}{l:List Nat}(h:OwnI w C (slice (some ⟨g,0,none⟩) n c) l)(hl:l.length=n)(k x:Nat):
 OwnI (w.setCell ⟨g,k,none⟩ (int i64 (x:Nat))) C (slice (some ⟨g,0,none⟩) n c) (l.set k x):=by
 unfold OwnI at h ⊢;rw[hl] at h;rw[length_set,hl,<-Ef];exact(h.stored k _).1
theorem OwnI.formA{w:World}{C n c:Nat}{a:Option Addr}{l:List Nat}(h:OwnI w C (slice a n c) l)(hl:l.length=n)(h0:0<n):∃g,a=some ⟨g,0,none⟩/\C<=g/\g<w.heap.size:=by
 unfold OwnI at h;rw[hl] at h;obtain⟨g,cap,e,h1,h2⟩:=h.form h0;injection e with e;exact⟨g,e,h1,h2⟩
theorem OwnI.takeA{w:World}{C n c:Nat}{a:Option Addr}{l:List Nat}(h:OwnI w C (slice a n c) l)(hl:l.length=n){k:Nat}(hk:k<=n):OwnI w C (slice a k c) (l.take k):=by
 unfold OwnI at h ⊢;rw[hl] at h;have hkl:(l.take k).length=k:=by rw[aG];omega
 rw[hkl];refine⟨by simp[bG];omega,?_⟩;rcases h.2 with⟨h1,h0⟩ | ⟨g',cap,cur,h1,h2,h3,h4,h5,h6,h7⟩
 ·injection h1 with e1 e2 e3
  subst e1 e3;obtain rfl:k=0:=(by omega);exact .inl ⟨rfl,rfl⟩
 ·injection h1 with e1 e2 e3
  subst e1 e3;refine .inr ⟨g',c,cur,rfl,h2,h3,by omega,h5,h6,?_⟩;have:bG (l.take k)=(bG l).take k:=(by simp[bG]);rw[this,<-h7,take_take,Nat.mul_one,Nat.mul_one,Nat.min_eq_left hk]
theorem OwnI.lenA{w:World}{C:Nat}{v:Value}{l:List Nat}(h:OwnI w C v l):∃a c,v=slice a l.length c:=by
 obtain⟨a,c,rfl,_⟩:=OwnI.rd h;exact⟨a,c,rfl⟩
theorem OwnI.ltA{w:World}{C:Nat}{v:Value}{l:List Nat}(h:OwnI w C v l):∀g,v.ownBlock=some g->C<=g/\g<w.heap.size:=World.ownsRow.lt h
theorem BA(p:Option Addr)(n k:Int)(w:World)(hno:¬(0<=n/\n<=64/\0<=k/\k<=n)):
 Calls prog 332 #[.pointer p,int i64 n,int i64 k] w fun e w'=>e=returned (slice none 0 0)/\w=w':=by
 go_enter func332,ntmps332;go_upto_region 3 with fail
 all_goals first | omega | (go_ret;exact⟨rfl,rfl⟩) | skip
theorem Lm(b o:Nat)(s:Int)(n k:Nat)(w:World)(hn:n<=64)(hk:k<=n)(hD:At w ⟨b,o,none⟩ (.int .u64 s)):
 Calls prog 332 #[pointer (some ⟨b,o,none⟩),int i64 n,int i64 k] w fun e w'=>∃v,e=returned v/\OwnI w' w.heap.size v (chosen false n s k)/\Below w.heap.size (gh w (some ⟨b,o,none⟩) (dR false n s k)) w':=by
 have g1:¬(n:Int)>64:=by omega
 have g2:¬(k:Int)>(n:Int):=by omega
 have HD:=ae hD;have hbG:b<w.heap.size:=hD.lt;have HO:Hid (OwnI w w.heap.size (slice none 0 0) (range 0)):=ae (World.ownsRow_nil _ _ _ _);clear hD;go_enter func332,ntmps332;go_wp2_with fail;generalize hG:w.heap.size=G at*;have HG:=ae hG;clear hG;go_loopw [7,8] (fun l i wr=>∃j:Nat,j<=n/\i=int i64 j/\Hid (OwnI wr G l (range j))/\Hid (Below G w wr)) (fun _ i _=>n-(intOf i).toNat)
 case atStart=>exact⟨0,by omega,rfl,HO,ae (az _ _)⟩
 case round=>
  clear HO;obtain⟨j,hj,rfl,HO,HBL⟩:=hrel;have hGr:G<=wr.heap.size:=(by have:=HBL.out.size;have:=HG.out;omega);by_cases hlt:j<n
  ·have hlt':(j:Int)<(n:Int):=by omega
   have hown:(wr.alloc (cells #[int i64 (j:Nat)] 3)).ownsRow G 3 1 u7 j (bG (range j)):=by
    have:=World.ownsRow.alloc HO.out (cells #[int i64 (j:Nat)] 3);rw[aY] at this;exact this
   have HOW:=ae hown;have hcell:(wr.alloc (cells #[int i64 (j:Nat)] 3)).cell? ⟨wr.heap.size,0,none⟩=some (int i64 (j:Nat)):=dZ wr _ _ 0;have HC:=ae hcell;clear hown hcell
   go_wp2_with (at_builtin;refine kG _ rfl _ _ 22 rfl G 3 (int i64 0) 8 underlying22 dY rfl u7 j (bG (range j)) rfl HOW.out wr.heap.size (int i64 (j:Nat)) rfl HC.out rfl ?q1 ?q2 ?q3 ?_)
   case q1=>omega
   case q2=>unfold maxLen;omega
   case q3=>first | omega | (simp;omega)
   intro v' w2 hown2 hg2 _
   have hO2:OwnI w2 G v' (range (j+1)):=by
    have e:bG (range (j+1))=bG (range j)++[int i64 (j:Nat)]:=(by rw[range_succ];simp[bG]);unfold OwnI;rw[aY,e];exact hown2
   have HB2:=ae ((HBL.out.alloc hGr _).grown hg2 (by simp;omega) (fun g hg=>(HO.out.ltA g hg).1));have HO2:=ae hO2;clear hO2 hown2 hg2 HOW HC HBL HO;go_wp2_with fail;go_roundw
   case rel=>exact⟨j+1,by omega,by go_num,HO2,HB2⟩
   case measure=>simp[intOf];omega
  ·obtain rfl:j=n:=by omega
   have HO1:Hid (OwnI wr G u7 (eF false j s 0)):=ae HO.out;obtain⟨a,c,rfl⟩:=HO.out.lenA;rw[aY] at HO1 ⊢;have hD1:At wr ⟨b,o,none⟩ (.int .u64 s):=HD.out.below HBL.out hbG
   have hset0:Hid (Below G (gh w (some ⟨b,o,none⟩) s) wr):=ae (by
    show Below G (w.setCell ⟨b,o,none⟩ (.int .u64 s)) wr;rw[fE w _ _ HD.out.1];exact HBL.out)
   have HD1:Hid (At wr ⟨b,o,none⟩ (.int .u64 (dR false j s 0))):=ae hD1;have HS0:Hid (Below G (gh w (some ⟨b,o,none⟩) (dR false j s 0)) wr):=ae hset0.out;clear HO HBL hD1 HD g1 hlt hset0;go_wp2_with fail;go_loopw [9,10] (fun i _ wr=>∃q:Nat,q<=k/\i=int i64 q/\Hid (OwnI wr G (slice a j c) (eF false j s q))/\Hid (At wr ⟨b,o,none⟩ (.int .u64 (dR false j s q)))/\Hid (Below G (gh w (some ⟨b,o,none⟩) (dR false j s q)) wr)) (fun i _ _=>k-(intOf i).toNat)
   case atStart=>exact⟨0,by omega,rfl,HO1,HD1,HS0⟩
   case round=>
    clear HO1 HD1 HS0;obtain⟨q,hq,rfl,HO,HD,HBL⟩:=hrel;by_cases hlt:q<k
    ·have hqn:q<j:=by omega
     have hjj:=D7 (nl:=false) (s:=s) hqn;have cD:=yV (dR false j s q) ((j:Int)-(q:Int)) b o wr HD.out (by omega);have hL1:Hid (eF false j s (q+1)=lH (eF false j s q) q (q+bN false (dR false j s q) ((j:Int)-(q:Int)))):=ae rfl;have hS1:Hid (dR false j s (q+1)=sN false (dR false j s q) ((j:Int)-(q:Int))):=ae rfl;have hlen:=fK false j s q;have hBb:=K8 (nl:=false) (s:=dR false j s q) (n:=(j:Int)-(q:Int)) (by omega);generalize bN false (dR false j s q) ((j:Int)-(q:Int))=bb at*;generalize hs1:sN false (dR false j s q) ((j:Int)-(q:Int))=s1 at*;generalize dR false j s q=s0 at*;generalize eF false j s q=L at*;have CD:=ae cD;have HLEN:=ae hlen;have HBb:=ae hBb;clear cD hlen hBb hs1;have hlt':(q:Int)<(k:Int):=(by omega);obtain⟨g,rfl,hgG,hgs⟩:=HO.out.formA HLEN.out (by omega);have hbg:b<g:=(by omega);go_wp2_with fail;refine CD.out.mono ?_;rintro e w2 ⟨rfl,rfl⟩;have hO2:OwnI (gh wr (some ⟨b,o,none⟩) s1) G (slice (some ⟨g,0,none⟩) j c) L:=ownsRow_setCell_below HO.out (a:=⟨b,o,none⟩) hbG (.int .u64 s1);have hD2:At (gh wr (some ⟨b,o,none⟩) s1) ⟨b,o,none⟩ (.int .u64 s1):=HD.out.put _;have hbl2:=ve HBL.out (by rw[jM,HG.out];exact ah _) (some ⟨b,o,none⟩) s1;rw[xC _ _ _ _ (.inr ⟨b,o,rfl⟩)] at hbl2;have HBL2:=ae hbl2;obtain⟨jj,hjje⟩:∃jj,jj=q+bb:=⟨_,rfl⟩;rw[<-hjje] at hjj;have hjI:(q:Int)+(bb:Int)=(jj:Int):=(by omega);have hbI:(bb:Int)<64:=(by have:=HBb.out;omega);rw[<-hjje] at hL1;obtain⟨c1,f1⟩:=hO2.cellA HLEN.out hqn;obtain⟨c2,f2⟩:=hO2.cellA HLEN.out hjj;have t1:=(hO2.storedA HLEN.out q (L.getD jj 0)).storedA (by rw[length_set];exact HLEN.out) jj (L.getD q 0);have T1:Hid (OwnI (((gh wr (some ⟨b,o,none⟩) s1).setCell ⟨g,q,none⟩ (int i64 (L.getD jj 0:Nat))).setCell ⟨g,jj,none⟩ (int i64 (L.getD q 0:Nat))) G (slice (some ⟨g,0,none⟩) j c) (eF false j s (q+1))):=ae (by rw[hL1.out];exact t1);have HJJ:=ae hjje;have HD2:=ae hD2;clear hO2 hD2 hbl2 t1 HO HBL HD hjje CD HBb;generalize L.getD q 0=x at*;generalize L.getD jj 0=y at*;generalize gh wr (some ⟨b,o,none⟩) s1=w3 at*;have T2:=ae ((HBL2.out.setCell (p:=⟨g,q,none⟩) hgG (int i64 (y:Nat))).setCell (p:=⟨g,jj,none⟩) hgG (int i64 (x:Nat)));have T3:=ae ((HD2.out.far (q:=⟨g,q,none⟩) (by simp;omega) (int i64 (y:Nat))).far (q:=⟨g,jj,none⟩) (by simp;omega) (int i64 (x:Nat)));rw[hS1.out.symm] at T2 T3;have hqI:(q:Int)<(j:Int):=(by omega);have hjjI:(jj:Int)<(j:Int):=(by omega);go_wp2_with fail;have HLT:=ae hlt;clear hjI hbI hqn hjj hlt hlt' hq;by_cases hqj:q=jj
     ·subst hqj
      obtain rfl:x=y:=(by rw[c1] at c2;injection c2 with c2;injection c2 with _ c2;omega);go_region;go_wp2_with fail;refine⟨⟨q+1,by have:=HLT.out;omega,by go_num,ae T1.out,ae T3.out,ae (Below.drew T2.out)⟩,?_⟩;have:=HLT.out;simp[intOf];omega
     ·go_region
      go_wp2_with fail;refine⟨⟨q+1,by have:=HLT.out;omega,by go_num,ae T1.out,ae T3.out,ae (Below.drew T2.out)⟩,?_⟩;have:=HLT.out;simp[intOf];omega
    ·obtain rfl:q=k:=by omega
     have hO1:=OwnI.takeA HO.out (fK _ _ _ _) hk;have hch:Hid (chosen false j s q=((eF false j s q).take q).mergeSort leB):=ae rfl;have hZl:((eF false j s q).take q).length=q:=(by rw[aG,fK];omega);have HZL:=ae hZl;have hZb:∀x∈(eF false j s q).take q,x<64:=fun x hx=>(by have:=bA.1 ((pz (nl:=false) (s:=s) hk).mem_iff.1 (bD hx));omega);have HZB:=ae hZb;have HBL3:=ae HBL.out;generalize (eF false j s q).take q=Z at*;have HO3:=ae hO1
     have hqc:q<=c:=aO hk (by
      have h:=HO.out;unfold OwnI at h;rcases h.2 with⟨h1,h2⟩ | ⟨g',cap,cur,h1,_,_,h4,_⟩
      ·rw[fK] at h2;omega
      ·injection h1 with e1 e2 e3;rw[fK] at h4;omega)
     clear hO1 hZl hZb HO HD HBL;go_wp2_with fail;go_loopw [11,12,68] (fun _ _ i wr=>∃i':Nat,i'<=q/\i=int i64 i'/\Hid (∃P,OwnI wr G (slice a q c) P/\P.Perm Z/\Fe (P.take i'))/\Hid (Below G (gh w (some ⟨b,o,none⟩) (dR false j s q)) wr)) (fun _ _ i _=>q-(intOf i).toNat)
     case atStart=>exact⟨0,by omega,rfl,ae ⟨Z,HO3.out,List.Perm.refl _,by simp[Fe]⟩,HBL3⟩
     case round=>
      clear HO3 HBL3;obtain⟨i,hi,rfl,HP,HBL⟩:=hrel;by_cases hiq:i<q
      ·have hiqI:(i:Int)<(q:Int):=by omega
       have hP0:Hid (∃P,OwnI wr G (slice a q c) P/\Ins Z i i P):=ae (by
        obtain⟨P,h1,h2,h3⟩:=HP.out;exact⟨P,h1,Ins.start (by rw[h2.length_eq,HZL.out];exact hiq) h3 h2⟩)
       clear HP;go_wp2_with fail;go_loopw [12] (fun z wq=>∃r:Nat,r<=i/\z=int i64 r/\Hid (∃P,OwnI wq G (slice a q c) P/\Ins Z i r P)/\Hid (Below G (gh w (some ⟨b,o,none⟩) (dR false j s q)) wq)) (fun z _=>(intOf z).toNat)
       case atStart=>exact⟨i,ah _,rfl,hP0,HBL⟩
       case round=>
        clear hP0 HBL;obtain⟨r,hr,rfl,HP,HBL⟩:=hrel;obtain⟨P,hO,hI⟩:=HP.out;have hperm:P.Perm Z:=(by obtain⟨_,_,_,_,_,_,_,_,_,h⟩:=hI;exact h);have hPl:P.length=q:=by rw[hperm.length_eq];exact HZL.out
        have hPb:∀k,P.getD k 0<64:=fun k=>by
         rcases bq k P.length with h | h
         ·rw[getD_at h];exact HZB.out _ (hperm.mem_iff.1 (aP h))
         ·rw[af,List.getElem?_eq_none h];decide
        have HO:=ae hO;have HI:=ae hI;have HPL:=ae hPl;have HPP:=ae hperm;clear HP hO hI hperm;rcases Nat.eq_zero_or_pos r with h0 | h0
        ·subst h0
         have hstop:Hid (∃P,OwnI wr G (slice a q c) P/\P.Perm Z/\Fe (P.take (i+1))):=ae ⟨P,HO.out,(HI.out.stop (.inl rfl)).2,(HI.out.stop (.inl rfl)).1⟩;have hd:decide ((0:Int)<((0:Nat):Int))=false:=rfl;have hd2:decide ((((0:Nat):Int))>0)=false:=rfl;clear HO HI HPL HPP hPb;go_wp2_with fail
         go_quiet (fail)
         have HB2:Hid (Below G (gh w (some ⟨b,o,none⟩) (dR false j s q)) (wr.drewN nq)):=ae (below_drewN HBL.out nq);have HS2:Hid (∃P,OwnI (wr.drewN nq) G (slice a q c) P/\P.Perm Z/\Fe (P.take (i+1))):=ae hstop.out;clear hstop HBL;generalize wr.drewN nq=w5 at*;go_wp2_with fail;go_roundw
         case rel=>exact⟨i+1,by omega,by go_num,HS2,HB2⟩
         case measure=>simp[intOf];omega
        ·obtain⟨r1,hr1⟩:∃r1,r1=r-1:=⟨_,rfl⟩
         have hr1I:(r:Int)-1=(r1:Int):=(by omega);have hrr:r=r1+1:=(by omega);have hrp:(0:Int)<(r:Int):=(by omega);have hd:decide ((0:Int)<(r:Int))=true:=(by simpa using h0);have hrq:(r:Int)<(q:Int):=(by omega);have hr1q:(r1:Int)<(q:Int):=(by omega);obtain⟨g,rfl,hgG,hgs⟩:=HO.out.formA HPL.out (by omega);obtain⟨c1,f1⟩:=HO.out.cellA HPL.out (k:=r) (by omega);obtain⟨c2,f2⟩:=HO.out.cellA HPL.out (k:=r1) (by omega);have b1:=hPb r;have b2:=hPb r1;have t1:=(HO.out.storedA HPL.out r (P.getD r1 0)).storedA (by rw[length_set];exact HPL.out) r1 (P.getD r 0);have HT:Hid (OwnI ((wr.setCell ⟨g,r,none⟩ (int i64 (P.getD r1 0:Nat))).setCell ⟨g,r1,none⟩ (int i64 (P.getD r 0:Nat))) G (slice (some ⟨g,0,none⟩) q c) (lH P r r1)):=ae t1
         have HDN:Hid (P.getD r 0<P.getD r1 0->Ins Z i r1 (lH P r r1)):=ae fun h=>by
          have hI:=HI.out;rw[hrr] at hI h ⊢;exact hI.down h
         have HST:Hid (P.getD r1 0<=P.getD r 0->P.Perm Z/\Fe (P.take (i+1))):=ae fun h=>by
          have:=HI.out.stop (.inr (by rw[<-hr1];exact h));exact⟨this.2,this.1⟩
         have HOP:=ae HO.out;clear t1 HI HPL HPP hPb HO hr1;have hrne:r≠r1:=(by omega);have HRR:=ae hrr;clear hrr;generalize P.getD r 0=y at*;generalize P.getD r1 0=x at*;by_cases hyx:y<x
         ·have hyxI:(y:Int)<(x:Int):=by omega
          have hdI:decide ((y:Int)<(x:Int))=true:=(by simpa using hyx);have HIN:=ae (HDN.out hyx);have HW:=ae hrne;clear HDN HST hyx;go_wp2_with fail
          go_quiet (fail)
          have HT2:Hid (OwnI (((wr.drewN nq).setCell ⟨g,r,none⟩ (int i64 (x:Nat))).setCell ⟨g,r1,none⟩ (int i64 (y:Nat))) G (slice (some ⟨g,0,none⟩) q c) (lH P r r1)):=ae HT.out;have c1':(wr.drewN nq).cell? ⟨g,r,none⟩=some (int i64 (y:Nat)):=c1;have c2':(wr.drewN nq).cell? ⟨g,r1,none⟩=some (int i64 (x:Nat)):=c2;have f1':(wr.drewN nq).frozen? ⟨g,r,none⟩=false:=f1;have f2':(wr.drewN nq).frozen? ⟨g,r1,none⟩=false:=f2;have HB2:Hid (Below G (gh w (some ⟨b,o,none⟩) (dR false j s q)) (wr.drewN nq)):=ae (below_drewN HBL.out nq);clear HT c1 c2 f1 f2 HBL;generalize wr.drewN nq=w5 at*;have HB3:=ae ((HB2.out.setCell (p:=⟨g,r,none⟩) hgG (int i64 (x:Nat))).setCell (p:=⟨g,r1,none⟩) hgG (int i64 (y:Nat)));have hne1:¬((r:Int)=(r1:Int)):=(by omega);have hne2:¬(r1=r):=(by have:=HW.out;omega);go_wp2_with fail;go_region;have HT3:Hid (∃P,OwnI ((w5.setCell ⟨g,r,none⟩ (int i64 (x:Nat))).setCell ⟨g,r1,none⟩ (int i64 (y:Nat))).drew G (slice (some ⟨g,0,none⟩) q c) P/\Ins Z i r1 P):=ae ⟨_,HT2.out,HIN.out⟩;have HB4:Hid (Below G (gh w (some ⟨b,o,none⟩) (dR false j s q)) ((w5.setCell ⟨g,r,none⟩ (int i64 (x:Nat))).setCell ⟨g,r1,none⟩ (int i64 (y:Nat))).drew):=ae (HB3.out.drew);clear HT2 HB2 HB3 c1' c2' f1' f2';generalize ((w5.setCell ⟨g,r,none⟩ (int i64 (x:Nat))).setCell ⟨g,r1,none⟩ (int i64 (y:Nat))).drew=w6 at*;go_wp2_with fail;go_roundw
          case rel=>exact⟨r1,by omega,by go_num,HT3,HB4⟩
          case measure=>simp[intOf];omega
         ·have hyxI:¬(y:Int)<(x:Int):=by omega
          have hdI:decide ((y:Int)<(x:Int))=false:=(by simpa using hyx);have hstop:Hid (∃P,OwnI wr G (slice (some ⟨g,0,none⟩) q c) P/\P.Perm Z/\Fe (P.take (i+1))):=ae ⟨P,HOP.out,HST.out (by omega)⟩;clear HDN HST HOP HT hyx f1 f2;go_wp2_with fail
          go_quiet (fail)
          have HB2:Hid (Below G (gh w (some ⟨b,o,none⟩) (dR false j s q)) (wr.drewN nq)):=ae (below_drewN HBL.out nq);have HS2:Hid (∃P,OwnI (wr.drewN nq) G (slice (some ⟨g,0,none⟩) q c) P/\P.Perm Z/\Fe (P.take (i+1))):=ae hstop.out;clear hstop HBL c1 c2;generalize wr.drewN nq=w5 at*;go_wp2_with fail;go_roundw
          case rel=>exact⟨i+1,by omega,by go_num,HS2,HB2⟩
          case measure=>simp[intOf];omega
      ·obtain rfl:i=q:=by omega
       have hfin:Hid (OwnI wr G (slice a i c) (chosen false j s i)):=ae (by
        obtain⟨P,h1,h2,h3⟩:=HP.out;rw[aJ (by rw[h2.length_eq,HZL.out];exact ah _)] at h3;rw[hch.out,<-K9 h2 h3];exact h1)
       go_wp2_with fail;go_ret;exact⟨_,rfl,by rw[HG.out];exact hfin.out,by rw[HG.out];exact HBL.out⟩
end
section
open Go.RowKit Go.Sort
def Ly(n k:Int):Bool:=decide (0<=n/\n<=64/\0<=k/\k<=n)
def rz(s n k:Int):List Nat:=if Ly n k then chosen false n.toNat s k.toNat else []
def Gs(s n k:Int):Int:=if Ly n k then dR false n.toNat s k.toNat else s
theorem JS(s n k:Int):(rz s n k).length<=64:=by
 unfold rz Ly;split
 ·rename_i h
  simp only[decide_eq_true_eq] at h;rw[vZ (by omega)];omega
 ·simp
theorem xu{w:World}{b o:Nat}{s:Int}(h:At w ⟨b,o,none⟩ (.int .u64 s)):gh w (some ⟨b,o,none⟩) s=w:=fE w _ _ h.1
theorem Ml(b o:Nat)(s n k:Int)(w:World)(hD:At w ⟨b,o,none⟩ (.int .u64 s)):
 Calls prog 244 #[pointer (some ⟨b,o,none⟩),int i64 n,int i64 k] w fun e w'=>∃v,e=returned v/\OwnI w' w.heap.size v (rz s n k)/\Below w.heap.size (gh w (some ⟨b,o,none⟩) (Gs s n k)) w':=by
 by_cases h:0<=n/\n<=64/\0<=k/\k<=n
 ·obtain⟨N,rfl⟩:=Int.eq_ofNat_of_zero_le h.1
  obtain⟨K,rfl⟩:=Int.eq_ofNat_of_zero_le h.2.2.1;have e:Ly (N:Int) (K:Int)=true:=ba h;unfold rz Gs;rw[bf e,bf e];exact Lp (some ⟨b,o,none⟩) s N K w (by omega) (by omega) (.inr ⟨b,o,rfl,hD⟩)
 ·have e:¬Ly n k=true:=by simp only[Ly,decide_eq_true_eq];exact h
  unfold rz Gs;rw[bg e,bg e,xu hD];exact(BB _ n k w h).mono fun e w' ⟨h1,h2⟩=>⟨_,h1,h2▸OwnI.nil _ _,h2▸az _ _⟩
theorem Mm(b o:Nat)(s n k:Int)(w:World)(hD:At w ⟨b,o,none⟩ (.int .u64 s)):
 Calls prog 332 #[pointer (some ⟨b,o,none⟩),int i64 n,int i64 k] w fun e w'=>∃v,e=returned v/\OwnI w' w.heap.size v (rz s n k)/\Below w.heap.size (gh w (some ⟨b,o,none⟩) (Gs s n k)) w':=by
 by_cases h:0<=n/\n<=64/\0<=k/\k<=n
 ·obtain⟨N,rfl⟩:=Int.eq_ofNat_of_zero_le h.1
  obtain⟨K,rfl⟩:=Int.eq_ofNat_of_zero_le h.2.2.1;have e:Ly (N:Int) (K:Int)=true:=ba h;unfold rz Gs;rw[bf e,bf e];exact Lm b o s N K w (by omega) (by omega) hD
 ·have e:¬Ly n k=true:=by simp only[Ly,decide_eq_true_eq];exact h
  unfold rz Gs;rw[bg e,bg e,xu hD];exact(BA _ n k w h).mono fun e w' ⟨h1,h2⟩=>⟨_,h1,h2▸OwnI.nil _ _,h2▸az _ _⟩
structure Aft (W:World) (b o:Nat) (t:Int) (w':World):Prop where
 far:∀k,k≠b->k<W.heap.size->w'.heap[k]? =W.heap[k]?
 at_:At w' ⟨b,o,none⟩ (.int .u64 t)
 size:W.heap.size<=w'.heap.size
theorem Aft.below{W w w':World}{b o G:Nat}{s t:Int}(hD:At W ⟨b,o,none⟩ (.int .u64 s))(h:Below W.heap.size (gh W (some ⟨b,o,none⟩) t) w')(hB:Below G w W)(hb:G<=b):Below G w w':=
 (hB.setCell (p:=⟨b,o,none⟩) hb (.int .u64 t)).trans (h.mono (by have:=hD.lt;simp at this;omega))
end
