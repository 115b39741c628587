import Derived.Test.YtgccllbnfngpcaaGreatDoorW6
import Derived.Laws.ResultCell
import Derived.Laws.BitsAllLaws
set_option linter.unusedVariables false
set_option maxRecDepth 100000
set_option maxHeartbeats 400000000
namespace Go.Proofs.YtgccllbnfngpcaaGreatDoor
open Go.RowKit _root_.Go.Proofs.Tryz List
open Value (int slice pointer bool)
open IntKind (i64)
open Ending (returned)
open Obj (cells)
theorem FK(l:Int)(hl: -9223372036854775808<=l/\l<=9223372036854775807)(w:World):
 Calls prog 331 #[int i64 l] w fun e w'=>∃v,e=returned v/\OwnI w' w.heap.size v (fe l)/\Below w.heap.size w w':=by
 by_cases hin:1<=l/\l<=64
 ·obtain⟨n,rfl⟩:=Int.eq_ofNat_of_zero_le (a:=l) (by omega)
  have h1:1<=n:=(by omega);have h2:n<=64:=(by omega);rw[tz ⟨h1,h2⟩];clear hl hin;have hr:=ET h1 h2;have HB4:Hid (Lib.bitLen (dQ n)<=4):=ae hr.2.2;go_enter func331,ntmps331;go_wp2_with fail;go_loopw [4] (fun r wr=>∃k:Nat,k<=8/\r=int i64 k/\Hid (oF n k (9-k)=dQ n)/\w=wr) (fun r _=>8-(intOf r).toNat)
  case atStart=>exact⟨0,by omega,rfl,ae rfl,rfl⟩
  case round=>
   obtain⟨k,hk,rfl,HK,rfl⟩:=hrel;have hkk:k*k<=8*8:=bn hk hk;have e1:(k:Int)*(k:Int)=((k*k:Nat):Int):=(by rw[Int.natCast_mul]);have HS:Hid (oF n k (9-k)=if k*k<n then oF n (k+1) (9-(k+1)) else k):=ae (by rw[show 9-k=(9-(k+1))+1 by omega,oF]);have h8:k=8->k*k=64:=(by rintro rfl;rfl);generalize k*k=q at*;by_cases hlt:q<n
   ·have hk7:k<8:=by omega
    clear h8;go_wp2_with fail;go_roundw
    case rel=>exact⟨k+1,by omega,by go_num,ae (by rw[<-HK.out,HS.out,bf hlt]),by first | rfl | trivial⟩
    case measure=>simp[intOf];omega
   ·have hkr:k=dQ n:=by rw[<-HK.out,HS.out,bg hlt]
    clear h8 HK HS;have HKR:=ae hkr;have hk1:1<=k:=(by omega);have q2:(n:Int)/(k:Int)=((n/k:Nat):Int):=(by simp);have q2b:n/k<=n:=Nat.div_le_self _ _;clear hkr hr;generalize hm:n/k=m at*;have HM:=ae hm;clear hm;go_wp2_with fail;go_loopw [6,7] (fun b x wr=>∃(f c y:Nat),b=int i64 c/\x=int i64 y/\y<=8/\c<=64/\Hid (y<2 ^ f)/\Hid (c+Lib.bitLenAux f y=Lib.bitLen k)/\Hid (f+c=64)/\w=wr) (fun _ x _=>(intOf x).toNat)
    case atStart=>exact⟨64,0,k,rfl,rfl,by omega,by omega,ae (by omega),ae (by rw[Nat.zero_add];rfl),ae rfl,rfl⟩
    case round=>
     obtain⟨f,c,y,rfl,rfl,hy,hc,HF,HC,HFC,rfl⟩:=hrel;by_cases hy0:0<y
     ·obtain⟨f',rfl⟩:∃f',f=f'+1:=by
       cases f with
       | zero=>have:=HF.out;omega
       | succ f'=>exact⟨f',rfl⟩
      have HF2:Hid (y/2<2 ^ f'):=ae (by have:=HF.out;rw[Nat.pow_succ] at this;omega);have HC2:Hid (c+1+Lib.bitLenAux f' (y/2)=Lib.bitLen k):=ae (by rw[<-HC.out,Lib.bitLenAux,bg (by omega)];omega);have HFC2:Hid (f'+(c+1)=64):=ae (by have:=HFC.out;omega);have hc63:c<=63:=(by have:=HFC.out;omega);have q3:(y:Int)/2=((y/2:Nat):Int):=(by simp);have q3b:y/2<y:=(by omega);clear HF HC HFC;generalize y/2=z at*;go_wp2_with fail;go_roundw
      case rel=>exact⟨f',c+1,z,by go_num,rfl,by omega,by omega,HF2,HC2,HFC2,by first | rfl | trivial⟩
      case measure=>simp[intOf];omega
     ·obtain rfl:y=0:=by omega
      have hb0:∀f,Lib.bitLenAux f 0=0:=by intro f;cases f <;> rfl
      have hcb:c=Lib.bitLen (dQ n):=by
       have:=HC.out;rw[hb0,Nat.add_zero,HKR.out] at this;exact this
      have hc4:c<=4:=(by have:=HB4.out;omega);have HCB:=ae hcb;clear HF HC HFC hcb hb0 hy hc;have HMR:Hid (n/dQ n=m):=ae (by rw[<-HKR.out];exact HM.out);clear HM;go_wp2_with fail;generalize hB0:w.heap.size=B0 at*;have HB0:=ae hB0;clear hB0;go_loopw [8,9,10] (fun v s i wr=>∃j K:Nat,Hid (K=j+1)/\1<=K/\K<=n+1/\i=int i64 K/\s=int i64 (gB n j:Nat)/\Hid (OwnI wr B0 v ((ic n).take j))/\Hid (Below B0 w wr)) (fun _ _ i _=>n+1-(intOf i).toNat)
      case atStart=>exact⟨0,1,ae rfl,by omega,by omega,rfl,rfl,ae (OwnI.nil _ _),ae (az _ _)⟩
      case round=>
       obtain⟨j,K,HJ,hK1,hK2,rfl,rfl,HO,HB⟩:=hrel;by_cases hlt:K<=n
       ·have hlt':(K:Int)<=(n:Int):=by omega
        have hs0:=sum_lt h2 (k:=j) (by have:=HJ.out;omega);have hs1:=sum_lt h2 (k:=j+1) (by have:=HJ.out;omega);have hss:(gB n j:Int)+(zA n K:Int)=(gB n (j+1):Nat):=(by rw[<-Int.natCast_add,HJ.out];rfl);have htk:=xP (k:=j) (l:=n) (by have:=HJ.out;omega);have hlen:((ic n).take j).length=j:=(by rw[aG,eZ];have:=HJ.out;omega);have hjn:j<n:=(by have:=HJ.out;omega);have HT:=ae htk;have HL:=ae hlen;clear htk hlen;have hV:zA n K=if K<n/dQ n then He n K+1048576*dQ n/(n*K) else if K=n/dQ n then He n K+1048576*dQ n*Lib.bitLen (dQ n)/n else He n K:=rfl;have hBB:He n K=if 1<K then 1048576/(K*(K-1)) else 1048576/n:=rfl;rw[HMR.out,<-HCB.out,<-HKR.out] at hV;generalize zA n K=wt at*;generalize He n K=base at*;generalize gB n j=s0 at*;generalize hs1e:gB n (j+1)=s1 at*;have HS1:=ae hs1e;clear hs1e;have p1:K*(K-1)<=64*63:=bn (by omega) (by omega);have p1':1<K->2*1<=K*(K-1):=fun h=>bn h (by omega);have p2:n*K<=64*64:=bn h2 (by omega);have p2':1*1<=n*K:=bn h1 (by omega);have p3:1048576*k*c<=1048576*8*4:=bn (by omega) hc4;have e1:(K:Int)*((K:Int)-1)=((K*(K-1):Nat):Int):=(by rw[Int.natCast_mul,Int.ofNat_sub (by omega)];rfl);have e2:(n:Int)*(K:Int)=((n*K:Nat):Int):=(by rw[Int.natCast_mul]);have e3:1048576*(k:Int)*(c:Int)=((1048576*k*c:Nat):Int):=(by rw[Int.natCast_mul,Int.natCast_mul];rfl);have q1:(1048576:Int)/(n:Int)=((1048576/n:Nat):Int):=(by simp);have q1b:1048576/n<=1048576:=Nat.div_le_self _ _;generalize hd1:1048576/n=d1 at*;generalize K*(K-1)=P at*;generalize n*K=Q at*;have q3:(1048576:Int)/(P:Int)=((1048576/P:Nat):Int):=(by simp);have q3b:1048576/P<=1048576:=Nat.div_le_self _ _;generalize hd2:1048576/P=d2 at*;have q4:(1048576*(k:Int))/(Q:Int)=((1048576*k/Q:Nat):Int):=(by simp);have q4b:1048576*k/Q<=1048576*k:=Nat.div_le_self _ _;generalize hd3:1048576*k/Q=d3 at*;generalize 1048576*k*c=V at*;have q5:(V:Int)/(n:Int)=((V/n:Nat):Int):=(by simp);have q5b:V/n<=V:=Nat.div_le_self _ _;generalize hd4:V/n=d4 at*;have hsz:B0<=wr.heap.size:=(by have:=HB.out.size;have:=HB0.out;omega);have ho:=HO.out;unfold OwnI at ho;rw[HL.out] at ho;by_cases hj1:1<K
        ·rw[bf hj1] at hBB
         have p1'':=p1' hj1;clear p1';rcases Nat.lt_trichotomy K m with hm | hm | hm
         ·rw[bf hm] at hV
          have hsum:(s0:Int)+((d2:Int)+(d3:Int))=(s1:Int):=(by omega);have hm1:(K:Int)<(m:Int):=(by omega);have hm2:((K:Int) == (m:Int))=false:=(by rw[beq_eq_false_iff_ne];omega);clear hss hV hBB hd1 hd2 hd3 hd4
          go_wp2_with (at_builtin;refine kG _ rfl _ _ 22 rfl B0 3 (int i64 0) 8 underlying22 dY rfl _ j _ rfl (ho.alloc _) _ (int i64 (s1:Nat)) rfl ?z2 rfl ?z3 ?z4 ?z5 ?_)
          (try(case z2=>first | done | go_simp))
          case z3=>omega
          case z4=>unfold maxLen;omega
          case z5=>first | omega | (simp;omega)
          intro v6 w6 hown6 hg6 _;have HO6:Hid (OwnI w6 B0 v6 ((ic n).take (j+1))):=ae (by rw[HT.out];exact OwnI.append (by rw[HL.out];exact hown6));have HB6:Hid (Below B0 w w6):=ae ((HB.out.alloc hsz _).grown hg6 (by first | omega | (simp;omega)) (fun g hg=>(ho.lt g hg).1));clear hown6 hg6;go_wp2_with fail;go_roundw
          case rel=>(repeat apply Exists.intro);exact⟨⟨j+1,K+1,ae (by rw[HJ.out]),by omega,by omega,by go_num,by rw[HS1.out],HO6,HB6⟩,rfl⟩
          case measure=>simp[intOf];omega
         ·rw[bg (by omega),bf hm] at hV
          have hsum:(s0:Int)+((d2:Int)+(d4:Int))=(s1:Int):=(by omega);have hm1:¬(K:Int)<(m:Int):=(by omega);have hm2:((K:Int) == (m:Int))=true:=(by rw[beq_iff_eq];omega);have HM:=ae hm;clear hss hV hBB hd1 hd2 hd3 hd4 hm
          go_wp2_with (at_builtin;refine kG _ rfl _ _ 22 rfl B0 3 (int i64 0) 8 underlying22 dY rfl _ j _ rfl (ho.alloc _) _ (int i64 (s1:Nat)) rfl ?z2 rfl ?z3 ?z4 ?z5 ?_)
          (try(case z2=>first | done | go_simp))
          case z3=>omega
          case z4=>unfold maxLen;omega
          case z5=>first | omega | (simp;omega)
          intro v6 w6 hown6 hg6 _;have HO6:Hid (OwnI w6 B0 v6 ((ic n).take (j+1))):=ae (by rw[HT.out];exact OwnI.append (by rw[HL.out];exact hown6));have HB6:Hid (Below B0 w w6):=ae ((HB.out.alloc hsz _).grown hg6 (by first | omega | (simp;omega)) (fun g hg=>(ho.lt g hg).1));clear hown6 hg6;go_wp2_with fail;go_roundw
          case rel=>(repeat apply Exists.intro);exact⟨⟨j+1,K+1,ae (by rw[HJ.out]),by omega,by omega,by go_num,by rw[HS1.out],HO6,HB6⟩,rfl⟩
          case measure=>simp[intOf];omega
         ·rw[bg (by omega),bg (by omega)] at hV
          have hsum:(s0:Int)+(d2:Int)=(s1:Int):=(by omega);have hm1:¬(K:Int)<(m:Int):=(by omega);have hm2:((K:Int) == (m:Int))=false:=(by rw[beq_eq_false_iff_ne];omega);clear hss hV hBB hd1 hd2 hd3 hd4
          go_wp2_with (at_builtin;refine kG _ rfl _ _ 22 rfl B0 3 (int i64 0) 8 underlying22 dY rfl _ j _ rfl (ho.alloc _) _ (int i64 (s1:Nat)) rfl ?z2 rfl ?z3 ?z4 ?z5 ?_)
          (try(case z2=>first | done | go_simp))
          case z3=>omega
          case z4=>unfold maxLen;omega
          case z5=>first | omega | (simp;omega)
          intro v6 w6 hown6 hg6 _;have HO6:Hid (OwnI w6 B0 v6 ((ic n).take (j+1))):=ae (by rw[HT.out];exact OwnI.append (by rw[HL.out];exact hown6));have HB6:Hid (Below B0 w w6):=ae ((HB.out.alloc hsz _).grown hg6 (by first | omega | (simp;omega)) (fun g hg=>(ho.lt g hg).1));clear hown6 hg6;go_wp2_with fail;go_roundw
          case rel=>(repeat apply Exists.intro);exact⟨⟨j+1,K+1,ae (by rw[HJ.out]),by omega,by omega,by go_num,by rw[HS1.out],HO6,HB6⟩,rfl⟩
          case measure=>simp[intOf];omega
        ·rw[bg hj1] at hBB
         clear p1';rcases Nat.lt_trichotomy K m with hm | hm | hm
         ·rw[bf hm] at hV
          have hsum:(s0:Int)+((d1:Int)+(d3:Int))=(s1:Int):=(by omega);have hm1:(K:Int)<(m:Int):=(by omega);have hm2:((K:Int) == (m:Int))=false:=(by rw[beq_eq_false_iff_ne];omega);clear hss hV hBB hd1 hd2 hd3 hd4
          go_wp2_with (at_builtin;refine kG _ rfl _ _ 22 rfl B0 3 (int i64 0) 8 underlying22 dY rfl _ j _ rfl (ho.alloc _) _ (int i64 (s1:Nat)) rfl ?z2 rfl ?z3 ?z4 ?z5 ?_)
          (try(case z2=>first | done | go_simp))
          case z3=>omega
          case z4=>unfold maxLen;omega
          case z5=>first | omega | (simp;omega)
          intro v6 w6 hown6 hg6 _;have HO6:Hid (OwnI w6 B0 v6 ((ic n).take (j+1))):=ae (by rw[HT.out];exact OwnI.append (by rw[HL.out];exact hown6));have HB6:Hid (Below B0 w w6):=ae ((HB.out.alloc hsz _).grown hg6 (by first | omega | (simp;omega)) (fun g hg=>(ho.lt g hg).1));clear hown6 hg6;go_wp2_with fail;go_roundw
          case rel=>(repeat apply Exists.intro);exact⟨⟨j+1,K+1,ae (by rw[HJ.out]),by omega,by omega,by go_num,by rw[HS1.out],HO6,HB6⟩,rfl⟩
          case measure=>simp[intOf];omega
         ·rw[bg (by omega),bf hm] at hV
          have hsum:(s0:Int)+((d1:Int)+(d4:Int))=(s1:Int):=(by omega);have hm1:¬(K:Int)<(m:Int):=(by omega);have hm2:((K:Int) == (m:Int))=true:=(by rw[beq_iff_eq];omega);have HM:=ae hm;clear hss hV hBB hd1 hd2 hd3 hd4 hm
          go_wp2_with (at_builtin;refine kG _ rfl _ _ 22 rfl B0 3 (int i64 0) 8 underlying22 dY rfl _ j _ rfl (ho.alloc _) _ (int i64 (s1:Nat)) rfl ?z2 rfl ?z3 ?z4 ?z5 ?_)
          (try(case z2=>first | done | go_simp))
          case z3=>omega
          case z4=>unfold maxLen;omega
          case z5=>first | omega | (simp;omega)
          intro v6 w6 hown6 hg6 _;have HO6:Hid (OwnI w6 B0 v6 ((ic n).take (j+1))):=ae (by rw[HT.out];exact OwnI.append (by rw[HL.out];exact hown6));have HB6:Hid (Below B0 w w6):=ae ((HB.out.alloc hsz _).grown hg6 (by first | omega | (simp;omega)) (fun g hg=>(ho.lt g hg).1));clear hown6 hg6;go_wp2_with fail;go_roundw
          case rel=>(repeat apply Exists.intro);exact⟨⟨j+1,K+1,ae (by rw[HJ.out]),by omega,by omega,by go_num,by rw[HS1.out],HO6,HB6⟩,rfl⟩
          case measure=>simp[intOf];omega
         ·rw[bg (by omega),bg (by omega)] at hV
          have hsum:(s0:Int)+(d1:Int)=(s1:Int):=(by omega);have hm1:¬(K:Int)<(m:Int):=(by omega);have hm2:((K:Int) == (m:Int))=false:=(by rw[beq_eq_false_iff_ne];omega);clear hss hV hBB hd1 hd2 hd3 hd4
          go_wp2_with (at_builtin;refine kG _ rfl _ _ 22 rfl B0 3 (int i64 0) 8 underlying22 dY rfl _ j _ rfl (ho.alloc _) _ (int i64 (s1:Nat)) rfl ?z2 rfl ?z3 ?z4 ?z5 ?_)
          (try(case z2=>first | done | go_simp))
          case z3=>omega
          case z4=>unfold maxLen;omega
          case z5=>first | omega | (simp;omega)
          intro v6 w6 hown6 hg6 _;have HO6:Hid (OwnI w6 B0 v6 ((ic n).take (j+1))):=ae (by rw[HT.out];exact OwnI.append (by rw[HL.out];exact hown6));have HB6:Hid (Below B0 w w6):=ae ((HB.out.alloc hsz _).grown hg6 (by first | omega | (simp;omega)) (fun g hg=>(ho.lt g hg).1));clear hown6 hg6;go_wp2_with fail;go_roundw
          case rel=>(repeat apply Exists.intro);exact⟨⟨j+1,K+1,ae (by rw[HJ.out]),by omega,by omega,by go_num,by rw[HS1.out],HO6,HB6⟩,rfl⟩
          case measure=>simp[intOf];omega
       ·have hjn:j=n:=by have:=HJ.out;omega
        subst hjn;have ht:(ic j).take j=ic j:=aJ (by rw[eZ];exact ah _);rw[ht] at HO;go_wp2_with fail;go_ret;exact⟨_,rfl,by rw[HB0.out];exact HO.out,by rw[HB0.out];exact HB.out⟩
 ·have hout:l<1\/64<l:=by omega
  rw[Be hout];clear hin;by_cases h1:l<1
  ·go_enter func331,ntmps331
   go_wp2_with fail;go_ret;exact⟨_,rfl,OwnI.nil _ _,az _ _⟩
  ·have h2:64<l:=by omega
   go_enter func331,ntmps331;go_wp2_with fail;go_ret;exact⟨_,rfl,OwnI.nil _ _,az _ _⟩
theorem AU{xs:List Nat}{x:Int}{n k:Nat}(h:k<n):BC xs x k (n-k)=if x<(xs.getD k 0:Int) then k+1 else BC xs x (k+1) (n-(k+1)):=by
 rw[show n-k=(n-(k+1))+1 by omega,BC]
theorem Dm(xs:List Nat)(B:Nat)(a:Option Addr)(n c:Nat)(x:Int)(w:World)(hr:Rd w B a n (bG xs))(hxn:xs.length=n)(hn:n<=4096)(hb:∀i,xs.getD i 0<4611686018427387904)(hx: -9223372036854775808<=x/\x<=9223372036854775807):
 Calls prog 308 #[slice a n c,int i64 x] w fun e w'=>e=returned (int i64 (nZ xs x:Nat))/\w=w':=by
 have HV:Hid (nZ xs x=if xs=[]\/x<0\/(xs.getD (n-1) 0:Int)<=x then 0 else BC xs x 0 n):=ae (by unfold nZ;rw[hxn]);generalize nZ xs x=out at*;by_cases h0:n=0
 ·subst h0
  have hxe:xs=[]:=eq_nil_of_length_eq_zero hxn;have hv:=HV.out;rw[bf (.inl hxe)] at hv;have HV2:=ae hv;clear hv hr hb hxn hxe HV;go_enter func308,ntmps308;go_wp2_with fail;go_ret;exact⟨by rw[HV2.out];rfl,rfl⟩
 ·obtain⟨b,o,rfl,hbB,hc⟩:=hr.2 (by omega)
  have hne:¬xs=[]:=(by rintro rfl;simp at hxn;omega);have hcI:∀i,i<n->w.cell? ⟨b,o+i,none⟩=some (int i64 (xs.getD i 0:Nat)):=fun i hi=>hc i _ (bL (by omega));have HC:=ae hcI;have HB:=ae hb;have h00:((n:Int) == 0)=false:=(by rw[beq_eq_false_iff_ne];omega);have ht:((n:Int)-1).toNat=n-1:=(by omega);have hn1:0<=(n:Int)-1:=(by omega);have cl:=hcI (n-1) (by omega);have hl:=hb (n-1);clear hr hc hb hcI;by_cases hx0:x<0
  ·have hv:=HV.out
   rw[bf (.inr (.inl hx0))] at hv;have HV2:=ae hv;clear hv HV;go_enter func308,ntmps308;go_wp2_with fail;go_ret;exact⟨by rw[HV2.out];rfl,rfl⟩
  ·by_cases hlx:(xs.getD (n-1) 0:Int)<=x
   ·have hv:=HV.out
    rw[bf (.inr (.inr hlx))] at hv;have HV2:=ae hv;clear hv HV;generalize xs.getD (n-1) 0=last at*;go_enter func308,ntmps308;go_wp2_with fail;go_ret;exact⟨by rw[HV2.out];rfl,rfl⟩
   ·have hv:=HV.out
    rw[bg (by rintro(h | h | h);exact hne h;exact hx0 h;exact hlx h)] at hv;have HV2:=ae hv;clear hv HV hne;generalize xs.getD (n-1) 0=last at*;go_enter func308,ntmps308;go_wp2_with fail;clear cl hl hlx;go_loopw [5,6,26] (fun _ _ i wr=>∃k:Nat,k<=n/\i=int i64 k/\Hid (BC xs x k (n-k)=BC xs x 0 n)/\w=wr) (fun _ _ i _=>n-(intOf i).toNat)
    case atStart=>exact⟨0,by omega,rfl,ae rfl,rfl⟩
    case round=>
     obtain⟨k,hk,rfl,HK,rfl⟩:=hrel;by_cases hlt:k<n
     ·have ck:=HC.out k hlt
      have hg:=HB.out k;have HS:=ae (AU (xs:=xs) (x:=x) hlt);generalize xs.getD k 0=y at*;by_cases hyx:x<(y:Int)
      ·go_wp2_with fail
       go_ret;exact⟨by rw[HV2.out,<-HK.out,HS.out,bf hyx];rfl,rfl⟩
      ·go_wp2_with fail
       go_roundw
       case rel=>exact⟨k+1,by omega,by go_num,ae (by rw[<-HK.out,HS.out,bg hyx]),by first | rfl | trivial⟩
       case measure=>simp[intOf];omega
     ·obtain rfl:k=n:=by omega
      go_wp2_with fail;go_ret;exact⟨by rw[HV2.out,<-HK.out,Nat.sub_self];rfl,rfl⟩
theorem Dn(xs:List Nat)(B:Nat)(a:Option Addr)(n c:Nat)(x:Int)(w:World)(hr:Rd w B a n (bG xs))(hxn:xs.length=n)(hn:n<=4096)(hb:∀i,xs.getD i 0<4611686018427387904)(hx: -9223372036854775808<=x/\x<=9223372036854775807):
 Calls prog 374 #[slice a n c,int i64 x] w fun e w'=>e=returned (int i64 (sI xs x:Nat))/\w=w':=by
 have HV:Hid (sI xs x=if x<0 then 0 else BC xs x 0 n):=ae (by unfold sI;rw[hxn]);generalize sI xs x=out at*;have HR:=ae hr;have HB:=ae hb;clear hr hb hxn;go_enter func374,ntmps374;go_wp2_with fail;go_loopw [5] (fun i wr=>∃k:Nat,k<=n/\i=int i64 k/\Hid (BC xs x k (n-k)=BC xs x 0 n)/\Hid (0<k->0<=x)/\w=wr) (fun i _=>n-(intOf i).toNat)
 case atStart=>exact⟨0,by omega,rfl,ae rfl,ae (by omega),rfl⟩
 case round=>
  obtain⟨k,hk,rfl,HK,HP,rfl⟩:=hrel;by_cases hx0:x<0
  ·have hk0:k=0:=by
    have:=HP.out;omega
   have hv:=HV.out;rw[bf hx0] at hv;have HV2:=ae hv;have hx0':¬0<=x:=(by omega);clear hk0 hv;by_cases hlt:k<n
   ·go_wp2_with fail
    go_ret;exact⟨by rw[HV2.out];rfl,rfl⟩
   ·have hlt':¬(k:Int)<(n:Int):=by omega
    go_wp2_with fail;go_ret;exact⟨by rw[HV2.out];rfl,rfl⟩
  ·have hv:=HV.out
   rw[bg hx0] at hv;have HV2:=ae hv;have hx0':0<=x:=(by omega);clear hv;by_cases hlt:k<n
   ·obtain⟨b,o,rfl,hbB,hc⟩:=HR.out.2 (by omega)
    have hkx:k<xs.length:=by
     have:=HR.out.len;rw[tV] at this;omega
    have ck:=hc k _ (bL hkx);have hg:=HB.out k;have HS:=ae (AU (xs:=xs) (x:=x) hlt);clear hc hkx;generalize xs.getD k 0=y at*;by_cases hyx:x<(y:Int)
    ·go_wp2_with fail
     go_ret;exact⟨by rw[HV2.out,<-HK.out,HS.out,bf hyx];rfl,rfl⟩
    ·go_wp2_with fail
     go_roundw
     case rel=>exact⟨k+1,by omega,by go_num,ae (by rw[<-HK.out,HS.out,bg hyx]),ae (fun _=>hx0'),by first | rfl | trivial⟩
     case measure=>simp[intOf];omega
   ·obtain rfl:k=n:=by omega
    have hlt':¬(k:Int)<(k:Int):=(by omega);go_wp2_with fail;go_ret;exact⟨by rw[HV2.out,<-HK.out,Nat.sub_self];rfl,rfl⟩
def kH(xs:List Nat)(s:Int):Nat:=if xs=[] then 0 else nZ xs (ju s (xs.getD (xs.length-1) 0:Nat))
def Ag(xs:List Nat)(s:Int):Nat:=if xs=[] then 0 else sI xs (ju s (xs.getD (xs.length-1) 0:Nat))
def gN(xs:List Nat)(s:Int):Int:=if xs=[] then s else Lx s (xs.getD (xs.length-1) 0:Nat)
theorem JH(l s:Int):kH (fe l) s=Ag (fe l) s:=by
 unfold kH Ag;split
 ·rfl
 ·exact Kw l _
theorem xk(l:Int):∀i,(fe l).getD i 0<4611686018427387904:=by
 intro i;unfold fe;split
 ·rcases bq i l.toNat with h | h
  ·rw[jw h]
   have:=sum_lt (l:=l.toNat) (k:=i+1) (by omega) h;omega
  ·rw[af,List.getElem?_eq_none (by rw[eZ];exact h)];decide
 ·simp
theorem JI(xs:List Nat)(B:Nat)(a:Option Addr)(n c:Nat)(s:Int)(p:Addr)(w:World)(hr:Rd w B a n (bG xs))(hxn:xs.length=n)(hn:n<=4096)(hb:∀i,xs.getD i 0<4611686018427387904)
 (hc:w.cell? p=some (.int .u64 s))(hf:w.frozen? p=false)(hp:B<=p.block\/∃b o,a=some ⟨b,o,none⟩/\b≠p.block):
 Calls prog 242 #[slice a n c,pointer (some p)] w fun e w'=>e=returned (int i64 (kH xs s:Nat))/\w.setCell p (.int .u64 (gN xs s))=w':=by
 by_cases h0:n=0
 ·subst h0
  have hxe:xs=[]:=eq_nil_of_length_eq_zero hxn;subst hxe;have hself:=ae (fE w p _ hc);have hd:gN [] s=s:=rfl;rw[hd];clear hr hb hd;go_enter func242,ntmps242;go_wp2_with fail;go_ret;exact⟨rfl,hself.out⟩
 ·obtain⟨b,o,rfl,hbB,hcx⟩:=hr.2 (by omega)
  have hne:¬xs=[]:=by rintro rfl;simp at hxn;omega
  have hbp:b≠p.block:=by
   rcases hp with h | ⟨b',o',e,h⟩
   ·omega
   ·simp at e;rw[e.1];exact h
  clear hp;have hv1:kH xs s=nZ xs (ju s (xs.getD (n-1) 0:Nat)):=(by unfold kH;rw[bg hne,hxn]);have hs1:gN xs s=Lx s (xs.getD (n-1) 0:Nat):=(by unfold gN;rw[bg hne,hxn]);rw[hv1,hs1];have cl:=hcx (n-1) _ (bL (by omega));have hl:=hb (n-1);have hr2:∀v,Rd (w.setCell p v) (b+1) (some ⟨b,o,none⟩) n (bG xs):=fun v=>⟨hr.1,fun _=>⟨b,o,rfl,by omega,fun i u hu=>(World.cell?_of_block (w:=w) (bE w p v b hbp)).trans (hcx i u hu)⟩⟩;have hbv:=mZ s (xs.getD (n-1) 0:Nat);have cD:=fun v=>Dm xs (b+1) (some ⟨b,o,none⟩) n c (ju s (xs.getD (n-1) 0:Nat)) (w.setCell p v) (hr2 v) hxn hn hb (by omega);have h00:((n:Int) == 0)=false:=(by rw[beq_eq_false_iff_ne];omega);have ht:((n:Int)-1).toNat=n-1:=(by omega);have hn1:0<=(n:Int)-1:=(by omega);have cB:=fun w hc hf=>uK s (xs.getD (n-1) 0:Nat) p w hc hf (by omega);generalize nZ xs (ju s (xs.getD (n-1) 0:Nat))=out at*;generalize xs.getD (n-1) 0=last at*;have CD:=ae cD;have CB:=ae cB;clear hr hcx hb hr2 hne hv1 hs1 cD cB hxn;go_enter func242,ntmps242;go_wp2_with fail;refine(CB.out _ hc hf).mono ?_;rintro e w1 ⟨rfl,rfl⟩;go_wp2_with fail;refine(CD.out _).mono ?_;rintro e w1 ⟨rfl,rfl⟩;go_wp2_with fail;go_ret;exact⟨rfl,rfl⟩
theorem uI(xs:List Nat)(B:Nat)(a:Option Addr)(n c:Nat)(s:Int)(p:Addr)(w:World)(hr:Rd w B a n (bG xs))(hxn:xs.length=n)(hn:n<=4096)(hb:∀i,xs.getD i 0<4611686018427387904)
 (hc:w.cell? p=some (.int .u64 s))(hf:w.frozen? p=false)(hp:B<=p.block\/∃b o,a=some ⟨b,o,none⟩/\b≠p.block):
 Calls prog 330 #[slice a n c,pointer (some p)] w fun e w'=>e=returned (int i64 (Ag xs s:Nat))/\w.setCell p (.int .u64 (gN xs s))=w':=by
 by_cases h0:n=0
 ·subst h0
  have hxe:xs=[]:=eq_nil_of_length_eq_zero hxn;subst hxe;have hself:=ae (fE w p _ hc);have hd:gN [] s=s:=rfl;rw[hd];clear hr hb hd;go_enter func330,ntmps330;go_wp2_with fail;go_ret;exact⟨rfl,hself.out⟩
 ·obtain⟨b,o,rfl,hbB,hcx⟩:=hr.2 (by omega)
  have hne:¬xs=[]:=by rintro rfl;simp at hxn;omega
  have hbp:b≠p.block:=by
   rcases hp with h | ⟨b',o',e,h⟩
   ·omega
   ·simp at e;rw[e.1];exact h
  clear hp;have hv1:Ag xs s=sI xs (ju s (xs.getD (n-1) 0:Nat)):=(by unfold Ag;rw[bg hne,hxn]);have hs1:gN xs s=Lx s (xs.getD (n-1) 0:Nat):=(by unfold gN;rw[bg hne,hxn]);rw[hv1,hs1];have cl:=hcx (n-1) _ (bL (by omega));have hl:=hb (n-1);have hr2:∀v,Rd (w.setCell p v) (b+1) (some ⟨b,o,none⟩) n (bG xs):=fun v=>⟨hr.1,fun _=>⟨b,o,rfl,by omega,fun i u hu=>(World.cell?_of_block (w:=w) (bE w p v b hbp)).trans (hcx i u hu)⟩⟩;have hbv:=mZ s (xs.getD (n-1) 0:Nat);have cD:=fun v=>Dn xs (b+1) (some ⟨b,o,none⟩) n c (ju s (xs.getD (n-1) 0:Nat)) (w.setCell p v) (hr2 v) hxn hn hb (by omega);have h00:((n:Int) == 0)=false:=(by rw[beq_eq_false_iff_ne];omega);have ht:((n:Int)-1).toNat=n-1:=(by omega);have hn1:0<=(n:Int)-1:=(by omega);have cB:=fun w hc hf=>rU s (xs.getD (n-1) 0:Nat) p w hc hf (by omega);generalize sI xs (ju s (xs.getD (n-1) 0:Nat))=out at*;generalize xs.getD (n-1) 0=last at*;have CD:=ae cD;have CB:=ae cB;clear hr hcx hb hr2 hne hv1 hs1 cD cB hxn;go_enter func330,ntmps330;go_wp2_with fail;refine(CB.out _ hc hf).mono ?_;rintro e w1 ⟨rfl,rfl⟩;go_wp2_with fail;refine(CD.out _).mono ?_;rintro e w1 ⟨rfl,rfl⟩;go_wp2_with fail;go_ret;exact⟨rfl,rfl⟩
def cE(K H S:Int):Value:=.agg #[int i64 K,int i64 H,int i64 S]
def eD(K H S:Int):Bool:=decide (1<=K/\K<=16/\1<=H/\H<=4/\1<=S/\S<=24)
theorem qq{K H S:Int}(h:1<=K/\K<=16/\1<=H/\H<=4/\1<=S/\S<=24):eD K H S=true:=ba h
theorem JW{K H S:Int}(h:¬(1<=K/\K<=16/\1<=H/\H<=4/\1<=S/\S<=24)):eD K H S=false:=decide_eq_false h
theorem qz{a b:Bool}(h:a=b):Ending.returned (.bool a)=returned (.bool b):=by rw[h]
theorem fS(K H S:Int)(w:World):
 Calls prog 88 #[cE K H S] w fun e w'=>e=returned (bool (eD K H S))/\Below w.heap.size w w':=by
 have hb:=(az w.heap.size w).alloc (ah _) (cells #[int i64 K,int i64 H,int i64 S] 25);have HB:=ae hb;clear hb;unfold cE;go_enter func88,ntmps88;go_wp2_with fail
 all_goals(
  go_ret;refine⟨qz ?_,HB.out⟩
  first
  | (simp[eD];omega)
  | (simp only[eD,decide_eq_decide];omega)
  | (simp[eD] at*;omega))
def iE(K H S:Int):Int:=if eD K H S then K+H else 0
theorem ni(K H S:Int)(w:World):
 Calls prog 96 #[cE K H S] w fun e w'=>e=returned (bool (eD K H S))/\Below w.heap.size w w':=by
 have hb:=(az w.heap.size w).alloc (ah _) (cells #[int i64 K,int i64 H,int i64 S] 25);have HB:=ae hb;clear hb;unfold cE;go_enter func96,ntmps96;go_wp2_with fail
 all_goals(
  go_ret;refine⟨qz ?_,HB.out⟩
  first
  | (simp[eD];omega)
  | (simp only[eD,decide_eq_decide];omega)
  | (simp[eD] at*;omega))
theorem mE(K H S:Int)(w:World):
 Calls prog 232 #[cE K H S] w fun e w'=>e=returned (int i64 (iE K H S))/\Below w.heap.size w w':=by
 have hb:=(az w.heap.size w).alloc (ah _) (cells #[int i64 K,int i64 H,int i64 S] 25);have hB:=Blk.new w 25 #[int i64 K,int i64 H,int i64 S];have c0:(w.alloc (cells #[int i64 K,int i64 H,int i64 S] 25)).cell? ⟨w.heap.size,0,none⟩=some (int i64 K):=hB.cell 0;have c1:(w.alloc (cells #[int i64 K,int i64 H,int i64 S] 25)).cell? ⟨w.heap.size,1,none⟩=some (int i64 H):=hB.cell 1;have hs:w.heap.size<(w.alloc (cells #[int i64 K,int i64 H,int i64 S] 25)).heap.size:=by simp
 have C0:=ae c0;have C1:=ae c1;have HB:=ae hb;have CM:=ae fun w=>fS K H S w;clear hb hB c0 c1;unfold cE at CM ⊢;by_cases h:1<=K/\K<=16/\1<=H/\H<=4/\1<=S/\S<=24
 ·have e1:=qq h
  have HE:Hid (iE K H S=K+H):=ae (by unfold iE;rw[bf e1]);rw[e1] at CM;obtain⟨h1,h2,h3,h4,-⟩:=h;clear e1;go_enter func232,ntmps232;go_wp2_with fail;generalize w.alloc (cells #[int i64 K,int i64 H,int i64 S] 25)=w1 at*;refine(CM.out _).mono ?_;rintro e w2 ⟨rfl,hb2⟩;have k0:=(hb2.cell (p:=⟨w.heap.size,0,none⟩) hs).trans C0.out;have k1:=(hb2.cell (p:=⟨w.heap.size,1,none⟩) hs).trans C1.out;have HB2:=ae (HB.out.trans (hb2.mono (Nat.le_of_lt hs)));clear hb2;go_wp2_with fail;go_ret;exact⟨by rw[HE.out];rfl,HB2.out⟩
 ·have e1:=JW h
  have HE:Hid (iE K H S=0):=ae (by unfold iE;rw[e1];rfl);rw[e1] at CM;clear e1 h;go_enter func232,ntmps232;go_wp2_with fail;generalize w.alloc (cells #[int i64 K,int i64 H,int i64 S] 25)=w1 at*;refine(CM.out _).mono ?_;rintro e w2 ⟨rfl,hb2⟩;have HB2:=ae (HB.out.trans (hb2.mono (Nat.le_of_lt hs)));clear hb2;go_wp2_with fail;go_ret;exact⟨by rw[HE.out];rfl,HB2.out⟩
theorem uU(K H S:Int)(w:World):
 Calls prog 98 #[cE K H S] w fun e w'=>e=returned (int i64 (iE K H S))/\Below w.heap.size w w':=by
 have hb:=(az w.heap.size w).alloc (ah _) (cells #[int i64 K,int i64 H,int i64 S] 25);have hB:=Blk.new w 25 #[int i64 K,int i64 H,int i64 S];have c0:(w.alloc (cells #[int i64 K,int i64 H,int i64 S] 25)).cell? ⟨w.heap.size,0,none⟩=some (int i64 K):=hB.cell 0;have c1:(w.alloc (cells #[int i64 K,int i64 H,int i64 S] 25)).cell? ⟨w.heap.size,1,none⟩=some (int i64 H):=hB.cell 1;have hs:w.heap.size<(w.alloc (cells #[int i64 K,int i64 H,int i64 S] 25)).heap.size:=by simp
 have C0:=ae c0;have C1:=ae c1;have HB:=ae hb;have CM:=ae fun w=>ni K H S w;clear hb hB c0 c1;unfold cE at CM ⊢;by_cases h:1<=K/\K<=16/\1<=H/\H<=4/\1<=S/\S<=24
 ·have e1:=qq h
  have HE:Hid (iE K H S=K+H):=ae (by unfold iE;rw[bf e1]);rw[e1] at CM;obtain⟨h1,h2,h3,h4,-⟩:=h;clear e1;go_enter func98,ntmps98;go_wp2_with fail;generalize w.alloc (cells #[int i64 K,int i64 H,int i64 S] 25)=w1 at*;refine(CM.out _).mono ?_;rintro e w2 ⟨rfl,hb2⟩;have k0:=(hb2.cell (p:=⟨w.heap.size,0,none⟩) hs).trans C0.out;have k1:=(hb2.cell (p:=⟨w.heap.size,1,none⟩) hs).trans C1.out;have HB2:=ae (HB.out.trans (hb2.mono (Nat.le_of_lt hs)));clear hb2;go_wp2_with fail;go_ret;exact⟨by rw[HE.out];rfl,HB2.out⟩
 ·have e1:=JW h
  have HE:Hid (iE K H S=0):=ae (by unfold iE;rw[e1];rfl);rw[e1] at CM;clear e1 h;go_enter func98,ntmps98;go_wp2_with fail;generalize w.alloc (cells #[int i64 K,int i64 H,int i64 S] 25)=w1 at*;refine(CM.out _).mono ?_;rintro e w2 ⟨rfl,hb2⟩;have HB2:=ae (HB.out.trans (hb2.mono (Nat.le_of_lt hs)));clear hb2;go_wp2_with fail;go_ret;exact⟨by rw[HE.out];rfl,HB2.out⟩
def rE(n s:Int):List Nat:=rz (gN (fe n) s) n (kH (fe n) s:Nat)
theorem yX(n s:Int):(rE n s).length<=64:=JS _ _ _
theorem MJ{n:Nat}(h1:1<=n)(h2:n<=64)(s:Int):1<=kH (fe n) s/\kH (fe n) s<=n:=by
 rw[tz ⟨h1,h2⟩];have hne:ic n≠[]:=fun e=>by have:=eZ n;rw[e] at this;simp at this;omega
 unfold kH;rw[bg hne,eZ,jw (by omega:n-1<n),show n-1+1=n by omega]
 have hp:0<gB n n:=by
  have:=Bd h2 (show n-1<n by omega);rw[show n-1+1=n by omega] at this;omega
 have hpI:(0:Int)<(gB n n:Nat):=by omega
 refine Nc h1 h2 ?_ ?_
 ·exact(mZ _ _).1
 ·rw[qh hpI];exact Int.emod_lt_of_pos _ hpI
theorem yY{n:Nat}(h1:1<=n)(h2:n<=64)(s:Int):1<=(rE n s).length/\(∀x∈rE n s,x<n)/\(rE n s).Pairwise (·< ·):=by
 obtain⟨d1,d2⟩:=MJ h1 h2 s;unfold rE rz Ly;rw[bf (ba (by omega)),Int.toNat_natCast,Int.toNat_natCast];exact⟨by rw[vZ d2];exact d1,Im d2,Bt d2⟩
def pI(n:Nat)(L:List Nat):List Nat:=L.foldl (fun r i=>r.set i 1) (replicate n 0)
theorem AP(n:Nat)(L:List Nat)(x:Nat):pI n (L++[x])=(pI n L).set x 1:=by unfold pI;rw[foldl_append];rfl
theorem AQ(n:Nat)(L:List Nat):(pI n L).length=n/\∀i,i<n->(pI n L).getD i 0=if i∈L then 1 else 0:=by
 unfold pI
 suffices ∀(M:List Nat) (r:List Nat) (P:Nat->Prop),r.length=n->(∀i,i<n->(P i/\r.getD i 0=1)\/(¬P i/\r.getD i 0=0))->
  (M.foldl (fun r i=>r.set i 1) r).length=n/\∀i,i<n->((P i\/i∈M)/\(M.foldl (fun r i=>r.set i 1) r).getD i 0=1)\/(¬(P i\/i∈M)/\(M.foldl (fun r i=>r.set i 1) r).getD i 0=0) by
  obtain⟨h1,h2⟩:=this L (replicate n 0) (fun _=>False) (by simp) (fun i hi=>.inr ⟨id,by rw[af,List.getElem?_replicate];split <;> rfl⟩);refine⟨h1,fun i hi=> ?_⟩;rcases h2 i hi with⟨h,e⟩ | ⟨h,e⟩
  ·rw[e,bf (by simpa using h)]
  ·rw[e,bg (fun hm=>h (.inr hm))]
 intro M
 induction M with
 | nil=>intro r P h1 h2;exact⟨h1,fun i hi=>by simpa using h2 i hi⟩
 | cons x M ih=>
   intro r P h1 h2
   obtain⟨h3,h4⟩:=ih (r.set x 1) (fun i=>P i\/i=x) (by rw[length_set];exact h1) (fun i hi=>by
    rw[af,List.getElem?_set];by_cases e:x=i
    ·subst e
     rw[bf rfl,bf (by omega)];exact .inl ⟨.inr rfl,rfl⟩
    ·rw[bg e,<-af]
     rcases h2 i hi with⟨h,e2⟩ | ⟨h,e2⟩
     ·exact .inl ⟨.inl h,e2⟩
     ·exact .inr ⟨fun h'=>h'.elim h fun e3=>e e3.symm,e2⟩)
   refine⟨h3,fun i hi=> ?_⟩;rcases h4 i hi with⟨h,e⟩ | ⟨h,e⟩
   ·left
    refine⟨?_,e⟩;rcases h with(h | h) | h
    ·exact .inl h
    ·exact .inr (by rw[h];exact mem_cons_self)
    ·exact .inr (mem_cons_of_mem _ h)
   ·right
    refine⟨fun h'=>h ?_,e⟩;rcases h' with h' | h'
    ·exact .inl (.inl h')
    ·rcases mem_cons.1 h' with h' | h'
     ·exact .inl (.inr h')
     ·exact .inr h'
theorem sW(n:Nat)(L:List Nat):(pI n L).length=n:=(AQ n L).1
theorem EL{n:Nat}{L:List Nat}{i:Nat}(hi:i<n):(pI n L).getD i 0=if i∈L then 1 else 0:=(AQ n L).2 i hi
def vh(id:Int):Int:=IntKind.u32.wrap (id%4294967296*2654435761)
theorem EM(id:Int):0<=vh id/\vh id<4294967296:=by unfold vh;rw[IntKind.wrap_u32];omega
def jF(s id:Int):Int:=bits .xor .u32 s (vh id)
theorem MK{s id:Int}(h0:0<=s)(h1:s<4294967296):jF s id=((s.toNat ^^^ (vh id).toNat:Nat):Int):=by
 have hm:=EM id;unfold jF;have:=u32_xor_nat s.toNat (vh id).toNat (by omega) (by omega)
 rwa [Int.toNat_of_nonneg h0,Int.toNat_of_nonneg hm.1] at this
theorem Kc{s:Int}(id:Int)(h0:0<=s)(h1:s<4294967296):0<=jF s id/\jF s id<4294967296:=by
 have hm:=EM id;rw[MK h0 h1];have:=Nat.xor_lt_two_pow (n:=32) (x:=s.toNat) (y:=(vh id).toNat) (by omega) (by omega);omega
def ib(K H S s id:Int):List Nat:=if eD K H S/\0<=id/\id<=65535 then rE (K+H) (iH (jF s id)) else []
def iO(K H S s id:Int):List Nat:=if eD K H S/\0<=id/\id<=65535 then pI (K+H).toNat (rE (K+H) (iH (jF s id))) else []
theorem AR(K H S s id:Int):(ib K H S s id).length<=64:=by
 unfold ib;split
 ·exact yX _ _
 ·simp
def kC(n k h:Nat):Nat->List Nat
 | 0=>dS n k
 | j+1=>(kC n k h j).set j (ex ((h+1)*(j+1)))
def nU(n h:Nat):Nat->List Nat
 | 0=>replicate n 0
 | j+1=>(nU n h j).set j (ex ((h+1)*(j+1)))
def bS(K H:Nat):Nat->List (List Nat)
 | 0=>[]
 | r+1=>bS K H r++[kC (K+H) (K+r) r K]
theorem zB(n k h j:Nat):(kC n k h j).length=n:=by
 induction j with
 | zero=>exact gZ _ _
 | succ j ih=>rw[kC,length_set];exact ih
theorem zC(n h j:Nat):(nU n h j).length=n:=by
 induction j with
 | zero=>exact aI ..
 | succ j ih=>rw[nU,length_set];exact ih
theorem LC(n k h j:Nat):By (kC n k h j):=by
 induction j with
 | zero=>exact nu _ _
 | succ j ih=>
   intro x hx;rcases mem_or_eq_of_mem_set hx with h1 | h1
   ·exact ih x h1
   ·subst h1;exact(lF _).2
theorem IJ(n k h j:Nat)(hj:j<=k):kC n k h j=(nU n h j).set k 1:=by
 induction j with
 | zero=>rfl
 | succ j ih=>rw[kC,nU,ih (by omega),set_comm _ _ (by omega)]
theorem dL(K H r:Nat):(bS K H r).length=r:=by
 induction r with
 | zero=>rfl
 | succ r ih=>rw[bS,aH,ih];rfl
theorem LD(K H r j:Nat):(kC (K+H) (K+r) r j).length=K+H/\By (kC (K+H) (K+r) r j):=⟨zB _ _ _ _,LC _ _ _ _⟩
theorem tJ(K H r:Nat){i:Nat}(hi:i<r):(bS K H r).getD i []=kC (K+H) (K+i) i K:=by
 induction r with
 | zero=>omega
 | succ r ih=>
   rw[bS,af,List.getElem?_append,dL];by_cases h:i<r
   ·rw[bf h,<-af];exact ih h
   ·obtain rfl:i=r:=by omega
    simp
theorem qO(K H r:Nat):Wf (K+H) (bS K H r):=by
 induction r with
 | zero=>intro l hl;simp[bS] at hl
 | succ r ih=>
   intro l hl;rw[bS,bz] at hl;rcases hl with h | h
   ·exact ih l h
   ·rw[mem_singleton] at h;subst h;exact LD _ _ _ _
theorem Ei(n:Nat)(h:n<255):exI (n:Int)=ex n:=by
 unfold exI;have:((n:Int)%255).toNat=n:=by omega
 rw[this]
theorem kU{w:World}{g:Nat}{t:TypeId}{x y z:Value}(h:Blk w g t #[x,y,z]):w.cell? ⟨g,0,none⟩=some x/\w.cell? ⟨g,1,none⟩=some y/\w.cell? ⟨g,2,none⟩=some z:=⟨h.cell 0,h.cell 1,h.cell 2⟩
theorem yc(K H:Nat)(S:Int)(hK:1<=K/\K<=16)(hH:1<=H/\H<=4)(hS:1<=S/\S<=24)(N:Nat)(hN:K+H=N)(G:Nat)(cs:Array Value)(w:World)(hx:Blk w G 25 cs):
 Calls prog 232 #[.agg #[int i64 K,int i64 H,int i64 S]] w fun e w'=>e=returned (int i64 N)/\Blk w' G 25 cs/\Below w.heap.size w w':=by
 have hok:eD K H S=true:=qq (by omega);have hc:iE K H S=(N:Nat):=by unfold iE;rw[bf hok];omega
 have h:=mE K H S w;rw[hc] at h;exact h.mono fun e w' ⟨h1,h2⟩=>⟨h1,hx.below h2 hx.lt,h2⟩
theorem yf(n k:Nat)(G:Nat)(t:TypeId)(cs:Array Value)(w:World)(hx:Blk w G t cs)(hn:n<=64)(hk:k<n):
 Calls prog 315 #[int i64 n,int i64 k] w fun e w'=>∃g cap,e=returned (slice (some ⟨g,0,none⟩) n cap)/\w.heap.size<=g/\OwnB w' w.heap.size (slice (some ⟨g,0,none⟩) n cap) (dS n k)/\Blk w' G t cs/\Below w.heap.size w w':=
 (J6 n k w hn hk).mono fun e w' ⟨v,h1,h2,h3⟩=>by
   obtain⟨g,cap,h4,h5,h6⟩:=OwnB.form h2 (by rw[gZ];omega);rw[gZ] at h4;subst h4;exact⟨g,cap,h1,h5,h2,hx.below h3 hx.lt,h3⟩
theorem pJ(K H:Nat)(S:Int)(w:World)(hK:1<=K/\K<=16)(hH:1<=H/\H<=4)(hS:1<=S/\S<=24):
 Calls prog 257 #[cE K H S] w fun e w'=>∃v,e=returned v/\MOwn w' w.heap.size v (bS K H H)/\Below w.heap.size w w':=by
 have hb:=(az w.heap.size w).alloc (ah _) (cells #[int i64 K,int i64 H,int i64 S] 25);have hB:=Blk.new w 25 #[int i64 K,int i64 H,int i64 S];have hs:w.heap.size<(w.alloc (cells #[int i64 K,int i64 H,int i64 S] 25)).heap.size:=by simp
 have hok:eD K H S=true:=qq (by omega);have HB:=ae hb;have HBX:=ae hB;have CM:=ae fun w=>fS K H S w;have CC:=ae fun N hN G cs w hx=>yc K H S hK hH hS N hN G cs w hx;rw[hok] at CM;clear hb hB hok;unfold cE at CM ⊢;go_enter func257,ntmps257;go_wp2_with fail;generalize w.alloc (cells #[int i64 K,int i64 H,int i64 S] 25)=w1 at*;generalize hG:w.heap.size=G at*;have HG:=ae hG;clear hG;refine(CM.out _).mono ?_;rintro e w2 ⟨rfl,hb2⟩;have HBX2:=ae (HBX.out.below hb2 hs);have HB2:=ae (HB.out.trans (hb2.mono (Nat.le_of_lt hs)));have hs2:G<w2.heap.size:=by have:=hb2.size;omega
 clear hb2 HBX HB CM hs;go_wp2_with fail;refine(oZ _).mono ?_;rintro e w3 ⟨gf,rfl,hgf,hfl,hb3⟩;have HFL:=ae hfl;have HBX3:=ae (HBX2.out.below hb3 hs2);have HB3:=ae (HB2.out.trans (hb3.mono (Nat.le_of_lt hs2)));clear hb3 hfl hgf HBX2 HB2;have c1:=(kU HBX3.out).2.1;go_wp2_with fail;clear c1 hs2 w2 w1;have HM0:Hid (MOwn w3 G (slice none 0 0) (bS K H 0)):=ae (MOwn.nil _ _);go_loopw [4,5,6,7,14] (fun o _ _ _ i wr=>∃r:Nat,r<=H/\i=int i64 r/\Hid (MOwn wr G o (bS K H r))/\Hid (Fld wr gf)/\Hid (Blk wr G 25 #[int i64 K,int i64 H,int i64 S])/\Hid (Below G w wr)) (fun _ _ _ _ i _=>H-(intOf i).toNat)
 case atStart=>exact⟨0,by omega,rfl,HM0,HFL,HBX3,HB3⟩
 case round=>
  clear HM0 HFL HB3 HBX3;obtain⟨r,hr,rfl,HM,HFL,HBX,HB⟩:=hrel;rename World=>wo;have hGr:G<wo.heap.size:=Blk.lt HBX.out;by_cases hrm:r<H
  ·have hrmI:(r:Int)<(H:Int):=by omega
   obtain⟨c0,c1,c2⟩:=kU HBX.out;have HC0:=ae c0;have HC1:=ae c1;have HC2:=ae c2;obtain⟨N,hN⟩:∃N,K+H=N:=⟨_,rfl⟩;obtain⟨q,hq⟩:∃q,K+r=q:=⟨_,rfl⟩;have hqI:((K:Int)+(r:Int))=(q:Int):=(by omega);have hq2:q<=64:=(by omega);have hqw:IntKind.i64.wrap (q:Int)=(q:Int):=(by rw[IntKind.wrap_i64];omega);have CU:=ae fun w hx=>yf N q G 25 #[int i64 K,int i64 H,int i64 S] w hx (by omega) (by omega);have HN:=ae hN;have HQ:=ae hq;clear hN hq;generalize hD:wo.heap.size=D at*;have HD:=ae hD;clear hD;go_wp2_with fail
   go_region_with (first
    | (go_at_call 232
       refine(CC.out N HN.out G _ wo.drew HBX.out).mono ?_;rintro e w2 ⟨rfl,hx2,hb2⟩;obtain⟨k0,k1,k2⟩:=kU hx2;have HX2:=ae hx2;have HB2:=ae hb2;clear hx2 hb2)
    | (go_at_call 315
       try rw[hqw]
       refine(CU.out _ HX2.out).mono ?_;rintro e w3 ⟨g3,cap3,rfl,hg3,hown,hx3,hb3⟩;obtain⟨m0,m1,m2⟩:=kU hx3;have HX3:=ae hx3;have HB3:=ae hb3;have HO3:=ae hown;have HG3:=ae hg3;clear hx3 hb3 hown hg3))
   all_goals(
    have HBD0:Hid (Below D wo w3):=ae (by
     have h1:Below wo.heap.size wo wo.drew:=below_drewN (az _ _) 1;have h2:Below wo.heap.size wo w2:=h1.trans HB2.out;rw[<-HD.out];exact h2.trans (HB3.out.mono h2.size))
    have hDg:D<=g3:=(by have h1:=HD.out;have h2:=HB2.out.size;have h3:=HG3.out;have h4:wo.drew.heap.size=wo.heap.size:=rfl;omega);have HO0:Hid (OwnB w3 D (slice (some ⟨g3,0,none⟩) N cap3) (kC N q r 0)):=ae (OwnB.base HO3.out (by have h1:=HD.out;have h2:=HB2.out.size;have h4:wo.drew.heap.size=wo.heap.size:=rfl;omega));have HTK:Hid (bS K H (r+1)=bS K H r++[kC N q r K]):=ae (by rw[bS,HN.out,HQ.out]);have hKN:K<=N:=(by have:=HN.out;omega);clear HX2 HB2 HX3 HB3 HO3 HG3 k0 k1 k2 c0 c1 c2 HC0 HC1 HC2 hqI hqw CU;go_wp2_with fail;clear m0 m1 m2 hq2;go_loopw [7,26] (fun _ i wq=>∃j:Nat,j<=K/\i=int i64 j/\Hid (OwnB wq D (slice (some ⟨g3,0,none⟩) N cap3) (kC N q r j))/\Hid (Below D wo wq)) (fun _ i _=>K-(intOf i).toNat)
    case atStart=>exact⟨0,by omega,rfl,HO0,HBD0⟩
    case round=>
     clear HO0 HBD0;obtain⟨j,hj,rfl,HO,HBD⟩:=hrel;by_cases hjn:j<K
     ·have hjnI:(j:Int)<(K:Int):=by omega
      obtain⟨x,hx⟩:∃x,(r+1)*(j+1)=x:=⟨_,rfl⟩;have hx2:x<=64:=(by rw[<-hx];exact bn (show r+1<=4 by omega) (show j+1<=16 by omega));have hxI:((r:Int)+1)*((j:Int)+1)=(x:Int):=(by rw[<-hx];simp);have hx64:IntKind.i64.wrap (x:Int)=(x:Int):=(by rw[IntKind.wrap_i64];omega);have CE:=ae (Oy gf x (by omega) wr (HFL.out.below HBD.out (by have:=Blk.lt HFL.out;rw[HD.out] at this;exact this)));rw[Ei x (by omega)] at CE;have HST:Hid (kC N q r (j+1)=(kC N q r j).set j (ex x)):=ae (by rw[kC,hx]);have HX:=ae hx;have hjN:(j:Int)<(N:Int):=(by omega);clear hx;generalize ex x=y at*;go_wp2_with fail;refine CE.out.mono ?_;rintro e w5 ⟨rfl,z,rfl⟩;have hl:(kC N q r j).length=N:=zB _ _ _ _;obtain⟨cc,cf⟩:=OwnB.cell (HO.out.drewN z) hl (k:=j) (by omega);have HS:=ae (OwnB.stored (HO.out.drewN z) hl j y);clear hl;go_wp2_with fail;have HO5:Hid (OwnB ((wr.drewN z).setCell ⟨g3,j,none⟩ (.int .u8 (y:Nat))) D (slice (some ⟨g3,0,none⟩) N cap3) (kC N q r (j+1))):=ae (by rw[HST.out];exact HS.out.1);have HB5:Hid (Below D wo ((wr.drewN z).setCell ⟨g3,j,none⟩ (.int .u8 (y:Nat)))):=ae (Below.setCell (below_drewN HBD.out z) (p:=⟨g3,j,none⟩) hDg _);clear HS HST HO HBD CE cc cf;generalize (wr.drewN z).setCell ⟨g3,j,none⟩ (.int .u8 (y:Nat))=w5 at*;go_wp2_with fail;go_roundw
      case rel=>exact⟨j+1,by omega,by go_num,HO5,HB5⟩
      case measure=>simp[intOf];omega
     ·obtain rfl:j=K:=by omega
      have hmt:(bS j H r).length<=1000000:=(by rw[dL];omega);have hGD2:G<=wo.heap.size:=(by rw[HD.out];omega);have HBD2:Hid (Below wo.heap.size wo wr):=ae (by rw[HD.out];exact HBD.out);have HO2:Hid (OwnB wr wo.heap.size (slice (some ⟨g3,0,none⟩) N cap3) (kC N q r j)):=ae (by rw[HD.out];exact HO.out);have HF5:Hid (Fld wr gf):=ae (HFL.out.below HBD2.out (Blk.lt HFL.out));have HX5:Hid (Blk wr G 25 #[int i64 j,int i64 H,int i64 S]):=ae (HBX.out.below HBD2.out (Blk.lt HBX.out))
      go_wp2_with (at_builtin;refine lm (w0:=wo) (w1:=wr) rfl _ _ rfl HM.out HBD2.out HO2.out hGD2 hmt rfl rfl ?_)
      intro v' w6 hM6 hb6 hg6 hat6;rw[<-HTK.out] at hM6;have HM6:=ae hM6;have HB6:=ae (HB.out.trans hb6);obtain⟨vs,hMV⟩:=HM.out
      have hown:u4.ownBlock=none\/∃g' cs,u4.ownBlock=some g'/\Blk wo g' 30 cs:=by
       rcases hMV.hd.2 with⟨h1,_⟩ | ⟨g',cap,cur,h1,_,hb,_⟩
       ·rw[h1];exact .inl rfl
       ·rw[h1];exact .inr ⟨g',_,rfl,hb⟩
      have HF6:Hid (Fld w6 gf):=ae (by
       refine Blk.grown (Blk.alloc HF5.out _) hg6 ?_;rcases hown with h | ⟨g',cs,h,hb⟩
       ·rw[h];simp
       ·rw[h]
        have:gf≠g':=Blk.ne (t:=337) (t':=30) HFL.out hb (by decide);simpa using this)
      have HX6:Hid (Blk w6 G 25 #[int i64 j,int i64 H,int i64 S]):=ae (by
       refine Blk.grown (Blk.alloc HX5.out _) hg6 ?_;rcases hown with h | ⟨g',cs,h,hb⟩
       ·rw[h];simp
       ·rw[h]
        have:G≠g':=Blk.ne (t:=25) (t':=30) HBX.out hb (by decide);simpa using this)
      clear hM6 hb6 hg6 hat6 HM HBD HBD2 HO HO2 HF5 HX5 HTK HFL HB HBX hown hMV;go_wp2_with fail;go_roundw
      case rel=>exact⟨r+1,by omega,by go_num,HM6,HF6,HX6,HB6⟩
      case measure=>simp[intOf];omega)
  ·obtain rfl:r=H:=by omega
   go_wp2_with fail;go_ret;exact⟨_,rfl,by rw[HG.out];exact HM.out,by rw[HG.out];exact HB.out⟩
theorem sX_at(f:Nat->Nat->Nat)(j:Nat)(l:List Nat):sX (fun c _=>f c j) 0 l=sX f j l:=by
 induction l with
 | nil=>rfl
 | cons c l ih=>show f c j ^^^ sX (fun c _=>f c j) 0 l=f c j ^^^ sX f j l;rw[ih]
theorem kQ{K H Z:Nat}{s id:Int}(hk:eD K H Z=true):(∀c∈ib K H Z s id,c<K+H)/\(ib K H Z s id).Pairwise (·< ·):=by
 have hok:=aZ hk;unfold ib;split
 ·have h:=yY (n:=K+H) (by omega) (by omega) (iH (jF s id))
  rw[Int.natCast_add] at h;exact⟨h.2.1,h.2.2⟩
 ·exact⟨by simp,List.Pairwise.nil⟩
theorem mr{l:List Nat}(h:l.Pairwise (·< ·)):l.Nodup:=h.imp fun h=>Nat.ne_of_lt h
theorem ql{K H Z:Nat}{s id:Int}(hk:eD K H Z=true)(h0:0<=id)(h1:id<=65535):(iO K H Z s id).length=K+H/\By (iO K H Z s id)/\(∀i,i<K+H->(iO K H Z s id).getD i 0=if i∈ib K H Z s id then 1 else 0)/\1<=(ib K H Z s id).length:=by
 have hok:=aZ hk;unfold iO ib;rw[bf ⟨hk,h0,h1⟩,bf ⟨hk,h0,h1⟩,show((K:Int)+(H:Int)).toNat=K+H by omega];have h:=yY (n:=K+H) (by omega) (by omega) (iH (jF s id));rw[Int.natCast_add] at h;refine⟨sW _ _,fun x hx=> ?_,fun i hi=>EL hi,h.1⟩;obtain⟨i,hi,rfl⟩:=bC hx;have hi2:=hi;rw[sW] at hi2;have e:=EL (L:=rE ((K:Int)+(H:Int)) (iH (jF s id))) hi2;rw[af,ag hi] at e;have e':(pI (K+H) (rE ((K:Int)+(H:Int)) (iH (jF s id))))[i]=if i∈rE ((K:Int)+(H:Int)) (iH (jF s id)) then 1 else 0:=e;rw[e'];split <;> decide
def dV(K H Z:Nat)(s:Int)(ids:List Nat):List (List Nat):=bS K H H++ids.map fun i=>iO K H Z s (i:Nat)
theorem qp{K H Z:Nat}{s:Int}{ids:List Nat}(hk:eD K H Z=true)(hi:∀i∈ids,i<=65535):Wf (K+H) (dV K H Z s ids):=by
 intro r hr;rcases bz.1 hr with hr | hr
 ·exact qO K H H r hr
 ·obtain⟨i,h1,rfl⟩:=aW.1 hr
  have h2:=hi i h1;have:=ql (s:=s) (id:=(i:Nat)) hk (by omega) (by omega);exact⟨this.1,this.2.1⟩
theorem ll(K H Z:Nat)(s:Int)(ids:List Nat):(dV K H Z s ids).length=H+ids.length:=by unfold dV;rw[aH,aC,dL]
def gY(K H Z:Nat)(s:Int)(m:List (List Nat))(id:Nat):List Nat:=bP (fun c=>m.getD c []) (ib K H Z s (id:Nat)) (replicate Z 0)
def kD(H Z:Nat)(dat:List (List Nat)):List (List Nat):=replicate H (replicate Z 0)++dat
theorem EC{H Z:Nat}{dat:List (List Nat)}(hd:Wf Z dat):Wf Z (kD H Z dat):=by
 intro r hr;rcases bz.1 hr with hr | hr
 ·rw[eq_of_mem_replicate hr];exact⟨aI,By.zeros Z⟩
 ·exact hd r hr
structure MidOK (K H Z:Nat) (s:Int) (m:List (List Nat)):Prop where
 wf:Wf Z m
 len:m.length=K+H
 pre:∀h,h<H->∀j,dO (vO (kC (K+H) (K+h) h K)) (fun c=>(m.getD c []).getD j 0) (K+H)=0
theorem MidOK.row{K H Z:Nat}{s:Int}{m:List (List Nat)}(h:MidOK K H Z s m){c:Nat}(hc:c<K+H):(m.getD c []).length=Z/\By (m.getD c []):=h.wf.get (by rw[h.len];exact hc)
theorem MidOK.vb{K H Z:Nat}{s:Int}{m:List (List Nat)}(h:MidOK K H Z s m)(j:Nat):Vb fun c=>(m.getD c []).getD j 0:=fun c=>by
 rcases bq c (K+H) with hc | hc
 ·exact getD_lt (h.row hc).2 j
 ·have e:m.getD c []=[]:=by rw[af,List.getElem?_eq_none (by rw[h.len];exact hc)];rfl
  show((m.getD c []).getD j 0)<256;rw[e];show(0:Nat)<256;decide
theorem jX{K H Z:Nat}{s:Int}{m:List (List Nat)}(hk:eD K H Z=true)(h:MidOK K H Z s m)(id:Nat):(gY K H Z s m id).length=Z:=eU aI fun c hc=>(h.row ((kQ hk).1 c hc)).1
theorem ED{K H Z:Nat}{s:Int}{m:List (List Nat)}(hk:eD K H Z=true)(h:MidOK K H Z s m)(id:Nat):By (gY K H Z s m id):=(dF (D:=Z) (Byt.zero Z) fun c hc=>h.row ((kQ hk).1 c hc)).2
theorem JU{K H Z:Nat}{s:Int}{m:List (List Nat)}(hk:eD K H Z=true)(h:MidOK K H Z s m){id:Nat}(hid:id<=65535)(j:Nat):(gY K H Z s m id).getD j 0=dO (vO (iO K H Z s (id:Nat))) (fun c=>(m.getD c []).getD j 0) (K+H):=by
 obtain⟨h1,h2,h3,_⟩:=ql (s:=s) (id:=(id:Nat)) hk (by omega) (by omega);obtain⟨c1,c2⟩:=kQ (s:=s) (id:=(id:Nat)) hk;unfold gY;rw[jo j aI fun c hc=>(h.row (c1 c hc)).1,fZ (vO _),uQ (h.vb j) (mr c2) c1 h3];have e:(replicate Z 0).getD j 0=0:=by rw[af,List.getElem?_replicate];split <;> rfl
 rw[e,Nat.zero_xor];exact(sX_at (fun c j=>(m.getD c []).getD j 0) j _).symm
theorem OM{K H Z:Nat}{s:Int}{dat:List (List Nat)}(hk:eD K H Z=true)(hd:Wf Z dat)(hl:dat.length=K)(hr:(dE (dV K H Z s (range K))).length=K+H):
 jV (K+H) (dV K H Z s (range K)) (kD H Z dat)=0/\MidOK K H Z s (jW (K+H) (dV K H Z s (range K)) (kD H Z dat))/\∀i,i<K->gY K H Z s (jW (K+H) (dV K H Z s (range K)) (kD H Z dat)) i=dat.getD i []:=by
 have hok:=aZ hk;have hA:Wf (K+H) (dV K H Z s (range K)):=qp hk fun i hi=>by have:=bA.1 hi;omega
 have hAl:(dV K H Z s (range K)).length=K+H:=by rw[ll,aY];omega
 have hCl:(kD H Z dat).length=K+H:=by unfold kD;rw[aH,aI,hl];omega
 obtain⟨h1,h2,h3,h4⟩:=NH hA (EC (H:=H) hd) (by rw[hAl,hCl]) hAl (by omega) hr;generalize jW (K+H) (dV K H Z s (range K)) (kD H Z dat)=m at*
 have hm:MidOK K H Z s m:=by
  refine⟨h2,h3,fun h hh j=> ?_⟩;have:=h4 h (by omega) j
  have e1:(dV K H Z s (range K)).getD h []=kC (K+H) (K+h) h K:=by
   unfold dV;rw[af,List.getElem?_append_left (by rw[dL];exact hh),<-af];exact tJ K H H hh
  have e2:((kD H Z dat).getD h []).getD j 0=0:=by
   unfold kD;rw[af (l:=_++_),List.getElem?_append_left (by rw[aI];exact hh),List.getElem?_replicate,bf hh];show(replicate Z 0).getD j 0=0;rw[af,List.getElem?_replicate];split <;> rfl
  rw[e1,e2] at this;exact this.symm
 refine⟨h1,hm,fun i hi=> ?_⟩;have hdi:dat.getD i []∈dat:=by rw[af,ag (by omega)];exact aP _
 refine jh (by rw[jX hk hm,(hd _ hdi).1]) fun j=> ?_;rw[JU hk hm (by omega)];have:=h4 (H+i) (by omega) j
 have e1:(dV K H Z s (range K)).getD (H+i) []=iO K H Z s (i:Nat):=by
  unfold dV;rw[af,List.getElem?_append_right (by rw[dL];omega),dL,Nat.add_sub_cancel_left,List.getElem?_map,List.getElem?_range hi];rfl
 have e2:(kD H Z dat).getD (H+i) []=dat.getD i []:=by
  unfold kD;rw[af,List.getElem?_append_right (by rw[aI];omega),aI,Nat.add_sub_cancel_left,<-af]
 rw[e1,e2] at this;exact this.symm
theorem Sx.drew{w0 w:World}{L:List wR}(h:Sx w0 w L):Sx w0 w.drew L:=h.step ((az _ _).drew)
theorem Sx.cut{w0 w:World}{L:List wR}(h:Sx w0 w L)(M:List wR)(hs:∀e∈M,e∈L):Sx w0 w M:=⟨h.1,fun e he=>h.2 e (hs e he)⟩
theorem OwnI.rd2{w:World}{C:Nat}{v:Value}{l:List Nat}{n:Nat}(h:OwnI w C v l)(hn:l.length=n):∃a c,v=slice a n c/\(kT a n (bG l)).ok w/\(a=none->c=0):=by
 subst hn;exact j4 h
