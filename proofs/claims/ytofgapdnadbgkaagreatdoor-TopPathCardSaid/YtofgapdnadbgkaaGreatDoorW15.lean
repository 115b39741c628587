import Derived.Test.YtofgapdnadbgkaaGreatDoorW14
import Derived.Laws.CopyRow
import Derived.Shelf.Bytes.SlSmallAll
import Derived.Lib.Bytes
set_option linter.unusedVariables false
set_option maxRecDepth 100000
set_option maxHeartbeats 400000000
namespace Go.Proofs.YtofgapdnadbgkaaGreatDoor
open Go.RowKit _root_.Go.Proofs.Tryz
theorem F3(k:Nat):∀s,lj (k+1) s=mZ (lj k s):=by
 induction k with
 | zero=>intro s;rfl
 | succ k ih=>intro s;show lj (k+1) (mZ s)=mZ (lj k (mZ s));exact ih (mZ s)
theorem F4{xs:List Nat}{k:Nat}(h:k<xs.length)(s:Nat):gX (xs.take (k+1)) s=lj 8 (gX (xs.take k) s ^^^ xs.getD k 0):=by
 rw[aP h,jQ,af,ag h];rfl
theorem Li(xs:List Nat)(B:Nat)(a:Option Addr)(n c:Nat)(w:World)(hx:Rd w B a n (ba xs))(hb:By xs)(hn:n≤1000000):
 Calls prog 70 #[.slice a n c] w fun e w'=>e=.returned (.int .u32 (qh xs:Nat))∧∃j,w'=w.drewN j:=by
 have HX:=ae hx;have HB:=ae hb;have HL:Hid (xs.length=n):=ae (by have:=hx.len;rwa [bg] at this);clear hx hb;go_enter func70,ntmps70;go_wp2_with fail;go_loopw [3,9] (fun s i wr=>∃k:Nat,k≤n∧i=.int .i64 k∧s=.int .u32 (gX (xs.take k) 4294967295:Nat)∧Hid (∃j,wr=w.drewN j)) (fun _ i _=>n-(intOf i).toNat)
 case atStart=>exact⟨0,by omega,rfl,rfl,ae ⟨0,rfl⟩⟩
 case round=>
  obtain⟨k,hk,rfl,rfl,HJ⟩:=hrel;obtain⟨j,hj⟩:=HJ.out;clear HJ;by_cases hkn:k<n
  ·have hknI:(k:Int)<(n:Int):=by omega
   have hkx:k<xs.length:=(by rw[HL.out];exact hkn);obtain⟨b1,o1,rfl,hb1,hcc⟩:=HX.out.atB hkn;have cq:wr.cell? ⟨b1,o1+k,none⟩=some (.int .u8 (xs.getD k 0:Nat)):=(by rw[hj];exact hcc k hkn);have hx256:=getD_lt HB.out k;have hs32:=mX (xs.take k) 4294967295 (by omega) fun y hy=>HB.out y (List.mem_of_mem_take hy);have HST:=ae (F4 hkx 4294967295);have HJ:=ae hj;clear hcc hj hkx;generalize hs2e:gX (xs.take (k+1)) 4294967295=s2 at*;have HST2:=ae hs2e;clear hs2e;generalize gX (xs.take k) 4294967295=s0 at*;generalize xs.getD k 0=x at*;have hxr:=u32_xor_nat s0 x hs32 (by omega);have hs1:s0 ^^^ x<4294967296:=Nat.xor_lt_two_pow (n:=32) hs32 (by omega);generalize hs1e:s0 ^^^ x=s1 at*;have HS1:=ae hs1e;clear hs1e;go_wp2_with fail;clear cq hxr;go_loopw [3,17] (fun s i wq=>∃t:Nat,t≤8∧i=.int .i64 t∧s=.int .u32 (lj t s1:Nat)∧wq=wr) (fun _ i _=>8-(intOf i).toNat)
   case atStart=>exact⟨0,by omega,rfl,rfl,rfl⟩
   case round=>
    obtain⟨t,ht,rfl,rfl,hw⟩:=hrel;have HW:=ae hw;clear hw;by_cases ht8:t<8
    ·have ht8I:(t:Int)<8:=by omega
     have hv:=Eu t hs1;have HN:=ae (F3 t s1);generalize hn1:lj (t+1) s1=v1 at*;have HN1:=ae hn1;clear hn1;generalize lj t s1=v at*;have hand:=u32_and_nat v 1 hv (by omega);rw[Nat.and_one_is_mod] at hand;by_cases hodd:v%2=1
     ·have e1:v1=v/2 ^^^ 3988292384:=by rw[HN.out];unfold mZ;rw[if_pos hodd]
      rw[hodd] at hand;have hand1:bits .and .u32 (v:Int) 1=1:=hand;have hdiv:(v:Int)/2=((v/2:Nat):Int):=(by omega);have hxr:=u32_xor_nat (v/2) 3988292384 (by omega) (by omega);have hxr1:bits .xor .u32 ((v/2:Nat):Int) 3988292384=(v1:Int):=(by rw[e1];exact hxr);generalize v/2=v2 at*;clear hand hxr e1 hodd;go_wp2_with fail;go_roundw
      case rel=>(try((repeat apply Exists.intro);refine⟨?_,rfl⟩));exact⟨t+1,by omega,by go_num,by rw[HN1.out],HW.out⟩
      case measure=>simp[intOf];omega
     ·have e1:v1=v/2:=by rw[HN.out];unfold mZ;rw[if_neg hodd]
      have h0:v%2=0:=(by omega);rw[h0] at hand;have hand1:bits .and .u32 (v:Int) 1=0:=hand;have hdiv:(v:Int)/2=(v1:Int):=(by omega);clear hand e1 hodd h0;go_wp2_with fail;go_roundw
      case rel=>(try((repeat apply Exists.intro);refine⟨?_,rfl⟩));exact⟨t+1,by omega,by go_num,by rw[HN1.out],HW.out⟩
      case measure=>simp[intOf];omega
    ·obtain rfl:t=8:=by omega
     have HJ2:Hid (∃j,wr=w.drewN j):=ae ⟨j,by rw[HW.out,HJ.out]⟩;go_wp2_with fail;go_roundw
     case rel=>exact⟨k+1,by omega,by go_num,by rw[HST2.out,HST.out],HJ2⟩
     case measure=>simp[intOf];omega
  ·obtain rfl:k=n:=by omega
   rw[aO (by rw[HL.out];exact ah _)];have hs32:=mX xs 4294967295 (by omega) HB.out;have hx:=u32_xor_nat 4294967295 (gX xs 4294967295) (by omega) hs32;rw[Nat.xor_comm] at hx;have HX1:Hid (bits .xor .u32 IntKind.u32.max (gX xs 4294967295:Nat)=(qh xs:Nat)):=ae hx;have HJ:=ae hj;clear hx hj hs32;generalize gX xs 4294967295=s at*;go_wp2_with fail;go_ret;exact⟨congrArg (fun x=>Ending.returned (.int .u32 x)) HX1.out,j,HJ.out⟩
def bC(n:Nat):Nat→List Nat | 0=>[] | k+1=>n/256 ^ k%256 :: bC n k
def dQ(l:List Nat):Nat:=l.foldl (fun n x=>n*256+x) 0
theorem bO(n k:Nat):(bC n k).length=k:=by
 induction k with
 | zero=>rfl
 | succ k ih=>simp[bC,ih]
theorem jm(n k:Nat):∀x∈bC n k,x<256:=by
 induction k with
 | zero=>intro x hx;simp[bC] at hx
 | succ k ih=>
   intro x hx;rcases List.mem_cons.1 hx with h | h
   ·rw[h];exact Nat.mod_lt _ (by omega)
   ·exact ih x h
theorem told1{n:Nat}(h:n<256):dQ (bC n 1)=n:=by simp[dQ,bC];omega
theorem told2{n:Nat}(h:n<65536):dQ (bC n 2)=n:=by simp[dQ,bC];omega
theorem told3{n:Nat}(h:n<16777216):dQ (bC n 3)=n:=by simp[dQ,bC];omega
theorem told4{n:Nat}(h:n<4294967296):dQ (bC n 4)=n:=by simp[dQ,bC];omega
def gS(obj blk id K H Z seed:Nat)(d:List Nat):List Nat:=bC obj 3++bC blk 1++bC id 2++[K,H,Z]++bC seed 4++d
theorem jP(obj blk id K H Z seed:Nat)(d:List Nat):(gS obj blk id K H Z seed d).length=13+d.length:=by simp[gS,bO];omega
theorem cell_of{kind:Nat}{body:List Nat}(hk:1≤kind)(hb:body.length≤55):fI (cellL kind body)∧(cellL kind body).getD 3 0=kind∧((cellL kind body).drop 4).take 55=body++List.replicate (55-body.length) 0:=by
 have h3:(cellL kind body).getD 3 0=kind:=rfl
 have h4:((cellL kind body).drop 4).take 55=body++List.replicate (55-body.length) 0:=by
  have e:(cellL kind body).drop 4=(body++List.replicate (55-body.length) 0)++(b4 (qh (d9 kind body))++[165]):=rfl;rw[e];exact List.take_left' (by simp;omega)
 refine⟨⟨gT hb,by rw[h3];exact hk,?_⟩,h3,h4⟩;rw[h3,h4]
 have e:d9 kind (body++List.replicate (55-body.length) 0)=d9 kind body:=by
  unfold d9;have:(body++List.replicate (55-body.length) 0).length=55:=(by simp;omega);rw[this];simp
 unfold cellL;rw[e]
theorem ql{P:Program}(w:World)(T ty elem:TypeId)(hu:P.underlying T=some (.slice elem))(hsz:(P.info? elem).map (·.size)=some 1)(g o dLen dCap:Nat)(a:Option Addr)(sLen sCap:Nat)
 (cur:List Value)(t:TypeId)(hg:w.heap[g]? =some (.cells cur.toArray t (0,0)))(cs:List Value)(hn:cs.length=Nat.min sLen dLen)
 (hpos:0<cs.length→∃ad,a=some ad∧∀j v,cs[j]? =some v→w.cell? (ad.add j)=some v)(hfit:o+cs.length≤cur.length)(h1:∀v∈cs,v.oneCell'=true):
 ∃w',(Builtin.copy_ #[T,T] ty #[.slice (some ⟨g,o,none⟩) dLen dCap,.slice a sLen sCap]).run P w=.ok (goInt cs.length) w'∧Blk w' g t (splice cur o cs).toArray∧w.grownBy w' (some g):=by
 by_cases h0:cs.length=0
 ·obtain rfl:cs=[]:=List.eq_nil_of_length_eq_zero h0
  exact⟨w,run_copy_none (P:=P) w T T ty elem _ _ dLen dCap sLen sCap hu hsz (by simpa using hn.symm),by simpa[splice,Blk] using hg,⟨rfl,rfl,rfl,ah _,fun _ _ _=>rfl⟩⟩
 ·obtain⟨ad,rfl,hsrc⟩:=hpos (by omega)
  exact⟨_,run_copy_row (P:=P) w T T ty elem g o dLen dCap ad sLen sCap cur.toArray t cs hu hsz hg hn hsrc (by simpa using hfit) h1,by simpa[splice,Blk] using setRow_heap w g cur.toArray _ t _ hg,
   ⟨rfl,rfl,rfl,by simp[World.setRow],fun k _ hk=>setRow_other w g k _ (fun e=>hk (by rw[e]))⟩⟩
theorem kr(L X:List Nat)(o:Nat):splice (ba L) o (ba X)=ba (splice L o X):=by
 unfold splice ba;rw[aW,aW,List.map_take,List.map_drop,aG]
theorem A9{w:World}{g k:Nat}{L:List Nat}(h:Blk w g 5 (bn L))(hk:k≤L.length):Rd w w.heap.size (some ⟨g,0,none⟩) k (ba (L.take k)):=by
 refine⟨by rw[bg,aI];omega,fun _=>⟨g,0,rfl,h.lt,fun i u hu=> ?_⟩⟩;rw[Nat.zero_add,h.cell i];unfold ba at hu;rw[List.getElem?_map,List.getElem?_take] at hu;split at hu
 ·simpa[bn,ba] using hu
 ·simp at hu
def qQ(s k:Nat):List Nat:=(b4 s).take k++List.replicate (5-k) 0
theorem Ba(s:Nat){k:Nat}(hk:k<4):(qQ s k).set k ((b4 s).getD k 0)=qQ s (k+1):=by
 match k,hk with
 | 0,_=>rfl
 | 1,_=>rfl
 | 2,_=>rfl
 | 3,_=>rfl
theorem EE(s:Nat):(qQ s 4).set 4 165=b4 s++[165]:=rfl
theorem EF{kind:Nat}{body:List Nat}(hb:body.length≤55):splice (splice (List.replicate 64 0) 0 [87,115,1,kind]) 4 body=d9 kind body++List.replicate 5 0:=by
 have e:splice (List.replicate 64 0) 0 [87,115,1,kind]=[87,115,1,kind]++List.replicate 60 0:=rfl;rw[e]
 have e2:splice ([87,115,1,kind]++List.replicate 60 0) 4 body=[87,115,1,kind]++(body++(List.replicate 60 0).drop body.length):=by
  unfold splice;rw[List.take_left' (by rfl),List.drop_append];simp
 rw[e2,List.drop_replicate];unfold d9;have e3:List.replicate (60-body.length) 0=List.replicate (55-body.length) 0++List.replicate 5 (0:Nat):=by rw[List.replicate_append_replicate];congr 1;omega
 rw[e3];simp
theorem sI{H R:List Nat}{k v:Nat}(hH:H.length=59):(H++R).set (59+k) v=H++R.set k v:=by
 rw[List.set_append_right _ _ (by omega)];congr 2;omega
theorem sJ(kind:Nat)(body:List Nat)(a:Option Addr)(n c:Nat)(w:World)(hk1:1≤kind)(hk2:kind≤255)(hx:Rd w w.heap.size a n (ba body))(hb:By body)(hn:n≤55):
 Calls prog 33 #[.int .i64 kind,.slice a n c] w fun e w'=>∃g,e=.returned (.slice (some ⟨g,0,none⟩) 64 64)∧w.heap.size≤g∧Blk w' g 5 (bn (cellL kind body))∧Below w.heap.size w w':=by
 have hlb:body.length=n:=by have:=hx.len;rwa [bg] at this
 have hmk:∀w:World,(Instr.makeSlice 23 (.int .i64 64) (.int .i64 64)).run prog w=.ok (.slice (some ⟨w.heap.size,0,none⟩) 64 64) (w.alloc (.cells (bn (List.replicate 64 0)) 5)):=fun w=>cQ (n:=64) (by omega) w;have hinf:(prog.info? 5).map (·.size)=some 1:=by kernel_rfl
 have h1:¬(kind:Int)<1:=by omega
 have h2:¬(255:Int)<(kind:Int):=by omega
 have h3:¬(55:Int)<(n:Int):=by omega
 have hkm:(kind:Int)%256=(kind:Int):=by omega
 have hw1:=Blk.new w 5 (bn (List.replicate 64 0));obtain⟨w1,hw1e⟩:∃w1,w1=w.alloc (.cells (bn (List.replicate 64 0)) 5):=⟨_,rfl⟩;rw[←hw1e] at hw1;have hsz1:w1.heap.size=w.heap.size+1:=by rw[hw1e];simp
 have hb1:Below w.heap.size w w1:=by rw[hw1e];exact(az _ _).alloc (ah _) _
 have hw2:=(hw1.alloc (.cells (bn [87,115,1,kind]) 5));have hl2:=Blk.new w1 5 (bn [87,115,1,kind]);obtain⟨w2,hw2e⟩:∃w2,w2=w1.alloc (.cells (bn [87,115,1,kind]) 5):=⟨_,rfl⟩;rw[←hw2e] at hw2 hl2;have hb2:Below w.heap.size w w2:=by rw[hw2e];exact hb1.alloc hb1.size _
 obtain⟨w3,hrun3,hblk3,hgr3⟩:=ql (P:=prog) w2 23 3 5 underlying23 hinf w.heap.size 0 64 64 (some ⟨w1.heap.size,0,none⟩) 4 4 (ba (List.replicate 64 0)) 5 hw2 (ba [87,115,1,kind]) rfl
  (fun _=>⟨_,rfl,fun j v hv=>by rw[Addr.add_lit,Nat.zero_add,hl2.cell j];simpa[bn] using hv⟩) (by rw[bg,bg,aN];show 0+4≤64;omega) (gQ _)
 rw[kr] at hblk3;have hb3:Below w.heap.size w w3:=hb2.grown hgr3 hb2.size (fun g hg=>by simp at hg;omega);have hx3:=hx.below hb3 (ah _)
 obtain⟨w4,hrun4,hblk4,hgr4⟩:=ql (P:=prog) w3 23 3 5 underlying23 hinf w.heap.size 4 60 60 a n c (ba (splice (List.replicate 64 0) 0 [87,115,1,kind])) 5 hblk3 (ba body) (by rw[bg,hlb];exact(Nat.min_eq_left (by omega)).symm)
  (fun h=>by
    obtain⟨b,o,rfl,hbb,hc⟩:=hx3.2 (by rw[bg] at h;omega);refine⟨⟨b,o,none⟩,rfl,fun j v hv=> ?_⟩;rw[Addr.add_lit];exact hc j v hv) (by rw[bg,bg,hlb];show 4+n≤64;omega) (gQ _)
 rw[kr,EF (by omega)] at hblk4;have hb4:Below w.heap.size w w4:=hb3.grown hgr4 hb3.size (fun g hg=>by simp at hg;omega);have hhl:(d9 kind body).length=59:=qG (by omega)
 have hhb:By (d9 kind body):=by
  intro x hx;unfold d9 at hx;rcases List.mem_append.1 hx with hx | hx
  ·simp at hx;omega
  ·rcases List.mem_append.1 hx with hx | hx
   ·exact hb x hx
   ·exact By.zeros _ x hx
 have HK4:Hid (Blk w4 w.heap.size 5 (bn (d9 kind body++qQ (qh (d9 kind body)) 0))):=ae hblk4
 have hrd:Rd w4 w4.heap.size (some ⟨w.heap.size,0,none⟩) 59 (ba (d9 kind body)):=by
  have:=A9 HK4.out (k:=59) (by rw[aJ,hhl];omega)
  rwa [List.take_left' hhl] at this
 have CS:=ae (Li (d9 kind body) _ (some ⟨w.heap.size,0,none⟩) 59 64 w4 hrd hhb (by omega));have HB4:=ae hb4;have HHL:=ae hhl;have hc32:qh (d9 kind body)<4294967296:=Nat.xor_lt_two_pow (n:=32) (mX _ _ (by omega) hhb) (by omega);have HCL:Hid (cellL kind body=d9 kind body++(b4 (qh (d9 kind body))++[165])):=ae rfl;rw[hsz1] at hrun3;have hrow:bn [87,115,1,kind]= #[.int .u8 87,.int .u8 115,.int .u8 1,.int .u8 (kind:Int)]:=rfl;rw[hrow] at hw2e;subst hw2e;subst hw1e;clear hsz1 hrow hw1 hw2 hl2 hblk3 hgr3 hblk4 hgr4 hb1 hb2 hb3 hb4 hx hx3 hrd hhl hhb hinf hlb hb;generalize bn (List.replicate 64 0)=Z0 at*;generalize hH:d9 kind body=H at*;have HH:=ae hH;clear hH;generalize hS:qh H=S at*;have HS:=ae hS;clear hS;go_enter func33,ntmps33
 go_wp2_with (first | simp only[hmk] | simp only[hrun3] | simp only[hrun4])
 refine CS.out.mono ?_;rintro e w5 ⟨rfl,j5,rfl⟩;have HK5:Hid (Blk (w4.drewN j5) w.heap.size 5 (bn (H++qQ S 0))):=ae (HK4.out.drewN j5);have HB5:=ae (below_drewN HB4.out j5);generalize w4.drewN j5=w5 at*;clear CS HK4 HB4 hmk hrun3 hrun4
 have HSB:Hid (∀i,(b4 S).getD i 0<256):=ae fun i=>by
  match i with
  | 0=>exact Nat.mod_lt _ (by omega)
  | 1=>exact Nat.mod_lt _ (by omega)
  | 2=>exact Nat.mod_lt _ (by omega)
  | 3=>exact Nat.mod_lt _ (by omega)
  | i+4=>simp[b4]
 generalize hG:w.heap.size=G at*;have HG:=ae hG;clear hG;go_wp2_with fail;go_loopw [32] (fun i wr=>∃k:Nat,k≤4∧i=.int .i64 k∧Hid (Blk wr G 5 (bn (H++qQ S k)))∧Hid (Below G w wr)) (fun i _=>4-(intOf i).toNat)
 case atStart=>exact⟨0,by omega,rfl,HK5,HB5⟩
 case round=>
  clear HK5 HB5;obtain⟨k,hk,rfl,HK,HB⟩:=hrel;by_cases hk4:k<4
  ·have hk4I:(k:Int)<4:=by omega
   have hset:=HK.out.set (59+k) (.int .u8 ((b4 S).getD k 0:Nat));rw[iq,sI HHL.out,Ba S hk4] at hset;have hfr:=HK.out.frozen (59+k)
   obtain⟨u,hu⟩:∃u,wr.cell? ⟨G,59+k,none⟩=some u:=by
    refine⟨_,(HK.out.cell (59+k)).trans (Array.getElem?_eq_getElem ?_)⟩;rw[jy,aJ,HHL.out];have:(qQ S k).length=5:=(by simp[qQ,b4];omega);omega
   have HSET:=ae hset;have HBN:Hid (Below G w (wr.setCell ⟨G,59+k,none⟩ (.int .u8 ((b4 S).getD k 0:Nat)))):=ae (HB.out.setCell (p:=⟨G,59+k,none⟩) (ah _) _);clear hset HK HB;have hcase:k=0∨k=1∨k=2∨k=3:=(by omega);rcases hcase with rfl | rfl | rfl | rfl
   ·have hv:(((b4 S).getD 0 0:Nat):Int)=(S:Int)%256:=by show((S%256:Nat):Int)=_;omega
    rw[hv] at HSET HBN;clear hv HSB;go_wp2_with fail;exact⟨⟨1,by omega,rfl,HSET,HBN⟩,by simp[intOf]⟩
   ·have hv:(((b4 S).getD 1 0:Nat):Int)=(S:Int)/256%256:=by show((S/256%256:Nat):Int)=_;omega
    rw[hv] at HSET HBN;clear hv HSB;go_wp2_with fail;exact⟨⟨2,by omega,rfl,HSET,HBN⟩,by simp[intOf]⟩
   ·have hv:(((b4 S).getD 2 0:Nat):Int)=(S:Int)/65536%256:=by show((S/65536%256:Nat):Int)=_;omega
    rw[hv] at HSET HBN;clear hv HSB;go_wp2_with fail;exact⟨⟨3,by omega,rfl,HSET,HBN⟩,by simp[intOf]⟩
   ·have hv:(((b4 S).getD 3 0:Nat):Int)=(S:Int)/16777216:=by show((S/16777216%256:Nat):Int)=_;omega
    rw[hv] at HSET HBN;clear hv HSB;go_wp2_with fail;exact⟨⟨4,by omega,rfl,HSET,HBN⟩,by simp[intOf]⟩
  ·obtain rfl:k=4:=by omega
   have hset:=HK.out.set (59+4) (.int .u8 ((165:Nat):Int));rw[iq,sI HHL.out,EE,←HCL.out] at hset;have hfr:=HK.out.frozen 63
   obtain⟨u,hu⟩:∃u,wr.cell? ⟨G,63,none⟩=some u:=by
    refine⟨_,(HK.out.cell 63).trans (Array.getElem?_eq_getElem ?_)⟩;rw[jy,aJ,HHL.out];show 63<59+5;omega
   have HSET:Hid (Blk (wr.setCell ⟨G,63,none⟩ (.int .u8 165)) G 5 (bn (cellL kind body))):=ae hset;have HBN:Hid (Below G w (wr.setCell ⟨G,63,none⟩ (.int .u8 165))):=ae (HB.out.setCell (p:=⟨G,63,none⟩) (ah _) _);clear hset HK HB;go_wp2_with fail;go_ret;exact⟨G,rfl,by rw[HG.out];exact ah _,HSET.out,by rw[HG.out];exact HBN.out⟩
theorem yS(kind:Int)(a:Option Addr)(n c:Nat)(w:World)(hk:kind<1):
 Calls prog 33 #[.int .i64 kind,.slice a n c] w fun e w'=>e=.returned (.slice none 0 0)∧w=w':=by
 go_enter func33,ntmps33;go_wp2_with fail;go_ret;exact⟨rfl,rfl⟩
def lF(xs:List Nat):List Int:=xs.map fun x:Nat=>(x:Int)
theorem KG{xs ys:List Nat}(hx:By xs)(hy:By ys):((strOfNums (lF xs)).toList=(strOfNums (lF ys)).toList)↔xs=ys:=by
 constructor
 ·intro h
  have e:=h;rw[Lib.strOfNums_toList,Lib.strOfNums_toList] at e;unfold Lib.bytesOf lF at e;rw[List.map_map,List.map_map] at e;have hl:xs.length=ys.length:=(by have:=congrArg List.length e;simpa using this);refine List.ext_getElem hl fun i h1 h2=> ?_;have e2:=congrArg (fun l=>l[i]?) e;simp only[List.getElem?_map,ag h1,ag h2,Option.map_some,Function.comp,Int.toNat_natCast,Option.some.injEq] at e2;have e3:=congrArg UInt8.toNat e2;have b1:=hx _ (aU h1);have b2:=hy _ (aU h2);simp only[UInt8.toNat_ofNat'] at e3;omega
 ·intro h;rw[h]
theorem Bj{w:World}{B:Nat}{a:Option Addr}{n:Nat}{xs:List Nat}(h:Rd w B a n (ba xs))(c:Nat):(convert 23 9 (.slice a n c)).run prog w=.ok (.string (strOfNums (lF xs))) w:=by
 have hl:xs.length=n:=by have:=h.len;rwa [bg] at this
 rcases Nat.eq_zero_or_pos n with h0 | h0
 ·subst h0
  obtain rfl:xs=[]:=List.eq_nil_of_length_eq_zero hl;exact run_convert_bytes_zero (P:=prog) w 23 5 underlying23 underlying5 a c 9 underlying9
 ·obtain⟨b,o,rfl,hb,hc⟩:=h.2 h0
  refine run_convert_bytes_arg (P:=prog) w 23 5 underlying23 underlying5 b o n c (lF xs) (by simpa[lF] using hl) ?_ 9 underlying9;intro i hi;have:=hc i (.int .u8 (xs.getD i 0:Nat)) (dz (by rw[hl];exact hi))
  have e:(lF xs).getD i 0=(xs.getD i 0:Int):=by
   unfold lF;have hi2:i<xs.length:=(by rw[hl];exact hi);rw[af,List.getElem?_map,ag hi2,af,ag hi2];rfl
  first
  | (rw[e];exact this)
  | (simpa[e] using this)
theorem jV(xs ys:List Nat)(B C:Nat)(a b:Option Addr)(n m c d:Nat)(w:World)(hx:Rd w B a n (ba xs))(hy:Rd w C b m (ba ys))(hbx:By xs)(hby:By ys):
 Calls prog 37 #[.slice a n c,.slice b m d] w fun e w'=>e=.returned (.bool (decide (xs=ys)))∧w=w':=by
 have h1:=Bj hx c;have h2:=Bj hy d;have HS:=ae (KG hbx hby);clear hx hy hbx hby;generalize strOfNums (lF xs)=s1 at*;generalize strOfNums (lF ys)=s2 at*;go_enter func37,ntmps37
 go_wp2_with (first | simp only[h1] | simp only[h2])
 go_ret;have e:(s1.toList == s2.toList)=decide (xs=ys):=by rw[Bool.eq_iff_iff,beq_iff_eq,decide_eq_true_iff];exact HS.out
 exact⟨congrArg (fun x=>Ending.returned (.bool x)) e,rfl⟩
theorem pG{w:World}{B:Nat}{a:Option Addr}{n:Nat}{xs:List Nat}(h:Rd w B a n (ba xs)){o k:Nat}(hk:0<k)(hok:o+k≤n):∃b p,a=some ⟨b,p,none⟩∧b<B∧Rd w B (some ⟨b,p+o,none⟩) k (ba ((xs.drop o).take k)):=by
 have hl:xs.length=n:=by have:=h.len;rwa [bg] at this
 obtain⟨b,p,rfl,hb,hc⟩:=h.2 (by omega);refine⟨b,p,rfl,hb,by rw[bg,aI,List.length_drop];omega,fun _=>⟨b,p+o,rfl,hb,fun i u hu=> ?_⟩⟩;unfold ba at hu;rw[List.getElem?_map,List.getElem?_take] at hu;split at hu
 ·rw[List.getElem?_drop] at hu
  have:=hc (o+i) u (by unfold ba;rw[List.getElem?_map];exact hu)
  rwa [show p+(o+i)=p+o+i by omega] at this
 ·simp at hu
theorem wS(bs:List Nat)(a:Option Addr)(c:Nat)(w:World)(hx:Rd w w.heap.size a 64 (ba bs))(hb:By bs)(hc:64≤c∧c≤maxLen):
 Calls prog 34 #[.slice a 64 c] w fun e w'=>
  (fI bs→∃v,e=.returned (.tuple #[.int .i64 (bs.getD 3 0:Nat),v,.bool true])∧OwnB w' w.heap.size v ((bs.drop 4).take 55))∧(¬fI bs→e=.returned (.tuple #[.int .i64 0,.slice none 0 0,.bool false]))∧Below w.heap.size w w':=by
 have hl:bs.length=64:=by have:=hx.len;rwa [bg] at this
 obtain⟨b,p,rfl,hbb,hpart⟩:=pG hx (o:=4) (k:=55) (by omega) (by omega);obtain⟨b',p',e,hb3,hcc⟩:=hx.atB (k:=3) (by omega);obtain⟨rfl,rfl⟩:b=b'∧p=p':=by simpa using e
 have c3:=hcc 3 (by omega);have hbd:((bs.drop 4).take 55).length=55:=by rw[aI,List.length_drop];omega
 have hby:By ((bs.drop 4).take 55):=fun x hx=>hb x (List.mem_of_mem_drop (List.mem_of_mem_take hx));have hk256:=getD_lt hb 3;have HP:=ae hpart;have HX:=ae hx;have HBY:=ae hby;have HBS:=ae hb;have HBD:=ae hbd;have HL:=ae hl;obtain⟨hc1,hc2⟩:=hc;have hc59:(59:Int)≤(c:Int):=by omega
 have hc4:(4:Int)≤(c:Int):=by omega
 have hcne:¬c=4:=by omega
 clear hcc hpart hx hby e hb hbd hl;obtain⟨kd,hkd⟩:∃kd,bs.getD 3 0=kd:=⟨_,rfl⟩;obtain⟨bd,hbde⟩:∃bd,(bs.drop 4).take 55=bd:=⟨_,rfl⟩;rw[hkd] at c3 hk256 ⊢;rw[hbde] at HP HBY HBD ⊢;have hw64:wrap64 (kd:Int)=(kd:Int):=by have h:=IntKind.wrap_i64 (kd:Int);first | (rw[show wrap64 (kd:Int)=IntKind.i64.wrap (kd:Int) from rfl,h];omega) | (unfold wrap64;omega)
 have hw64b:IntKind.i64.wrap (kd:Int)=(kd:Int):=by rw[IntKind.wrap_i64];omega
 have hdec:fI bs↔(1≤kd∧bs=cellL kd bd):=by
  unfold fI;rw[hkd,hbde];exact⟨fun h=>h.2,fun h=>⟨HL.out,h⟩⟩
 have HD:=ae hdec;clear hkd hbde hdec;have CC:=ae fun (w1:World) (h:Rd w1 w1.heap.size (some ⟨b,p+4,none⟩) 55 (ba bd))=>dF bd _ (some ⟨b,p+4,none⟩) 55 (c-4) w1 h (ah _) (fun e=>by cases e) (by omega);go_enter func34,ntmps34;go_wp2_with fail
 go_region_held3 (fun w'=>w'.cell? ⟨b,p+3,none⟩=some (.int .u8 (kd:Nat))) (go_keep) (first
  | (go_at_call 36
     refine(CC.out w.drew (HP.out.below ((az w.heap.size w).drew) (ah _))).mono ?_;rintro e wA ⟨v,rfl,hO,hbA⟩;obtain⟨a1,c1,rfl,hr1,hn1⟩:=hO.rd2 HBD.out;have n0:=(hbA.cell (p:=⟨b,p+3,none⟩) hbb).trans c3;have HO:=ae hO;have HR:=ae hr1;have HBA:Hid (Below w.heap.size w wA):=ae (((az w.heap.size w).drew).trans hbA);have HXA:=ae (HX.out.below HBA.out (ah _));clear hO hr1 hbA))
 clear CC HP HX c3
 try rw[hw64]
 have hsz:w.heap.size≤wA.heap.size:=HBA.out.size;by_cases hk0:kd<1
 ·have hk0I:(kd:Int)<1:=by omega
  have CP:=ae (yS (kd:Int) a1 55 c1 wA hk0I);have hno:¬fI bs:=fun h=>(by have:=(HD.out.1 h).1;omega);have CE:=ae (jV bs [] wA.heap.size 0 (some ⟨b,p,none⟩) none 64 0 c 0 wA (HXA.out.more hsz) (oz _ _ _) HBS.out (by intro x hx;simp at hx));rw[decide_eq_false (fun e=>by have:=HL.out;rw[e] at this;simp at this)] at CE;have HNO:=ae hno;clear hno;go_wp2_with fail;refine CP.out.mono ?_;rintro e wB ⟨rfl,rfl⟩;go_wp2_with fail;refine CE.out.mono ?_;rintro e wC ⟨rfl,rfl⟩;go_wp2_with fail;go_ret3;exact⟨fun h=>absurd h HNO.out,fun _=>rfl,HBA.out⟩
 ·have CP:=ae (sJ kd bd a1 55 c1 wA (by omega) (by omega) HR.out HBY.out (by omega))
  have hk1:¬(kd:Int)<1:=(by omega);go_wp2_with fail;refine CP.out.mono ?_;rintro e wB ⟨g,rfl,hg,hK,hbB⟩;have hlc:(cellL kd bd).length=64:=gT (by rw[HBD.out];omega);have hrc:=kX hK;rw[hlc] at hrc;have HBB:=ae (HBA.out.trans (hbB.mono hsz))
  have hcb:By (cellL kd bd):=by
   intro x hx;unfold cellL d9 at hx;simp only[List.mem_append] at hx;rcases hx with(h | h | h) | h | h
   ·simp at h;omega
   ·exact HBY.out x h
   ·rw[List.eq_of_mem_replicate h];decide
   ·simp[b4] at h;omega
   ·simp at h;omega
  have CE:=ae (jV bs (cellL kd bd) wB.heap.size wB.heap.size (some ⟨b,p,none⟩) (some ⟨g,0,none⟩) 64 64 c 64 wB ((HXA.out.below (hbB.mono hsz) (ah _)).more (aQ hsz hbB.size)) hrc HBS.out hcb);have HO2:=ae ((HO.out.below hbB));clear hK hrc hcb hlc hbB hg CP;by_cases hc:bs=cellL kd bd
  ·rw[decide_eq_true hc] at CE
   have HY:Hid (fI bs):=ae (HD.out.2 ⟨by omega,hc⟩);clear hc;go_wp2_with fail;refine CE.out.mono ?_;rintro e wC ⟨rfl,rfl⟩;go_wp2_with fail;go_ret3;exact⟨fun _=>⟨_,rfl,HO2.out.base (ah _)⟩,fun h=>absurd HY.out h,HBB.out⟩
  ·rw[decide_eq_false hc] at CE
   have HNO:Hid (¬fI bs):=ae fun h=>hc (HD.out.1 h).2;clear hc;go_wp2_with fail;refine CE.out.mono ?_;rintro e wC ⟨rfl,rfl⟩;go_wp2_with fail;go_ret3;exact⟨fun h=>absurd h HNO.out,fun _=>rfl,HBB.out⟩
def gA(q:Nat)(l:List Nat)(i:Nat):List Nat:=(l.drop (i*q)).take q++List.replicate (q-((l.drop (i*q)).take q).length) 0
def iH(q:Nat)(l:List Nat):List (List Nat):=(List.range (iB q l.length)).map (gA q l)
theorem ug(q:Nat)(l:List Nat)(i:Nat):(gA q l i).length=q:=by
 unfold gA;rw[aJ,aN];have:((l.drop (i*q)).take q).length≤q:=by rw[aI];omega
 omega
theorem K7{q:Nat}{l:List Nat}(h:By l)(i:Nat):By (gA q l i):=by
 intro x hx;rcases List.mem_append.1 hx with hx | hx
 ·exact h x (List.mem_of_mem_drop (List.mem_of_mem_take hx))
 ·exact By.zeros _ x hx
theorem cnt_lt{q n i:Nat}(hq:1≤q)(hi:i<iB q n):i*q<n:=by
 unfold iB at hi;split at hi
 ·omega
 ·rename_i h0
  have h1:i≤(n-1)/q:=(by omega);have h2:=Nat.mul_le_mul_right q h1;have h3:=Nat.div_mul_le_self (n-1) q;omega
theorem xZ(q n:Nat):iB q n≤n:=by
 unfold iB;split
 ·omega
 ·have:=Nat.div_le_self (n-1) q
  omega
theorem qY(K H Z:Nat)(l:List Nat)(a:Option Addr)(n c:Nat)(w:World)(hk:ed K H Z=true)(hx:Rd w w.heap.size a n (ba l))(hn:n≤1000)(hc:n≤c)(hm:c≤maxLen):
 Calls prog 9 #[bL K H Z,.slice a n c] w fun e w'=>∃v,e=.returned v∧(rM (iH (K*Z) l)).ok w' (Fr w.heap.size) [v]∧Below w.heap.size w w':=by
 have hok:=of_decide_eq_true hk;have hl:l.length=n:=by have:=hx.len;rwa [bg] at this
 have CC:=ae fun w=>ja K H Z n w hk (by omega);have CS:=ae fun w=>kY K H Z w (by omega) (by omega);have hq1:1≤K*Z:=Nat.mul_le_mul (show 1≤K by omega) (show 1≤Z by omega);have hq2:K*Z≤16*24:=Nat.mul_le_mul (by omega) (by omega);have HSP:Hid (iH (K*Z) l=(List.range (iB (K*Z) n)).map (gA (K*Z) l)):=ae (by unfold iH;rw[hl]);have hcl:=ae fun i=>cnt_lt (q:=K*Z) (n:=n) (i:=i) hq1;have hcn:=xZ (K*Z) n
 have S0:Hid (Sx w (w.alloc (.cells #[.int .i64 K,.int .i64 H,.int .i64 Z] 26)) [bu w.heap.size 26 #[.int .i64 K,.int .i64 H,.int .i64 Z],jp a n (ba l)]):=
  ae (((((Sx.nil w).add (jp a n (ba l)) hx).alloc _).add (bu _ _ _) (Blk.new w 26 #[.int .i64 K,.int .i64 H,.int .i64 Z])))
 have hs0:w.heap.size≤(w.alloc (.cells #[.int .i64 K,.int .i64 H,.int .i64 Z] 26)).heap.size:=by simp
 have HL:=ae hl;clear hx hl hok hk;unfold maxLen at hm;unfold bL at CC CS ⊢;generalize iH (K*Z) l=SP at*;generalize K*Z=q at*;have hmk:∀w:World,(Instr.makeSlice 23 (.int .i64 (q:Int)) (.int .i64 (q:Int))).run prog w=.ok (.slice (some ⟨w.heap.size,0,none⟩) q q) (w.alloc (.cells (bn (List.replicate q 0)) 5)):=fun w=>cQ (n:=q) (by omega) w;have hinf:(prog.info? 5).map (·.size)=some 1:=by kernel_rfl
 generalize hcnt:iB q n=N at*;have HN:=ae hcnt;clear hcnt;go_enter func9,ntmps9;go_wp2_with fail;generalize w.alloc (.cells #[.int .i64 K,.int .i64 H,.int .i64 Z] 26)=w0 at*;refine(CC.out _).mono ?_;rintro e w1 ⟨rfl,hb⟩;have HB1:=ae hb;have HO1:Hid (OwnS w1 w0.heap.size 23 1 (Fr w0.heap.size) (.slice none 0 0) (((List.range 0).map (gA q l)).map rB)):=ae (OwnS.nil _ _ _ _ _);clear hb CC;go_wp2_with fail;go_loopw [5,12] (fun v i wr=>∃k:Nat,k≤N∧i=.int .i64 k∧Hid (OwnS wr w0.heap.size 23 1 (Fr w0.heap.size) v (((List.range k).map (gA q l)).map rB))∧Hid (Below w0.heap.size w0 wr)) (fun _ i _=>N-(intOf i).toNat)
 case atStart=>exact⟨0,by omega,rfl,HO1,HB1⟩
 case round=>
  clear HO1 HB1;obtain⟨k,hkn,rfl,HO,HB⟩:=hrel;have S1:=ae (S0.out.step HB.out);obtain⟨bv,nv,cv,rfl⟩:=HO.out.sl;by_cases hlt:k<N
  ·have hltI:(k:Int)<(N:Int):=by omega
   have hkq:=hcl.out k hlt;obtain⟨b,o,ea,hb,-⟩:=(S1.out.rd 1 rfl).2 (by omega);have hfit:(l.drop (k*q)).length=n-k*q:=(by rw[List.length_drop,HL.out]);obtain⟨b',p',ea',hb',hpart⟩:=pG (S1.out.rd 1 rfl) (o:=k*q) (k:=n-k*q) (by omega) (by omega);subst ea;injection ea' with ea';injection ea' with e1 e2 _;subst e1 e2;rw[aO (by rw[hfit];exact ah _)] at hpart;obtain⟨k0,k1,k2⟩:=lC (S1.out.blk 0 rfl);have HRS:Hid (((List.range (k+1)).map (gA q l)).map rB=((List.range k).map (gA q l)).map rB++[rB (gA q l k)]):=ae (by rw[List.range_succ,aW,aW];rfl);have hsl:(((List.range k).map (gA q l)).map rB).length≤1000000:=(by simp;omega);have hmI:(k:Int)*(q:Int)=((k*q:Nat):Int):=(by rw[Int.natCast_mul]);have HBP:Hid (gA q l k=(l.drop (k*q)).take q++List.replicate (q-((l.drop (k*q)).take q).length) 0):=ae rfl;have HBL:=ae (ug q l k);have HPART:=ae hpart;have HFIT:=ae hfit;clear hpart hb' hfit;generalize l.drop (k*q)=D at*;generalize gA q l k=BP at*;generalize k*q=lo at*;go_wp2_with fail;refine(CS.out _).mono ?_;rintro e w2 ⟨rfl,hb2⟩;have S2:=ae (S1.out.step hb2);have HB2:=ae (HB.out.trans (hb2.mono HB.out.size));have HO2:=ae (HO.out.new hb2);have HP2:=ae ((HPART.out.below hb2 (ah _)).more hb2.size);have hsz2:=hb2.size;clear hb2 HO HB S1 HPART k0 k1 k2;have S3:=ae (S2.out.alloc (.cells (bn (List.replicate q 0)) 5));obtain⟨k0,k1,k2⟩:=lC (S3.out.blk 0 rfl);clear S3
   go_wp2_with (simp only[])
   clear k0 k1 k2;have hZ0:=Blk.new w2 5 (bn (List.replicate q 0));have hba:=(az w2.heap.size w2).alloc (ah _) (.cells (bn (List.replicate q 0)) 5);have hsa:(w2.alloc (.cells (bn (List.replicate q 0)) 5)).heap.size=w2.heap.size+1:=(by simp);generalize w2.alloc (.cells (bn (List.replicate q 0)) 5)=w3 at*;refine(CS.out _).mono ?_;rintro e w4 ⟨rfl,hb4⟩;have hZ4:=hZ0.below hb4 hZ0.lt;have hb24:Below w2.heap.size w2 w4:=hba.trans (hb4.mono (by omega));have hP4:=HP2.out.below hb24 (ah _)
   obtain⟨w5,hrun5,hblk5,hg5⟩:=ql (P:=prog) w4 23 3 5 underlying23 hinf w2.heap.size 0 q q (some ⟨b,o+lo,none⟩) (n-lo) (c-lo) (ba (List.replicate q 0)) 5 hZ4 (ba (D.take q))
    (by rw[bg,aI,HFIT.out];exact Nat.min_comm _ _)
    (fun _=>⟨⟨b,o+lo,none⟩,rfl,fun j v hv=>by
      obtain⟨b2,o2,e1,_,hc2⟩:=hP4.2 (by omega);injection e1 with e1;injection e1 with e1 e2 _;subst e1 e2;rw[Addr.add_lit];refine hc2 j v ?_;unfold ba at hv ⊢;rw[List.getElem?_map,List.getElem?_take] at hv;split at hv
      ·rw[List.getElem?_map];exact hv
      ·cases hv⟩)
    (by rw[bg,bg,aN,aI];omega) (gQ _)
   rw[kr] at hblk5
   have hsp:splice (List.replicate q 0) 0 (D.take q)=BP:=by
    rw[HBP.out];unfold splice;rw[List.take_zero,List.nil_append,List.drop_replicate,Nat.zero_add]
   rw[hsp] at hblk5;have hb25:Below w2.heap.size w2 w5:=hb24.grown hg5 hb24.size (fun g hg=>by simp at hg;omega);have hw0:=HB2.out.size
   have HRB:Hid ((rB BP).ok w5 (fun b=>Fr w0.heap.size b∧some b≠(Value.slice bv nv cv).ownBlock) [.slice (some ⟨w2.heap.size,0,none⟩) q q]):=ae (by
    have hbl:BP.length=q:=HBL.out;have:=jJ (F:=fun b=>Fr w0.heap.size b∧some b≠(Value.slice bv nv cv).ownBlock) hblk5 ⟨hw0,fun e=>by have:=(HO2.out.lt _ e.symm).2;omega⟩ (by rw[hbl];unfold maxLen;omega)
    rwa [hbl] at this)
   have HB25:=ae hb25;have S4:=ae (S2.out.step hb24);obtain⟨k0,k1,k2⟩:=lC (S4.out.blk 0 rfl);have hlc:¬c=lo:=(by omega);have hloI:(lo:Int)≤(n:Int):=(by omega);clear hZ0 hba hsa hb4 hZ4 hb24 hP4 hblk5 hg5 hsp hb25 S2 HP2
   go_wp2_with (first
    | simp only[]
    | (at_builtin;refine dJ (w:=w2) (w1:=w5) rfl _ _ rfl underlying33 bQ rfl (by decide) (by decide) HO2.out HB25.out hw0 hsl (R:=rB BP) HRB.out rfl rfl rfl ?_))
   intro v6 w6 hO6 hb6;rw[←HRS.out] at hO6;have HO6:=ae hO6;have HB6:=ae (HB2.out.trans hb6);clear hO6 hb6 HO2 HRB HB25 S4 k0 k1 k2 HB2;obtain⟨b6,n6,c6,rfl⟩:=HO6.out.sl;go_wp2_with fail;go_roundw
   case rel=>(try((repeat apply Exists.intro);refine⟨?_,rfl⟩));exact⟨k+1,by omega,by go_num,HO6,HB6⟩
   case measure=>simp[intOf];omega
  ·obtain rfl:k=N:=by omega
   rw[←HSP.out] at HO;go_wp2_with fail;go_ret;exact⟨_,rfl,(rM _).more HO.out.fr fun b hb _=>aQ hs0 hb,S1.out.1⟩
theorem uf(a:Nat)(ha:a<9223372036854775808):(BitVec.ofInt 64 (a:Int)).toNat=a:=by
 rw[BitVec.ofInt_natCast,BitVec.toNat_ofNat];exact Nat.mod_eq_of_lt (by omega)
theorem BI(a b:Nat)(ha:a<9223372036854775808)(hb:b<9223372036854775808):bits .or .i64 (a:Int) (b:Int)=((a ||| b:Nat):Int):=by
 have hx:a ||| b<2 ^ 63:=Nat.or_lt_two_pow (by omega) (by omega)
 show IntKind.i64.wrap ((BitVec.ofInt 64 (a:Int) ||| BitVec.ofInt 64 (b:Int)).toNat:Int)=_;rw[BitVec.toNat_or,uf a ha,uf b hb,IntKind.wrap_i64];omega
theorem join8(s x:Nat)(hx:x<256):s*256 ||| x=s*256+x:=by
 have h:=Nat.two_pow_add_eq_or_of_lt (i:=8) hx s;rw[Nat.mul_comm] at h;exact h.symm
theorem wR{xs:List Nat}{k:Nat}(h:k<xs.length):dQ (xs.take (k+1))=dQ (xs.take k)*256+xs.getD k 0:=by
 unfold dQ;rw[aP h,List.foldl_append,af,ag h];rfl
theorem K6{xs:List Nat}(hb:By xs):∀k,k≤xs.length→dQ (xs.take k)<256 ^ k:=by
 intro k
 induction k with
 | zero=>intro _;exact Nat.one_pos
 | succ k ih=>
   intro hk;rw[wR (by omega)];have h1:=ih (by omega);have h2:=getD_lt hb k;rw[Nat.pow_succ];omega
theorem zM(xs:List Nat)(B:Nat)(a:Option Addr)(n c:Nat)(w:World)(hx:Rd w B a n (ba xs))(hb:By xs)(hn:n≤4):
 Calls prog 35 #[.slice a n c] w fun e w'=>e=.returned (.int .i64 (dQ xs:Nat))∧∃j,w'=w.drewN j:=by
 have HX:=ae hx;have HB:=ae hb;have HL:Hid (xs.length=n):=ae (by have:=hx.len;rwa [bg] at this);clear hx hb;go_enter func35,ntmps35;go_wp2_with fail;go_loopw [3,8] (fun s i wr=>∃k:Nat,k≤n∧i=.int .i64 k∧s=.int .i64 (dQ (xs.take k):Nat)∧Hid (∃j,wr=w.drewN j)) (fun _ i _=>n-(intOf i).toNat)
 case atStart=>exact⟨0,by omega,rfl,rfl,ae ⟨0,rfl⟩⟩
 case round=>
  obtain⟨k,hk,rfl,rfl,HJ⟩:=hrel;obtain⟨j,hj⟩:=HJ.out;clear HJ;by_cases hkn:k<n
  ·have hknI:(k:Int)<(n:Int):=by omega
   have hkx:k<xs.length:=(by rw[HL.out];exact hkn);obtain⟨b1,o1,rfl,hb1,hcc⟩:=HX.out.atB hkn;have cq:wr.cell? ⟨b1,o1+k,none⟩=some (.int .u8 (xs.getD k 0:Nat)):=(by rw[hj];exact hcc k hkn);have hx256:=getD_lt HB.out k;have HST:=ae (wR hkx);have hlt:=K6 HB.out k (by omega);have hp:256 ^ k≤256 ^ 3:=Nat.pow_le_pow_right (by omega) (by omega);have hlt2:dQ (xs.take k)<16777216:=aY hlt hp;have HJ:Hid (∃j,wr=w.drewN j):=ae ⟨j,hj⟩;clear hcc hj hkx hlt hp;generalize dQ (xs.take k)=s0 at*;generalize xs.getD k 0=x at*;have hor:=BI (s0*256) x (by omega) (by omega);rw[join8 s0 x hx256,←HST.out] at hor;have hor2:bits .or .i64 ((s0:Int)*256) (x:Int)=((dQ (xs.take (k+1)):Nat):Int):=(by rw[←hor];congr 1);generalize hs2:dQ (xs.take (k+1))=s2 at*;have HS2:=ae hs2;clear hor HST hs2;go_wp2_with fail;go_roundw
   case rel=>(try((repeat apply Exists.intro);refine⟨?_,rfl⟩));exact⟨k+1,by omega,by go_num,by rw[HS2.out],HJ⟩
   case measure=>simp[intOf];omega
  ·obtain rfl:k=n:=by omega
   rw[aO (by rw[HL.out];exact ah _)];have HJ:=ae hj;clear hj;go_wp2_with fail;go_ret;exact⟨rfl,j,HJ.out⟩
theorem kS{w:World}{ops:Array Oper}{rest:List Oper}{o:Oper}{a:Act}{Q:Exit→Act→World→Prop}(hgd:o.guard=none)(s x:Operand){C B m c:Nat}{v:Value}{ad:Option Addr}{xs ys:List Nat}
 (ho:o.op=.call { callee:=.builtin .append,args:=#[s,x],argTypes:=#[23,23] })
 (h:OwnB w C v xs)(hC:C≤w.heap.size)(hl:xs.length+m≤1000000)(hs:a.eval s=v)(hx:a.eval x=.slice ad m c)(hnil:ad=none→c=0)(hr:Rd w B ad m (ba ys))
 (K:∀v' w2,OwnB w2 C v' (xs++ys)→Below C w w2→w.grownBy w2 v.ownBlock→(v'.ownBlock=v.ownBlock∨v'.ownBlock=some w.heap.size)→wpList prog ops Q rest (a.put o.dst v') w2):
 wpList prog ops Q (o :: rest) a w:=by
 have hm:m=ys.length:=by rw[←hr.1,bg]
 refine zb (P:=prog) w hgd s x 23 ho C 5 (.int .u8 0) 1 underlying23 iy rfl v xs.length (ba xs) hs h B ad m c (ba ys) hx hnil hr (gQ ys) (by omega) (by unfold maxLen;omega) hC fun v' w2 hown hg hat=> ?_;refine K v' w2 ?_ ((az _ _).grown hg hC fun g hg=>(h.lt g hg).1) hg hat;unfold OwnB;rw[aJ,←hm];have e:ba (xs++ys)=ba xs++ba ys:=by unfold ba;rw[aW]
 rw[e];exact hown
theorem fE{w:World}{ops:Array Oper}{rest:List Oper}{o:Oper}{a:Act}{Q:Exit→Act→World→Prop}(hgd:o.guard=none)(s x:Operand){C y:Nat}{i:Int}{v:Value}{xs:List Nat}(hi:i=(y:Int))
 (ho:o.op=.call { callee:=.builtin .append,args:=#[s,x],argTypes:=#[23,23] })
 (h:OwnB w C v xs)(hC:C≤w.heap.size)(hl:xs.length≤1000000)(hs:a.eval s=v)(hx:a.eval x=.slice (some ⟨w.heap.size,0,none⟩) 1 1)
 (K:∀v' w2,OwnB w2 C v' (xs++[y])→Below C w w2→wpList prog ops Q rest (a.put o.dst v') w2):
 wpList prog ops Q (o :: rest) a (w.alloc (.cells #[.int .u8 i] 5)):=by
 subst hi;have hba:=(az w.heap.size w).alloc (ah _) (.cells #[.int .u8 (y:Int)] 5);have h1:=h.below hba;have hC1:=aQ hC hba.size;have hcell:=dO w #[.int .u8 (y:Int)] 5 0;have hbC:=hba.mono hC;generalize w.alloc (.cells #[.int .u8 (y:Int)] 5)=w1 at*;refine jo (P:=prog) w1 hgd s x 23 ho C 5 (.int .u8 0) 1 underlying23 iy rfl v xs.length (ba xs) hs h1 w.heap.size (.int .u8 (y:Int)) hx hcell rfl (by omega) (by unfold maxLen;omega) hC1 fun v' w2 hown hg hat=> ?_;refine K v' w2 ?_ (hbC.trans ((az _ _).grown hg hC1 fun g hg=>(h1.lt g hg).1));unfold OwnB;rw[aJ];have e:ba (xs++[y])=ba xs++[.int .u8 (y:Int)]:=by unfold ba;rw[aW];rfl
 rw[e];exact hown
theorem Ir(n:Nat):∀(s j:Nat),j<s→(bC n s).getD (s-1-j) 0=n/256 ^ j%256:=by
 intro s
 induction s with
 | zero=>intro j h;omega
 | succ s ih=>
   intro j h;by_cases hj:j=s
   ·subst hj;rw[show j+1-1-j=0 by omega];rfl
   ·rw[show s+1-1-j=(s-1-j)+1 by omega]
    exact ih j (by omega)
theorem qz(n s m:Nat)(hm:m<s):(bC n s).take (s-m)=(bC n s).take (s-(m+1))++[n/256 ^ m%256]:=by
 have hk:s-(m+1)<(bC n s).length:=by rw[bO];omega
 have e:s-m=s-(m+1)+1:=by omega
 rw[e,aP hk];congr 2;have:=Ir n s m hm;rw[show s-1-m=s-(m+1) by omega,af,ag hk] at this;exact this
theorem vI(v:Value)(xs:List Nat)(C n s:Nat)(w:World)(ho:OwnB w C v xs)(hC:C≤w.heap.size)(hn:n<4294967296)(hs:s≤4)(hl:xs.length≤1000):
 Calls prog 32 #[v,.int .i64 n,.int .i64 s] w fun e w'=>∃v',e=.returned v'∧OwnB w' C v' (xs++bC n s)∧Below C w w':=by
 have HO0:Hid (OwnB w C v (xs++(bC n s).take (s-s))):=ae (by rw[Nat.sub_self,List.take_zero,List.append_nil];exact ho);have HB0:Hid (Below C w w):=ae (az _ _);have hs1:IntKind.i64.wrap ((s:Int)-1)=(s:Int)-1:=by rw[IntKind.wrap_i64];omega
 obtain⟨a0,c0,rfl,-⟩:=ho.rd;clear ho;go_enter func32,ntmps32;go_wp2_with fail;go_loopw [0,7] (fun u i wr=>∃m:Nat,m≤s∧i=.int .i64 ((m:Int)-1)∧Hid (OwnB wr C u (xs++(bC n s).take (s-m)))∧Hid (Below C w wr)) (fun _ i _=>(intOf i+1).toNat)
 case atStart=>exact⟨s,ah _,rfl,HO0,HB0⟩
 case round=>
  clear HO0 HB0 hs1;obtain⟨m,hm,rfl,HO,HB⟩:=hrel;have hCw:C≤wr.heap.size:=aQ hC HB.out.size;by_cases hm0:m=0
  ·subst hm0
   rw[Nat.sub_zero,aO (by rw[bO];exact ah _)] at HO;generalize hLe:xs++bC n s=L at*;have HLE:=ae hLe;clear hLe;obtain⟨au,cu,rfl,-⟩:=HO.out.rd;go_wp2_with fail;go_ret;exact⟨_,rfl,by rw[HLE.out];exact HO.out,HB.out⟩
  ·obtain⟨q,rfl⟩:∃q,m=q+1:=⟨m-1,by omega⟩
   have hml:(xs++(bC n s).take (s-(q+1))).length≤1000000:=(by rw[aJ,aI,bO];omega);have HT:Hid (xs++(bC n s).take (s-q)=xs++(bC n s).take (s-(q+1))++[n/256 ^ q%256]):=ae (by rw[qz n s q (by omega),List.append_assoc]);generalize xs++(bC n s).take (s-(q+1))=L at*;obtain⟨au,cu,rfl,-⟩:=HO.out.rd;have hcase:q=0∨q=1∨q=2∨q=3:=(by omega);rcases hcase with rfl | rfl | rfl | rfl
   ·go_wp2_with (at_builtin;refine fE (w:=wr) (C:=C) (y:=n%256) rfl _ _ ?hi rfl HO.out hCw hml rfl rfl ?_)
    case hi=>omega
    intro v2 w2 hO2 hb2;have HO2:Hid (OwnB w2 C v2 (xs++(bC n s).take (s-0))):=ae (by rw[HT.out,show n/256 ^ 0%256=n%256 by simp];exact hO2);have HB2:=ae (HB.out.trans hb2);clear hO2 hb2 HO HB HT;go_wp2_with fail;go_roundw
    case rel=>(try((repeat apply Exists.intro);refine⟨?_,rfl⟩));exact⟨0,by omega,by go_num,HO2,HB2⟩
    case measure=>simp[intOf]
   ·go_wp2_with (at_builtin;refine fE (w:=wr) (C:=C) (y:=n/256%256) rfl _ _ ?hi rfl HO.out hCw hml rfl rfl ?_)
    case hi=>omega
    intro v2 w2 hO2 hb2;have HO2:Hid (OwnB w2 C v2 (xs++(bC n s).take (s-1))):=ae (by rw[HT.out,show n/256 ^ 1%256=n/256%256 by simp];exact hO2);have HB2:=ae (HB.out.trans hb2);clear hO2 hb2 HO HB HT;go_wp2_with fail;go_roundw
    case rel=>(try((repeat apply Exists.intro);refine⟨?_,rfl⟩));exact⟨1,by omega,by go_num,HO2,HB2⟩
    case measure=>simp[intOf]
   ·go_wp2_with (at_builtin;refine fE (w:=wr) (C:=C) (y:=n/65536%256) rfl _ _ ?hi rfl HO.out hCw hml rfl rfl ?_)
    case hi=>omega
    intro v2 w2 hO2 hb2;have HO2:Hid (OwnB w2 C v2 (xs++(bC n s).take (s-2))):=ae (by rw[HT.out,show n/256 ^ 2%256=n/65536%256 by simp];exact hO2);have HB2:=ae (HB.out.trans hb2);clear hO2 hb2 HO HB HT;go_wp2_with fail;go_roundw
    case rel=>(try((repeat apply Exists.intro);refine⟨?_,rfl⟩));exact⟨2,by omega,by go_num,HO2,HB2⟩
    case measure=>simp[intOf]
   ·go_wp2_with (at_builtin;refine fE (w:=wr) (C:=C) (y:=n/16777216%256) rfl _ _ ?hi rfl HO.out hCw hml rfl rfl ?_)
    case hi=>omega
    intro v2 w2 hO2 hb2;have HO2:Hid (OwnB w2 C v2 (xs++(bC n s).take (s-3))):=ae (by rw[HT.out,show n/256 ^ 3%256=n/16777216%256 by simp];exact hO2);have HB2:=ae (HB.out.trans hb2);clear hO2 hb2 HO HB HT;go_wp2_with fail;go_roundw
    case rel=>(try((repeat apply Exists.intro);refine⟨?_,rfl⟩));exact⟨3,by omega,by go_num,HO2,HB2⟩
    case measure=>simp[intOf]
end Go.Proofs.YtofgapdnadbgkaaGreatDoor
