import Derived.Test.YtofgapdnadbgkaaGreatDoorW21
import Derived.Lib.SliceRun
set_option linter.unusedVariables false
set_option maxRecDepth 100000
set_option maxHeartbeats 400000000
namespace Go.Proofs.YtofgapdnadbgkaaGreatDoor
open Go.RowKit _root_.Go.Proofs.Tryz
def Mo(w:World)(B:Nat)(p:Nat→Bool)(xs:List Nat):Prop:=∀x∈xs,Calls prog 143 #[.int .i64 (x:Nat),.pointer (some ⟨B,0,none⟩)] w fun e w'=>e=.returned (.bool (p x))∧∃j,w'=w.drewN j
theorem Ao(B n c:Nat)(a:Option Addr)(xs:List Nat)(p:Nat→Bool)(w:World)(hx:Rd w w.heap.size a n (bf xs))(hf:∀j,Mo (w.drewN j) B p xs)(hn:n≤1000000):
 Calls prog 189 #[.slice a n c,.func (.func 143) #[] #[.pointer (some ⟨B,0,none⟩)]] w fun e w'=>(∃z:Int,e=.returned (.int .i64 z)∧((z= -1∧∀i,i<n→p (xs.getD i 0)=false)∨∃i:Nat,z=(i:Int)∧i<n∧p (xs.getD i 0)=true∧∀k,k<i→p (xs.getD k 0)=false))∧∃j,w'=w.drewN j:=by
 have hl:xs.length=n:=by have:=hx.len;simpa[bf] using this
 have HX:=ae hx;have HF:=ae hf;have HL:=ae hl;clear hx hf hl;go_enter func189,ntmps189;go_wp2_with fail;go_loopw [8] (fun i wr=>∃k:Nat,k≤n∧i=.int .i64 k∧Hid (∀i,i<k→p (xs.getD i 0)=false)∧Hid (∃j,wr=w.drewN j)) (fun i _=>n-(intOf i).toNat)
 case atStart=>exact⟨0,by omega,rfl,ae fun i h=>absurd h (by omega),ae ⟨0,rfl⟩⟩
 case round=>
  obtain⟨k,hk,rfl,H0,HJ⟩:=hrel;obtain⟨j,hj⟩:=HJ.out;clear HJ;by_cases hlt:k<n
  ·obtain⟨bx,ox,rfl,_,hcx⟩:=gJ HX.out hlt
   have cx:wr.cell? ⟨bx,ox+k,none⟩=some (.int .i64 (xs.getD k 0:Nat)):=(by rw[hj];exact hcx);have hm:xs.getD k 0∈xs:=(by rw[getD_at (by rw[HL.out];exact hlt)];exact aU _);have CL:=ae (HF.out j _ hm);rw[←hj] at CL;clear hcx hm;generalize hg:xs.getD k 0=x at*;have HGX:=ae hg;have hlt':(k:Int)<(n:Int):=(by omega);have HJ:=ae hj;clear hj hg;cases hpx:p x with
   | false=>
     rw[hpx] at CL;have HP:=ae hpx;clear hpx;go_wp2_with fail;refine CL.out.mono ?_;rintro e w2 ⟨rfl,i,hw2⟩;have HJ2:Hid (∃j,w2=w.drewN j):=ae ⟨j+i,by rw[hw2,HJ.out,World.drewN_drewN]⟩
     have HN0:Hid (∀i,i<k+1→p (xs.getD i 0)=false):=ae fun i h=>by
      rcases Nat.lt_succ_iff_lt_or_eq.1 h with h1 | rfl
      ·exact H0.out i h1
      ·rw[HGX.out];exact HP.out
     clear hw2;go_wp2_with fail;go_roundw
     case rel=>(try((repeat apply Exists.intro);refine⟨?_,rfl⟩));exact⟨k+1,by omega,by go_num,HN0,HJ2⟩
     case measure=>simp[intOf];omega
   | true=>
     rw[hpx] at CL;have HP:=ae hpx;clear hpx;go_wp2_with fail;refine CL.out.mono ?_;rintro e w2 ⟨rfl,i,hw2⟩;have HJ2:Hid (∃j,w2=w.drewN j):=ae ⟨j+i,by rw[hw2,HJ.out,World.drewN_drewN]⟩;clear hw2;go_wp2_with fail;go_ret;exact⟨⟨_,rfl,.inr ⟨k,rfl,hlt,by rw[HGX.out];exact HP.out,H0.out⟩⟩,HJ2.out⟩
  ·obtain rfl:k=n:=by omega
   have HJ:=ae hj;clear hj;go_wp2_with fail;go_ret;exact⟨⟨-1,rfl,.inl ⟨rfl,H0.out⟩⟩,j,HJ.out⟩
theorem j6{α:Type}{p:α→Bool}{l:List α}{j:Nat}(h:j<l.length):(l.take (j+1)).filter p=(l.take j).filter p++if p l[j]=true then [l[j]] else []:=by
 rw[aP h,List.filter_append,List.filter_cons];split <;> simp
theorem nM{α:Type}{l:List α}{i:Nat}(h:i<l.length)(u:α):(l.set i u).take (i+1)=l.take i++[u]:=by
 rw[aP (by rw[List.length_set];exact h),List.getElem_set_self,List.take_set_of_le (ah _)]
theorem ry{α:Type}{l:List α}{i j:Nat}(h:i<j)(u:α):(l.set i u).drop j=l.drop j:=by
 rw[List.drop_set,if_pos h]
theorem Ed{w w':World}{C e k n m cap g:Nat}{xs ys:List Value}(h:w.ownsRow C e k (.slice (some ⟨g,0,none⟩) n cap) n xs)(hm:m≤n)(hw:∃cur cur':Array Value,w.heap[g]? =some (.cells cur e (0,0))∧w'.heap[g]? =some (.cells cur' e (0,0))∧cur'.size=cur.size∧∀i,i<m*k→cur'[i]? =cur[i]?)(hy:ys=xs.take (m*k)):w'.ownsRow C e k (.slice (some ⟨g,0,none⟩) m cap) m ys:=by
 obtain⟨h1,h2⟩:=h;rcases h2 with⟨e1,_⟩ | ⟨g',cap',cur,e1,hg,hh,h3,h4,h5,h6⟩
 ·cases e1
 ·injection e1 with e1 e2 e3
  injection e1 with e1;injection e1 with e1 _ _;subst e1 e3;obtain⟨c1,c2,a1,a2,a3,a4⟩:=hw;rw[hh] at a1;injection a1 with a1;injection a1 with a1 _ _;subst a1;have hmk:m*k≤n*k:=Nat.mul_le_mul_right k hm;refine⟨by rw[hy,aI,h1];omega,.inr ⟨g,cap,c2,rfl,hg,a2,by omega,h4,by rw[a3];exact h5,?_⟩⟩;rw[hy,←h6,List.take_take,Nat.min_eq_left hmk];apply List.ext_getElem?;intro i;rw[List.getElem?_take,List.getElem?_take];split
  ·rename_i hi
   have:=a4 i hi;simpa using this
  ·rfl
theorem nN{b:Nat}{e:TypeId}:∀(vs:List Value) (o:Nat) (w:World) (cur:Array Value),w.heap[b]? =some (.cells cur e (0,0))→∃cur':Array Value,(w.setCells b o vs).heap[b]? =some (.cells cur' e (0,0))∧cur'.size=cur.size∧∀i,i<o→cur'[i]? =cur[i]? :=by
 intro vs
 induction vs with
 | nil=>intro o w cur h;exact⟨cur,h,rfl,fun _ _=>rfl⟩
 | cons v vs ih=>
   intro o w cur h;obtain⟨c',h1,h2,h3⟩:=ih (o+1) (w.setCell ⟨b,o,none⟩ v) _ (heap_setCell_same w b o cur e v h);refine⟨c',h1,by rw[h2];simp,fun i hi=> ?_⟩;rw[h3 i (by omega),Array.getElem?_setIfInBounds,if_neg (by omega)]
theorem pR{b k:Nat}(hk:k≠b):∀(vs:List Value) (o:Nat) (w:World),(w.setCells b o vs).heap[k]? =w.heap[k]? :=by
 intro vs
 induction vs with
 | nil=>intro o w;rfl
 | cons v vs ih=>intro o w;exact(ih (o+1) _).trans (aZ _ _ _ _ hk)
structure Sz0 (w w':World):Prop where
 sz:w'.heap.size=w.heap.size
 bl:Below 0 w w'
theorem Sz0.refl(w:World):Sz0 w w:=⟨rfl,az _ _⟩
theorem Sz0.dr{w w1:World}(h:Sz0 w w1)(q:Nat):Sz0 w (w1.drewN q):=⟨h.sz,below_drewN h.bl q⟩
theorem Sz0.set{w w1:World}(h:Sz0 w w1)(p:Addr)(u:Value):Sz0 w (w1.setCell p u):=⟨by simpa using h.sz,h.bl.setCell (Nat.zero_le _) u⟩
theorem Sz0.cells{w w1:World}(h:Sz0 w w1)(b o:Nat)(vs:List Value):Sz0 w (w1.setCells b o vs):=by
 induction vs generalizing o w1 with
 | nil=>exact h
 | cons v vs ih=>exact ih (h.set ⟨b,o,none⟩ v) (o+1)
theorem yB{w w1:World}(h:Below 0 w w1)(b o:Nat)(vs:List Value):Below 0 w (w1.setCells b o vs):=by
 induction vs generalizing o w1 with
 | nil=>exact h
 | cons v vs ih=>exact ih (h.setCell (p:=⟨b,o,none⟩) (Nat.zero_le _) v) (o+1)
theorem yC(B C n c:Nat)(a:Option Addr)(xs:List Nat)(p:Nat→Bool)(w:World)(hx:OwnI w C (.slice a n c) xs)(hl:xs.length=n)(hC:C≤w.heap.size)
 (hf:∀w',(∀b,b<w.heap.size→some b≠(Value.slice a n c).ownBlock→w'.heap[b]? =w.heap[b]?)→Mo w' B p xs)(hn:n≤1000000):
 Calls prog 109 #[.slice a n c,.func (.func 143) #[] #[.pointer (some ⟨B,0,none⟩)]] w fun e w'=>∃m,e=.returned (.slice a m c)∧OwnI w' C (.slice a m c) (xs.filter fun x=> !p x)∧Sz0 w w'∧∀b,some b≠(Value.slice a n c).ownBlock→w'.heap[b]? =w.heap[b]? :=by
 have hRd:Rd w w.heap.size a n (bf xs):=by
  obtain⟨a',c',e,h,_⟩:=hx.rd2 hl;injection e with e1 _ _;subst e1;exact h
 have CI:=ae (Ao B n c a xs p w hRd (fun j=>hf _ fun b _ _=>rfl) hn);have HF:=ae hf;have HL:=ae hl;have HO:=ae hx;clear hRd hf hl hx;go_enter func109,ntmps109;go_wp2_with fail;refine CI.out.mono ?_;rintro e w1 ⟨⟨z,rfl,hz⟩,j,hw1⟩;have HW1:=ae hw1;clear hw1 CI;rcases hz with⟨rfl,hno⟩ | ⟨i,rfl,hin,hpi,hno⟩
 ·have HNO:=ae hno
  clear hno;go_wp2_with fail;go_ret
  have hfl:xs.filter (fun x=> !p x)=xs:=List.filter_eq_self.2 fun x hx=>by
   obtain⟨i,hi,rfl⟩:=List.getElem_of_mem hx;have:=HNO.out i (by rw[←HL.out];exact hi);rw[getD_at hi] at this;rw[this];rfl
  refine⟨n,rfl,by rw[hfl,HW1.out];exact HO.out,by rw[HW1.out];exact(Sz0.refl w).dr _,fun b _=>by rw[HW1.out];rfl⟩
 ·obtain⟨g,rfl,hgC,hgs⟩:=HO.out.formA HL.out (by omega)
  have hcap:n≤c∧c≤maxLen:=by
   rcases HO.out.2 with⟨e1,_⟩ | ⟨g',cap',cur,e1,hg,hh,h3,h4,h5,h6⟩
   ·cases e1
   ·injection e1 with _ _ e3
    subst e3;rw[←HL.out];exact⟨h3,h4⟩
  have HQ0:Hid (∃ys:List Nat,ys.length=n∧OwnI w1 C (.slice (some ⟨g,0,none⟩) n c) ys∧ys.take i=(xs.take (i+1)).filter (fun x=> !p x)∧ys.drop (i+1)=xs.drop (i+1)∧Sz0 w w1∧∀b,b≠g→w1.heap[b]? =w.heap[b]?):=ae ⟨xs,HL.out,by rw[HW1.out];exact HO.out,by
   rw[j6 (by rw[HL.out];exact hin),List.filter_eq_self.2 fun x hx=> ?_]
   ·rw[getD_at (by rw[HL.out];exact hin)] at hpi
    rw[hpi];simp
   ·obtain⟨k,hk,rfl⟩:=List.getElem_of_mem hx
    rw[aI] at hk;have:=hno k (by omega);rw[getD_at (by omega)] at this;rw[List.getElem_take,this];rfl,rfl,by rw[HW1.out];exact(Sz0.refl w).dr _,fun b _=>by rw[HW1.out];rfl⟩
  clear hpi hno HW1 HO;go_wp2_with fail;go_loopw [5,6] (fun u v wr=>∃i j:Nat,i<j∧j≤n∧u=.int .i64 i∧v=.int .i64 j∧Hid (∃ys:List Nat,ys.length=n∧OwnI wr C (.slice (some ⟨g,0,none⟩) n c) ys∧ys.take i=(xs.take j).filter (fun x=> !p x)∧ys.drop j=xs.drop j∧Sz0 w wr∧∀b,b≠g→wr.heap[b]? =w.heap[b]?)) (fun _ v _=>n-(intOf v).toNat)
  case atStart=>exact⟨i,i+1,by omega,by omega,rfl,by go_num,HQ0⟩
  case round=>
   clear HQ0 hin;obtain⟨i,j,hij,hjn,rfl,rfl,HQ⟩:=hrel;obtain⟨ys,hyl,hO,ht,hd,hs,hk⟩:=HQ.out;by_cases hlt:j<n
   ·have hltI:(j:Int)<(n:Int):=by omega
    have hiI:(i:Int)<(n:Int):=(by omega);obtain⟨cj,fj⟩:=hO.cellA hyl hlt;obtain⟨ci,fi⟩:=hO.cellA hyl (show i<n by omega)
    have hjx:ys.getD j 0=xs.getD j 0:=by
     have h1:(ys.drop j)[0]? =(xs.drop j)[0]? :=(by rw[hd]);rw[List.getElem?_drop,List.getElem?_drop,Nat.add_zero] at h1;rw[af,af,h1]
    rw[hjx] at cj;have hjl:j<xs.length:=(by rw[HL.out];exact hlt);have hm:xs.getD j 0∈xs:=(by rw[getD_at hjl];exact aU _);have CF:=ae (HF.out wr (fun b _ hb=>hk b (fun e=>hb (by rw[e];rfl))) _ hm);have HT:=ae (j6 (p:=fun x=> !p x) hjl);rw[←getD_at hjl] at HT;have hd2:ys.drop (j+1)=xs.drop (j+1):=(by rw[←List.drop_drop,hd,List.drop_drop]);have HYT:=ae ht;have HD:=ae hd2;have HO:=ae hO;have HY:=ae hyl;have HS:=ae hs;have HK:=ae hk;clear hjx hm hjl hd2 ht hd hO hyl hs hk HQ;generalize xs.getD j 0=x at*;generalize ys.getD i 0=yo at*;cases hpx:p x with
    | true=>
      rw[hpx] at CF;have HP:=ae hpx;clear hpx ci fi;go_wp2_with fail;refine CF.out.mono ?_;rintro e w2 ⟨rfl,q,hw2⟩;have HQn:Hid (∃ys:List Nat,ys.length=n∧OwnI w2 C (.slice (some ⟨g,0,none⟩) n c) ys∧ys.take i=(xs.take (j+1)).filter (fun x=> !p x)∧ys.drop (j+1)=xs.drop (j+1)∧Sz0 w w2∧∀b,b≠g→w2.heap[b]? =w.heap[b]?):=ae ⟨ys,HY.out,by rw[hw2];exact HO.out,by rw[HT.out,HP.out,HYT.out];simp,HD.out,by rw[hw2];exact HS.out.dr _,fun b hb=>by rw[hw2];exact HK.out b hb⟩;clear hw2 HO HS HK CF;go_wp2_with fail;go_roundw
      case rel=>(try((repeat apply Exists.intro);refine⟨?_,rfl⟩));exact⟨i,j+1,by omega,by omega,rfl,by go_num,HQn⟩
      case measure=>simp[intOf];omega
    | false=>
      rw[hpx] at CF;have HP:=ae hpx;clear hpx;go_wp2_with fail;refine CF.out.mono ?_;rintro e w2 ⟨rfl,q,hw2⟩;have ci2:w2.cell? ⟨g,i,none⟩=some (.int .i64 yo):=(by rw[hw2];exact ci);have fi2:w2.frozen? ⟨g,i,none⟩=false:=(by rw[hw2];exact fi);have HQn:Hid (∃ys:List Nat,ys.length=n∧OwnI (w2.setCell ⟨g,i,none⟩ (.int .i64 x)) C (.slice (some ⟨g,0,none⟩) n c) ys∧ys.take (i+1)=(xs.take (j+1)).filter (fun x=> !p x)∧ys.drop (j+1)=xs.drop (j+1)∧Sz0 w (w2.setCell ⟨g,i,none⟩ (.int .i64 x))∧∀b,b≠g→(w2.setCell ⟨g,i,none⟩ (.int .i64 x)).heap[b]? =w.heap[b]?):=ae ⟨ys.set i x,by rw[List.length_set];exact HY.out,by rw[hw2];exact OwnI.storedA (w:=w2.drewN 0) (by rw[hw2];exact HO.out) HY.out i x |> (fun h=>by rw[hw2] at h;exact h),by rw[nM (by rw[HY.out];omega),HT.out,HP.out,HYT.out];simp,by rw[ry (by omega)];exact HD.out,by rw[hw2];exact(HS.out.dr _).set _ _,fun b hb=>(aZ _ _ _ _ hb).trans (by rw[hw2];exact HK.out b hb)⟩;clear hw2 HO HS HK CF ci fi;go_wp2_with fail;go_roundw
      case rel=>(try((repeat apply Exists.intro);refine⟨?_,rfl⟩));exact⟨i+1,j+1,by omega,by omega,by go_num,by go_num,HQn⟩
      case measure=>simp[intOf];omega
   ·obtain rfl:j=n:=by omega
    have hic:(i:Int)≤(c:Int):=(by omega);have hicn:¬c=i:=by omega
    have hcl:∀ty,(Builtin.clear_ #[24] ty #[.slice (some ⟨g,i,none⟩) (j-i) (c-i)]).run prog wr=.ok (.tuple #[]) (wr.setCells g i (List.replicate (j-i) (.int .i64 0))):=
     fun ty=>Lib.run_clear_slice wr _ 3 ty _ underlying24 Tryz.zeroValue3 rfl rfl g i _ _ (by omega) (fun t ht=>by rw[(hO.cellA hyl (show i+t<j by omega)).1];rfl) (fun t ht=>(hO.cellA hyl (show i+t<j by omega)).2)
    have hxj:xs.take j=xs:=aO (by rw[HL.out];exact ah _);rw[hxj] at ht;clear hxj;have hlen:(xs.filter fun x=> !p x).length=i:=by rw[←ht,aI,hyl];omega
    have HFin:Hid (∃m,Value.slice (some ⟨g,0,none⟩) i c=.slice (some ⟨g,0,none⟩) m c∧OwnI (wr.setCells g i (List.replicate (j-i) (.int .i64 0))) C (.slice (some ⟨g,0,none⟩) m c) (xs.filter fun x=> !p x)∧Sz0 w (wr.setCells g i (List.replicate (j-i) (.int .i64 0)))∧∀b,some b≠(Value.slice (some ⟨g,0,none⟩) j c).ownBlock→(wr.setCells g i (List.replicate (j-i) (.int .i64 0))).heap[b]? =w.heap[b]?):=ae (by
     refine⟨i,rfl,?_,hs.cells _ _ _,fun b hb=>(pR (fun e=>hb (by rw[e];rfl)) _ _ _).trans (hk b (fun e=>hb (by rw[e];rfl)))⟩;unfold OwnI at hO ⊢;rw[hyl] at hO;rw[hlen];have hO':=hO;obtain⟨h1,⟨e1,_⟩ | ⟨g',cap',cur,e1,hg,hh,h3,h4,h5,h6⟩⟩:=hO'
     ·cases e1
     ·injection e1 with e1 e2 e3
      injection e1 with e1;injection e1 with e1 _ _;subst e1;obtain⟨cur',d1,d2,d3⟩:=nN (List.replicate (j-i) (.int .i64 0)) i wr cur hh;refine Ed hO (by omega) ⟨cur,cur',hh,d1,d2,fun q hq=>d3 q (by omega)⟩ ?_;rw[Nat.mul_one,←ht];unfold bf;rw[List.map_take])
    have HCL:=hcl;clear hcl ht hlen hyl hO hd hs hk HQ HF HL;go_wp2_with fail;go_ret;exact HFin.out.elim fun m h=>⟨m,by rw[h.1];rfl,h.2⟩
def iC(ys:List (Nat×Nat)):List Value:=ys.flatMap fun s=>[.int .i64 s.1,.int .i64 s.2]
theorem iF(s:Nat×Nat)(ys:List (Nat×Nat)):iC (s :: ys)=.int .i64 (s.1:Nat) :: .int .i64 (s.2:Nat) :: iC ys:=rfl
theorem iG(ys:List (Nat×Nat)):(iC ys).length=ys.length*2:=by
 induction ys with
 | nil=>rfl
 | cons s ys ih=>rw[iF,List.length_cons,List.length_cons,ih,List.length_cons];omega
theorem mi{ys:List (Nat×Nat)}:∀ {i:Nat},i<ys.length→(iC ys)[i*2]? =some (.int .i64 ((ys.getD i (0,0)).1:Nat))∧(iC ys)[i*2+1]? =some (.int .i64 ((ys.getD i (0,0)).2:Nat)):=by
 induction ys with
 | nil=>intro i h;simp at h
 | cons s ys ih=>
   intro i h;cases i with
   | zero=>exact⟨rfl,rfl⟩
   | succ i=>
     have:=ih (i:=i) (by simpa using h);rw[iF,show(i+1)*2=i*2+1+1 by omega];exact this
theorem Fh{ys:List (Nat×Nat)}(x:Nat×Nat):∀ {i:Nat},((iC ys).set (i*2) (.int .i64 (x.1:Nat))).set (i*2+1) (.int .i64 (x.2:Nat))=iC (ys.set i x):=by
 induction ys with
 | nil=>intro i;rfl
 | cons s ys ih=>
   intro i;cases i with
   | zero=>rfl
   | succ i=>
     rw[show(i+1)*2=i*2+1+1 by omega,List.set_cons_succ,iF,iF,List.set_cons_succ,List.set_cons_succ,List.set_cons_succ,List.set_cons_succ,ih]
theorem Bw{ys:List (Nat×Nat)}:∀ {i:Nat},iC (ys.take i)=(iC ys).take (i*2):=by
 induction ys with
 | nil=>intro i;simp[iC]
 | cons s ys ih=>
   intro i;cases i with
   | zero=>rfl
   | succ i=>rw[show(i+1)*2=i*2+1+1 by omega,List.take_succ_cons,iF,iF,List.take_succ_cons,List.take_succ_cons,ih]
theorem kH{l:List (Nat×Nat)}{i:Nat}(h:i<l.length):l.getD i (0,0)=l[i]:=by rw[af,ag h];rfl
def OwnT(w:World)(C:Nat)(v:Value)(ys:List (Nat×Nat)):Prop:=w.ownsRow C 216 2 v ys.length (iC ys)
theorem KS{w:World}{B n:Nat}{a:Option Addr}{ys:List (Nat×Nat)}(h:Rd w B a (n*2) (iC ys)){k:Nat}(hk:k<n):∃b o,a=some ⟨b,o,none⟩∧b<B∧w.cell? ⟨b,o+k*2,none⟩=some (.int .i64 ((ys.getD k (0,0)).1:Nat))∧w.cell? ⟨b,o+k*2+1,none⟩=some (.int .i64 ((ys.getD k (0,0)).2:Nat)):=by
 have hl:ys.length=n:=by have:=h.len;rw[iG] at this;omega
 obtain⟨b,o,e,hb,hc⟩:=h.2 (by omega);obtain⟨h1,h2⟩:=mi (ys:=ys) (i:=k) (by omega);exact⟨b,o,e,hb,hc _ _ h1,hc _ _ h2⟩
theorem OwnT.rdT{w:World}{C n c:Nat}{a:Option Addr}{ys:List (Nat×Nat)}(h:OwnT w C (.slice a n c) ys)(hl:ys.length=n):Rd w w.heap.size a (n*2) (iC ys):=by
 obtain⟨h1,⟨e1,h0⟩ | ⟨g',cap',cur,e1,hg,hh,h3,h4,h5,h6⟩⟩:=h
 ·exact⟨by rw[iG,hl],fun hp=>by omega⟩
 ·injection e1 with e1 _ _
  subst e1;refine⟨by rw[iG,hl],fun _=>⟨g',0,rfl,(Array.getElem?_eq_some_iff.1 hh).1,fun i u hu=> ?_⟩⟩;rw[Nat.zero_add,cell_of_row w g' i cur _ (0,0) hh];rw[←h6,List.getElem?_take] at hu;split at hu
  ·simpa using hu
  ·cases hu
theorem OwnT.formT{w:World}{C n c:Nat}{a:Option Addr}{l:List (Nat×Nat)}(h:OwnT w C (.slice a n c) l)(hl:l.length=n)(h0:0<n):∃g,a=some ⟨g,0,none⟩∧C≤g∧g<w.heap.size:=by
 unfold OwnT at h;rw[hl] at h;obtain⟨g,cap,e,h1,h2⟩:=World.ownsRow.form h (by omega);injection e with e e2 e3;exact⟨g,e,h1,h2⟩
theorem OwnT.cellT{w:World}{C g n c:Nat}{l:List (Nat×Nat)}(h:OwnT w C (.slice (some ⟨g,0,none⟩) n c) l)(hl:l.length=n){k:Nat}(hk:k<n):w.cell? ⟨g,k*2,none⟩=some (.int .i64 ((l.getD k (0,0)).1:Nat))∧w.cell? ⟨g,k*2+1,none⟩=some (.int .i64 ((l.getD k (0,0)).2:Nat))∧w.frozen? ⟨g,k*2,none⟩=false∧w.frozen? ⟨g,k*2+1,none⟩=false:=by
 unfold OwnT at h;rw[hl] at h;obtain⟨h1,h2⟩:=mi (ys:=l) (i:=k) (by omega);exact⟨(h.cellAt _ (by omega)).trans h1,(h.cellAt _ (by omega)).trans h2,h.frozenAt _,h.frozenAt _⟩
theorem OwnT.storedT{w:World}{C g n c:Nat}{l:List (Nat×Nat)}(h:OwnT w C (.slice (some ⟨g,0,none⟩) n c) l)(hl:l.length=n)(k:Nat)(x:Nat×Nat):
 OwnT ((w.setCell ⟨g,k*2,none⟩ (.int .i64 (x.1:Nat))).setCell ⟨g,k*2+1,none⟩ (.int .i64 (x.2:Nat))) C (.slice (some ⟨g,0,none⟩) n c) (l.set k x):=by
 unfold OwnT at h ⊢;rw[hl] at h;rw[List.length_set,hl,←Fh];exact((h.stored _ _).1.stored _ _).1
theorem Iz(n:Nat):(Builtin.zeroCells #[Value.int .i64 0,.int .i64 0] n).toList=List.replicate (n*2) (Value.int .i64 0):=by
 apply List.ext_getElem
 ·simp[Builtin.zeroCells]
 ·intro i h1 h2
  simp[Builtin.zeroCells];rcases Nat.mod_two_eq_zero_or_one i with h | h <;> simp[h]
theorem zu(w:World)(ty:TypeId)(b o n c:Nat)(hn:0<n)(hc:∀j,j<n*2→(w.cell? ⟨b,o+j,none⟩).isSome=true)(hf:∀j,j<n*2→w.frozen? ⟨b,o+j,none⟩=false):
 (Builtin.clear_ #[128] ty #[.slice (some ⟨b,o,none⟩) n c]).run prog w=.ok (.tuple #[]) (w.setCells b o (List.replicate (n*2) (.int .i64 0))):=by
 have hst:=run_storeCells_cells (P:=prog) b o (List.replicate (n*2) (.int .i64 0)) 0 w (by simpa using hc) (by simpa using hf) (by intro v hv';rw[List.eq_of_mem_replicate hv'];rfl);simp only[Nat.add_zero] at hst;obtain⟨m,rfl⟩:∃m,n=m+1:=⟨n-1,by omega⟩;have hz:∀w,(zeroValue 216).run prog w=.ok (.agg #[.int .i64 0,.int .i64 0]) w:=Tryz.zeroValue216;have hzc:=Iz (m+1);simp[Builtin.clear_,run_underlying underlying128,hz,Value.cells,hzc,hst]
def Mh(w:World)(B:Nat)(p:Nat×Nat→Bool)(xs:List (Nat×Nat)):Prop:=∀x∈xs,Calls prog 142 #[.agg #[.int .i64 (x.1:Nat),.int .i64 (x.2:Nat)],.pointer (some ⟨B,0,none⟩)] w fun e w'=>e=.returned (.bool (p x))∧Below w.heap.size w w'
theorem xL(B n c:Nat)(a:Option Addr)(xs:List (Nat×Nat))(p:Nat×Nat→Bool)(w:World)(hx:Rd w w.heap.size a (n*2) (iC xs))(hf:∀w',Below w.heap.size w w'→Mh w' B p xs)(hn:n≤1000000):
 Calls prog 216 #[.slice a n c,.func (.func 142) #[] #[.pointer (some ⟨B,0,none⟩)]] w fun e w'=>(∃z:Int,e=.returned (.int .i64 z)∧((z= -1∧∀i,i<n→p (xs.getD i (0,0))=false)∨∃i:Nat,z=(i:Int)∧i<n∧p (xs.getD i (0,0))=true∧∀k,k<i→p (xs.getD k (0,0))=false))∧Below w.heap.size w w':=by
 have hl:xs.length=n:=by have:=hx.len;rw[iG] at this;omega
 have HX:=ae hx;have HF:=ae hf;have HL:=ae hl;clear hx hf hl;go_enter func216,ntmps216;go_wp2_with fail;go_loopw [8] (fun i wr=>∃k:Nat,k≤n∧i=.int .i64 k∧Hid (∀i,i<k→p (xs.getD i (0,0))=false)∧Hid (Below w.heap.size w wr)) (fun i _=>n-(intOf i).toNat)
 case atStart=>exact⟨0,by omega,rfl,ae fun i h=>absurd h (by omega),ae (az _ _)⟩
 case round=>
  obtain⟨k,hk,rfl,H0,HJ⟩:=hrel;by_cases hlt:k<n
  ·obtain⟨bx,ox,rfl,hbx,hcx,hcx2⟩:=KS HX.out hlt
   have cx:wr.cell? ⟨bx,ox+k*2,none⟩=some (.int .i64 ((xs.getD k (0,0)).1:Nat)):=(HJ.out.cell (p:=⟨bx,ox+k*2,none⟩) hbx).trans hcx;have cx2:wr.cell? ⟨bx,ox+k*2+1,none⟩=some (.int .i64 ((xs.getD k (0,0)).2:Nat)):=(HJ.out.cell (p:=⟨bx,ox+k*2+1,none⟩) hbx).trans hcx2;have hm:xs.getD k (0,0)∈xs:=(by rw[kH (by rw[HL.out];exact hlt)];exact aU _);have CL:=ae (HF.out _ HJ.out _ hm);clear hcx hcx2 hm;generalize hg:xs.getD k (0,0)=x at*;have HGX:=ae hg;have hlt':(k:Int)<(n:Int):=(by omega);clear hg;cases hpx:p x with
   | false=>
     rw[hpx] at CL;have HP:=ae hpx;clear hpx;go_wp2_with fail;refine CL.out.mono ?_;rintro e w2 ⟨rfl,hw2⟩;have HJ2:Hid (Below w.heap.size w w2):=ae (HJ.out.trans (hw2.mono HJ.out.size))
     have HN0:Hid (∀i,i<k+1→p (xs.getD i (0,0))=false):=ae fun i h=>by
      rcases Nat.lt_succ_iff_lt_or_eq.1 h with h1 | rfl
      ·exact H0.out i h1
      ·rw[HGX.out];exact HP.out
     clear hw2;go_wp2_with fail;go_roundw
     case rel=>(try((repeat apply Exists.intro);refine⟨?_,rfl⟩));exact⟨k+1,by omega,by go_num,HN0,HJ2⟩
     case measure=>simp[intOf];omega
   | true=>
     rw[hpx] at CL;have HP:=ae hpx;clear hpx;go_wp2_with fail;refine CL.out.mono ?_;rintro e w2 ⟨rfl,hw2⟩;have HJ2:Hid (Below w.heap.size w w2):=ae (HJ.out.trans (hw2.mono HJ.out.size));clear hw2;go_wp2_with fail;go_ret;exact⟨⟨_,rfl,.inr ⟨k,rfl,hlt,by rw[HGX.out];exact HP.out,H0.out⟩⟩,HJ2.out⟩
  ·obtain rfl:k=n:=by omega
   go_wp2_with fail;go_ret;exact⟨⟨-1,rfl,.inl ⟨rfl,H0.out⟩⟩,HJ.out⟩
theorem vJ(B C n c:Nat)(a:Option Addr)(xs:List (Nat×Nat))(p:Nat×Nat→Bool)(w:World)(hx:OwnT w C (.slice a n c) xs)(hl:xs.length=n)(hC:C≤w.heap.size)
 (hf:∀w',w.heap.size≤w'.heap.size→(∀b,b<w.heap.size→some b≠(Value.slice a n c).ownBlock→w'.heap[b]? =w.heap[b]?)→Mh w' B p xs)(hn:n≤1000000):
 Calls prog 141 #[.slice a n c,.func (.func 142) #[] #[.pointer (some ⟨B,0,none⟩)]] w fun e w'=>∃m,e=.returned (.slice a m c)∧OwnT w' C (.slice a m c) (xs.filter fun x=> !p x)∧Below 0 w w'∧∀b,b<w.heap.size→some b≠(Value.slice a n c).ownBlock→w'.heap[b]? =w.heap[b]? :=by
 have hRd:Rd w w.heap.size a (n*2) (iC xs):=by
  exact hx.rdT hl
 have CI:=ae (xL B n c a xs p w hRd (fun w' hb=>hf _ hb.size fun b h _=>hb.block b h) hn);have HF:=ae hf;have HL:=ae hl;have HO:=ae hx;clear hRd hf hl hx;go_enter func141,ntmps141;go_wp2_with fail;refine CI.out.mono ?_;rintro e w1 ⟨⟨z,rfl,hz⟩,hw1⟩;have HW1:=ae hw1;clear hw1 CI;rcases hz with⟨rfl,hno⟩ | ⟨i,rfl,hin,hpi,hno⟩
 ·have HNO:=ae hno
  clear hno;go_wp2_with fail;go_ret
  have hfl:xs.filter (fun x=> !p x)=xs:=List.filter_eq_self.2 fun x hx=>by
   obtain⟨i,hi,rfl⟩:=List.getElem_of_mem hx;have:=HNO.out i (by rw[←HL.out];exact hi);rw[kH hi] at this;rw[this];rfl
  refine⟨n,rfl,by rw[hfl];exact kN HO.out HW1.out,HW1.out.mono (Nat.zero_le _),fun b h _=>HW1.out.block b h⟩
 ·obtain⟨g,rfl,hgC,hgs⟩:=OwnT.formT HO.out HL.out (by omega)
  have hcap:n≤c∧c≤maxLen:=by
   rcases HO.out.2 with⟨e1,_⟩ | ⟨g',cap',cur,e1,hg,hh,h3,h4,h5,h6⟩
   ·cases e1
   ·injection e1 with _ _ e3
    subst e3;rw[←HL.out];exact⟨h3,h4⟩
  have HQ0:Hid (∃ys:List (Nat×Nat),ys.length=n∧OwnT w1 C (.slice (some ⟨g,0,none⟩) n c) ys∧ys.take i=(xs.take (i+1)).filter (fun x=> !p x)∧ys.drop (i+1)=xs.drop (i+1)∧Below 0 w w1∧∀b,b<w.heap.size→b≠g→w1.heap[b]? =w.heap[b]?):=ae ⟨xs,HL.out,kN HO.out HW1.out,by
   rw[j6 (by rw[HL.out];exact hin),List.filter_eq_self.2 fun x hx=> ?_]
   ·rw[kH (by rw[HL.out];exact hin)] at hpi
    rw[hpi];simp
   ·obtain⟨k,hk,rfl⟩:=List.getElem_of_mem hx
    rw[aI] at hk;have:=hno k (by omega);rw[kH (by omega)] at this;rw[List.getElem_take,this];rfl,rfl,HW1.out.mono (Nat.zero_le _),fun b h _=>HW1.out.block b h⟩
  clear hpi hno HW1 HO;go_wp2_with fail;go_loopw [5,6] (fun u v wr=>∃i j:Nat,i<j∧j≤n∧u=.int .i64 i∧v=.int .i64 j∧Hid (∃ys:List (Nat×Nat),ys.length=n∧OwnT wr C (.slice (some ⟨g,0,none⟩) n c) ys∧ys.take i=(xs.take j).filter (fun x=> !p x)∧ys.drop j=xs.drop j∧Below 0 w wr∧∀b,b<w.heap.size→b≠g→wr.heap[b]? =w.heap[b]?)) (fun _ v _=>n-(intOf v).toNat)
  case atStart=>exact⟨i,i+1,by omega,by omega,rfl,by go_num,HQ0⟩
  case round=>
   clear HQ0 hin;obtain⟨i,j,hij,hjn,rfl,rfl,HQ⟩:=hrel;obtain⟨ys,hyl,hO,ht,hd,hs,hk⟩:=HQ.out;have hs':=hs.size;by_cases hlt:j<n
   ·have hltI:(j:Int)<(n:Int):=by omega
    have hiI:(i:Int)<(n:Int):=(by omega);obtain⟨cj,cj2,fj,fj2⟩:=hO.cellT hyl hlt;obtain⟨ci,cib,fi,fib⟩:=hO.cellT hyl (show i<n by omega)
    have hjx:ys.getD j (0,0)=xs.getD j (0,0):=by
     have h1:(ys.drop j)[0]? =(xs.drop j)[0]? :=(by rw[hd]);rw[List.getElem?_drop,List.getElem?_drop,Nat.add_zero] at h1;rw[af,af,h1]
    rw[hjx] at cj cj2;have hjl:j<xs.length:=(by rw[HL.out];exact hlt);have hm:xs.getD j (0,0)∈xs:=(by rw[kH hjl];exact aU _);have hba:=(az wr.heap.size wr).alloc (ah _) (.cells #[.int .i64 ((xs.getD j (0,0)).1:Nat),.int .i64 ((xs.getD j (0,0)).2:Nat)] 216);have hK:=Blk.new wr 216 #[.int .i64 ((xs.getD j (0,0)).1:Nat),.int .i64 ((xs.getD j (0,0)).2:Nat)];have HBA:=ae hba;have HKA:=ae hK;have CF:=ae (HF.out (wr.alloc (.cells #[.int .i64 ((xs.getD j (0,0)).1:Nat),.int .i64 ((xs.getD j (0,0)).2:Nat)] 216)) (aQ hs.size hba.size) (fun b hb hb2=>(hba.block b (aY hb hs.size)).trans (hk b hb (fun e=>hb2 (by rw[e];rfl)))) _ hm);have HT:=ae (j6 (p:=fun x=> !p x) hjl);rw[←kH hjl] at HT;have hd2:ys.drop (j+1)=xs.drop (j+1):=(by rw[←List.drop_drop,hd,List.drop_drop]);have HYT:=ae ht;have hgr:g<wr.heap.size:=(by omega);have HD:=ae hd2;have HO:=ae hO;have HY:=ae hyl;have HS:=ae hs;have HK:=ae hk;clear hba hK hjx hm hjl hd2 ht hd hO hyl hs hs' hk HQ;generalize xs.getD j (0,0)=x at*;generalize ys.getD i (0,0)=yo at*;cases hpx:p x with
    | true=>
      rw[hpx] at CF;have HP:=ae hpx;clear hpx ci fi cib fib;go_wp2_with fail;refine CF.out.mono ?_;rintro e w2 ⟨rfl,hw2⟩;have HB2:=ae (HBA.out.trans (hw2.mono HBA.out.size));have hsz2:Below 0 w w2:=HS.out.trans (HB2.out.mono (Nat.zero_le _));have HK2:Hid (∀b,b<w.heap.size→b≠g→w2.heap[b]? =w.heap[b]?):=ae fun b hb hne=>(HB2.out.block b (aY hb HS.out.size)).trans (HK.out b hb hne);have HO2:=ae (kN HO.out HB2.out);have HQn:Hid (∃ys:List (Nat×Nat),ys.length=n∧OwnT w2 C (.slice (some ⟨g,0,none⟩) n c) ys∧ys.take i=(xs.take (j+1)).filter (fun x=> !p x)∧ys.drop (j+1)=xs.drop (j+1)∧Below 0 w w2∧∀b,b<w.heap.size→b≠g→w2.heap[b]? =w.heap[b]?):=ae ⟨ys,HY.out,HO2.out,by rw[HT.out,HP.out,HYT.out];simp,HD.out,hsz2,HK2.out⟩;clear hw2 HO HS HK CF HB2 hsz2 HK2 HO2;go_wp2_with fail;go_roundw
      case rel=>(try((repeat apply Exists.intro);refine⟨?_,rfl⟩));exact⟨i,j+1,by omega,by omega,rfl,by go_num,HQn⟩
      case measure=>simp[intOf];omega
    | false=>
      rw[hpx] at CF;have HP:=ae hpx;clear hpx;go_wp2_with fail;refine CF.out.mono ?_;rintro e w2 ⟨rfl,hw2⟩;have HB2:=ae (HBA.out.trans (hw2.mono HBA.out.size));have hsz2:Below 0 w w2:=HS.out.trans (HB2.out.mono (Nat.zero_le _));have HK2:Hid (∀b,b<w.heap.size→b≠g→w2.heap[b]? =w.heap[b]?):=ae fun b hb hne=>(HB2.out.block b (aY hb HS.out.size)).trans (HK.out b hb hne);have HO2:=ae (kN HO.out HB2.out);have ci2:w2.cell? ⟨g,i*2,none⟩=some (.int .i64 (yo.1:Nat)):=(HB2.out.cell (p:=⟨g,i*2,none⟩) hgr).trans ci;have fi2:w2.frozen? ⟨g,i*2,none⟩=false:=(OwnT.cellT HO2.out HY.out (show i<n by omega)).2.2.1;have ci3:w2.cell? ⟨g,i*2+1,none⟩=some (.int .i64 (yo.2:Nat)):=(HB2.out.cell (p:=⟨g,i*2+1,none⟩) hgr).trans cib;have fi3:w2.frozen? ⟨g,i*2+1,none⟩=false:=(OwnT.cellT HO2.out HY.out (show i<n by omega)).2.2.2;have v0:=(hw2.cell (p:=⟨wr.heap.size,0,none⟩) HKA.out.lt).trans (HKA.out.cell 0);have v1:=(hw2.cell (p:=⟨wr.heap.size,1,none⟩) HKA.out.lt).trans (HKA.out.cell 1);have HQn:Hid (∃ys:List (Nat×Nat),ys.length=n∧OwnT ((w2.setCell ⟨g,i*2,none⟩ (.int .i64 (x.1:Nat))).setCell ⟨g,i*2+1,none⟩ (.int .i64 (x.2:Nat))) C (.slice (some ⟨g,0,none⟩) n c) ys∧ys.take (i+1)=(xs.take (j+1)).filter (fun x=> !p x)∧ys.drop (j+1)=xs.drop (j+1)∧Below 0 w ((w2.setCell ⟨g,i*2,none⟩ (.int .i64 (x.1:Nat))).setCell ⟨g,i*2+1,none⟩ (.int .i64 (x.2:Nat)))∧∀b,b<w.heap.size→b≠g→((w2.setCell ⟨g,i*2,none⟩ (.int .i64 (x.1:Nat))).setCell ⟨g,i*2+1,none⟩ (.int .i64 (x.2:Nat))).heap[b]? =w.heap[b]?):=ae ⟨ys.set i x,by rw[List.length_set];exact HY.out,OwnT.storedT HO2.out HY.out i x,by rw[nM (by rw[HY.out];omega),HT.out,HP.out,HYT.out];simp,by rw[ry (by omega)];exact HD.out,(hsz2.setCell (Nat.zero_le _) _).setCell (Nat.zero_le _) _,fun b hb hne=>((aZ _ _ _ _ hne).trans (aZ _ _ _ _ hne)).trans (HK2.out b hb hne)⟩;clear hw2 HO HS HK CF ci fi cib fib HB2 hsz2 HK2 HO2;go_wp2_with fail;go_roundw
      case rel=>(try((repeat apply Exists.intro);refine⟨?_,rfl⟩));exact⟨i+1,j+1,by omega,by omega,by go_num,by go_num,HQn⟩
      case measure=>simp[intOf];omega
   ·obtain rfl:j=n:=by omega
    have hic:(i:Int)≤(c:Int):=(by omega);have hicn:¬c=i:=by omega
    have hcl:∀ty,(Builtin.clear_ #[128] ty #[.slice (some ⟨g,i*2,none⟩) (j-i) (c-i)]).run prog wr=.ok (.tuple #[]) (wr.setCells g (i*2) (List.replicate ((j-i)*2) (.int .i64 0))):=fun ty=>zu wr ty g (i*2) (j-i) _ (by omega) (fun q hq=>by
     have hc:=OwnT.cellT hO hyl (k:=(i*2+q)/2) (by omega);rcases Nat.mod_two_eq_zero_or_one q with h | h
     ·rw[show i*2+q=(i*2+q)/2*2 by omega,hc.1];rfl
     ·rw[show i*2+q=(i*2+q)/2*2+1 by omega,hc.2.1];rfl) (fun q hq=>by
     have hc:=OwnT.cellT hO hyl (k:=(i*2+q)/2) (by omega);rcases Nat.mod_two_eq_zero_or_one q with h | h
     ·rw[show i*2+q=(i*2+q)/2*2 by omega];exact hc.2.2.1
     ·rw[show i*2+q=(i*2+q)/2*2+1 by omega];exact hc.2.2.2)
    have hxj:xs.take j=xs:=aO (by rw[HL.out];exact ah _);rw[hxj] at ht;clear hxj;have hlen:(xs.filter fun x=> !p x).length=i:=by rw[←ht,aI,hyl];omega
    have HFin:Hid (∃m,Value.slice (some ⟨g,0,none⟩) i c=.slice (some ⟨g,0,none⟩) m c∧OwnT (wr.setCells g (i*2) (List.replicate ((j-i)*2) (.int .i64 0))) C (.slice (some ⟨g,0,none⟩) m c) (xs.filter fun x=> !p x)∧Below 0 w (wr.setCells g (i*2) (List.replicate ((j-i)*2) (.int .i64 0)))∧∀b,b<w.heap.size→some b≠(Value.slice (some ⟨g,0,none⟩) j c).ownBlock→(wr.setCells g (i*2) (List.replicate ((j-i)*2) (.int .i64 0))).heap[b]? =w.heap[b]?):=ae (by
     refine⟨i,rfl,?_,yB hs _ _ _,fun b hb0 hb=>(pR (fun e=>hb (by rw[e];rfl)) _ _ _).trans (hk b hb0 (fun e=>hb (by rw[e];rfl)))⟩;unfold OwnT at hO ⊢;rw[hyl] at hO;rw[hlen];have hO':=hO;obtain⟨h1,⟨e1,_⟩ | ⟨g',cap',cur,e1,hg,hh,h3,h4,h5,h6⟩⟩:=hO'
     ·cases e1
     ·injection e1 with e1 e2 e3
      injection e1 with e1;injection e1 with e1 _ _;subst e1;obtain⟨cur',d1,d2,d3⟩:=nN (List.replicate ((j-i)*2) (.int .i64 0)) (i*2) wr cur hh;refine Ed hO (by omega) ⟨cur,cur',hh,d1,d2,fun q hq=>d3 q (by omega)⟩ ?_;rw[←ht,Bw])
    have HCL:=hcl;clear hcl ht hlen hyl hO hd hs hs' hk HQ HF HL;go_wp2_with fail;go_ret;exact HFin.out.elim fun m h=>⟨m,by rw[h.1];rfl,h.2⟩
theorem G3(B g gf K H Z N cR x:Nat)(aR:Option Addr)(vals vS vD vL way more:Value)(w:World)(hB:w.cell? ⟨B,0,none⟩=some (.pointer (some ⟨g,0,none⟩)))(hg:Blk w g 132 (svC gf K H Z vals (.slice aR N cR) vS vD vL way more)):
 Calls prog 143 #[.int .i64 x,.pointer (some ⟨B,0,none⟩)] w fun e w'=>e=.returned (.bool (decide (N≤x)))∧∃j,w'=w.drewN j:=by
 have p5:=hg.cell 5;unfold svC at p5;clear hg;go_enter func143,ntmps143;go_wp2_with fail;go_ret;exact⟨rfl,0,rfl⟩
theorem G5(B g gf K H Z N cR r c:Nat)(aR:Option Addr)(vals vS vD vL way more:Value)(w:World)(hB:w.cell? ⟨B,0,none⟩=some (.pointer (some ⟨g,0,none⟩)))(hBl:B<w.heap.size)(hg:Blk w g 132 (svC gf K H Z vals (.slice aR N cR) vS vD vL way more)):
 Calls prog 142 #[.agg #[.int .i64 r,.int .i64 c],.pointer (some ⟨B,0,none⟩)] w fun e w'=>e=.returned (.bool (decide (N≤r)))∧Below w.heap.size w w':=by
 have hba:=(az w.heap.size w).alloc (ah _) (.cells #[.int .i64 r,.int .i64 c] 216);have p5:=(hg.below hba hg.lt).cell 5;have hK:=(Blk.new w 216 #[.int .i64 r,.int .i64 c]).cell 0;have hB':=(hba.cell (p:=⟨B,0,none⟩) hBl).trans hB;unfold svC at p5;have HBA:=ae hba;clear hg hba hB;go_enter func142,ntmps142;go_wp2_with fail
 go_quiet (fail)
 go_wp2_with fail;go_ret;exact⟨rfl,below_drewN HBA.out _⟩
end Go.Proofs.YtofgapdnadbgkaaGreatDoor
