import Derived.Test.YtofgapdnadbgkaaGreatDoorW1
set_option linter.unusedVariables false
set_option maxRecDepth 100000
set_option maxHeartbeats 400000000
namespace Go.Proofs.YtofgapdnadbgkaaGreatDoor
open Go.RowKit _root_.Go.Proofs.Tryz
def pm(a b:Nat):Nat→Nat
 | 0=>0
 | k+1=>if b/2 ^ k%2=1 then pm a b k ^^^ a*2 ^ k else pm a b k
def Hh(p i:Nat):Nat:=if p/2 ^ i%2=1 then p ^^^ 283*2 ^ (i-8) else p
def rd(p:Nat):Nat→Nat
 | 0=>p
 | k+1=>Hh (rd p k) (15-k)
theorem A8(p i:Nat):(p/2 ^ i%2=1)↔p.testBit i=true:=by
 rw[Nat.testBit_eq_decide_div_mod_eq];simp
theorem Kn(p q i:Nat):Hh (p ^^^ q) i=Hh p i ^^^ Hh q i:=by
 unfold Hh;simp only[A8,Nat.testBit_xor];generalize 283*2 ^ (i-8)=m;cases p.testBit i <;> cases q.testBit i
 ·simp
 ·simp[Nat.xor_assoc]
 ·simp only[Bool.true_bne,Bool.not_false,if_true,Bool.false_eq_true,if_false]
  rw[Nat.xor_assoc,Nat.xor_assoc,Nat.xor_comm q m]
 ·simp only[bne_self_eq_false,Bool.false_eq_true,if_false,if_true]
  rw[Nat.xor_assoc p m,←Nat.xor_assoc m q m,Nat.xor_comm m q,Nat.xor_assoc q m m,Nat.xor_self,Nat.xor_zero]
theorem Mw(p q k:Nat):rd (p ^^^ q) k=rd p k ^^^ rd q k:=by
 induction k with
 | zero=>rfl
 | succ k ih=>simp only[rd,ih,Kn]
theorem Ko(k:Nat):rd 0 k=0:=by
 induction k with
 | zero=>rfl
 | succ k ih=>rw[rd,ih];simp[Hh]
def xtI(a:Nat):Nat→Nat | 0=>a | k+1=>xt (xtI a k)
def tabR:Bool:=(List.range 8).all fun i=>(List.range 256).all fun a=>rd (a*2 ^ i) 8 == xtI a i
theorem Kr:tabR=true:=by decide +kernel
theorem Hj{a i:Nat}(ha:a<256)(hi:i<8):rd (a*2 ^ i) 8=xtI a i:=by
 have h1:=List.all_eq_true.1 Kr i (List.mem_range.2 hi);have h2:=List.all_eq_true.1 h1 a (List.mem_range.2 ha);simpa using h2
theorem yQ{a:Nat}(ha:a<256):fm a 3=m3 a:=by
 by_cases h0:a=0
 ·subst h0;rfl
 ·obtain⟨i,_,rfl⟩:=xn h0 ha
  exact rD i 1
theorem Hk{a:Nat}(ha:a<256):fm a 2=xt a:=by
 have h1:fm a 2=fm a (3 ^^^ 1):=rfl;rw[h1,lX ha (by decide) (by decide),yQ ha,jN a ha];unfold m3;rw[Nat.xor_comm a (xt a),Nat.xor_assoc,Nat.xor_self,Nat.xor_zero]
theorem qj{i:Nat}(hi:i<8):2 ^ i<256:=Nat.pow_lt_pow_right (by decide) hi
theorem Mx{a:Nat}(ha:a<256)(i:Nat)(hi:i<8):xtI a i=fm a (2 ^ i):=by
 induction i with
 | zero=>exact(jN a ha).symm
 | succ i ih=>
   rw[xtI,ih (by omega),←Hk (fU _ _),jb _ _ _ ha (qj (by omega)) (by decide),Hk (qj (by omega))];congr 1;unfold xt;have h1:2 ^ (i+1)<256:=qj hi;rw[Nat.pow_succ] at h1 ⊢;rw[if_neg (by omega),Nat.mul_comm]
theorem Hl(b k:Nat):b%2 ^ (k+1)=if b/2 ^ k%2=1 then (b%2 ^ k) ^^^ 2 ^ k else b%2 ^ k:=by
 apply Nat.eq_of_testBit_eq;intro i;rw[Nat.testBit_mod_two_pow];by_cases hb:b/2 ^ k%2=1
 ·rw[if_pos hb,Nat.testBit_xor,Nat.testBit_mod_two_pow,Nat.testBit_two_pow]
  have hb':=(A8 b k).1 hb;by_cases h1:i<k
  ·simp[h1,show i<k+1 by omega,show k≠i by omega]
  ·by_cases h2:i=k
   ·subst h2;simp[hb']
   ·simp[h1,show ¬i<k+1 by omega,show k≠i by omega]
 ·rw[if_neg hb,Nat.testBit_mod_two_pow]
  have hb':b.testBit k=false:=by
   cases h:b.testBit k
   ·rfl
   ·exact absurd ((A8 b k).2 h) hb
  by_cases h1:i<k
  ·simp[h1,show i<k+1 by omega]
  ·by_cases h2:i=k
   ·subst h2;simp[hb']
   ·simp[h1,show ¬i<k+1 by omega]
theorem rd_pm{a b:Nat}(ha:a<256)(k:Nat)(hk:k≤8):rd (pm a b k) 8=fm a (b%2 ^ k):=by
 induction k with
 | zero=>rw[pm,Ko,Nat.pow_zero,Nat.mod_one,bq]
 | succ k ih=>
   have hl:b%2 ^ k<256:=Nat.lt_trans (Nat.mod_lt _ (Nat.two_pow_pos k)) (qj (by omega));rw[pm,Hl];split
   ·rw[Mw,ih (by omega),Hj ha (by omega),Mx ha k (by omega),←lX ha hl (qj (by omega))]
   ·exact ih (by omega)
theorem My{a b:Nat}(ha:a<256)(hb:b<256):rd (pm a b 8) 8=fm a b:=by
 rw[rd_pm ha 8 (ah _),Nat.mod_eq_of_lt hb]
theorem Mg{a b:Nat}(ha:a<256)(k:Nat)(hk:k≤8):pm a b k<65536:=by
 induction k with
 | zero=>simp[pm]
 | succ k ih=>
   rw[pm];split
   ·refine Nat.xor_lt_two_pow (n:=16) (ih (by omega)) ?_
    have h1:2 ^ k<256:=qj (by omega);have h2:a*2 ^ k<256*256:=Nat.mul_lt_mul'' ha h1;omega
   ·exact ih (by omega)
theorem MB{p i:Nat}(hp:p<65536)(hi:i≤15):Hh p i<65536:=by
 unfold Hh;split
 ·refine Nat.xor_lt_two_pow (n:=16) hp ?_
  have h1:2 ^ (i-8)≤2 ^ 7:=Nat.pow_le_pow_right (by decide) (by omega);omega
 ·exact hp
theorem rd_lt{p:Nat}(hp:p<65536)(k:Nat)(hk:k≤8):rd p k<65536:=by
 induction k with
 | zero=>exact hp
 | succ k ih=>exact MB (ih (by omega)) (by omega)
theorem wrap_u16(n:Int):IntKind.u16.wrap n=n%65536:=by simp[IntKind.wrap,IntKind.bits,IntKind.signed]
theorem Jz(a:Nat)(ha:a<65536):bits .and .u16 (a:Int) 1=((a%2:Nat):Int):=by
 have h1:(BitVec.ofInt 16 (a:Int)).toNat=a:=by
  rw[BitVec.ofInt_natCast,BitVec.toNat_ofNat];exact Nat.mod_eq_of_lt (by omega)
 have h2:(BitVec.ofInt 16 (1:Int)).toNat=1:=by decide
 show IntKind.u16.wrap ((BitVec.ofInt 16 (a:Int) &&& BitVec.ofInt 16 (1:Int)).toNat:Int)=_;rw[BitVec.toNat_and,h1,h2,Nat.and_one_is_mod,wrap_u16];omega
theorem u16_xor(a b:Nat)(ha:a<65536)(hb:b<65536):bits .xor .u16 (a:Int) (b:Int)=((a ^^^ b:Nat):Int):=by
 have hx:a ^^^ b<2 ^ 16:=Nat.xor_lt_two_pow (by omega) (by omega)
 have h1:(BitVec.ofInt 16 (a:Int)).toNat=a:=by
  rw[BitVec.ofInt_natCast,BitVec.toNat_ofNat];exact Nat.mod_eq_of_lt (by omega)
 have h2:(BitVec.ofInt 16 (b:Int)).toNat=b:=by
  rw[BitVec.ofInt_natCast,BitVec.toNat_ofNat];exact Nat.mod_eq_of_lt (by omega)
 show IntKind.u16.wrap ((BitVec.ofInt 16 (a:Int) ^^^ BitVec.ofInt 16 (b:Int)).toNat:Int)=_;rw[BitVec.toNat_xor,h1,h2,wrap_u16];omega
theorem r9(a b:Nat)(ha:a<256)(hb:b<256)(w:World):
 Calls prog 282 #[.int .u8 a,.int .u8 b] w fun e w'=>e=.returned (.int .u8 (fm a b:Nat))∧w=w':=by
 go_enter func282,ntmps282;go_wp2_with fail
 go_loop [5,6] (fun p i=>∃k:Nat,k≤8∧i=.int .i64 k∧p=.int .u16 (pm a b k:Nat)) (fun _ i=>8-(intOf i).toNat)
 case atStart=>exact⟨0,by omega,rfl,rfl⟩
 case round=>
  obtain⟨k,hk,rfl,rfl⟩:=hrel;by_cases hlt:k<8
  ·have hp:=Mg (b:=b) ha k hk
   have hbk:b/2 ^ k<256:=Nat.lt_of_le_of_lt (Nat.div_le_self _ _) hb;have hand:=and1 (b/2 ^ k) hbk;rw[Int.natCast_ediv,show((2 ^ k:Nat):Int)=2 ^ k by simp] at hand;have hst:pm a b (k+1)=if b/2 ^ k%2=1 then pm a b k ^^^ a*2 ^ k else pm a b k:=rfl
   have hsh:a*2 ^ k<65536:=aY (Nat.mul_lt_mul_of_pos_right ha (Nat.pow_pos (by decide))) (by
    have:(2:Nat) ^ k≤2 ^ 7:=Nat.pow_le_pow_right (by decide) (by omega);omega)
   have hwr:IntKind.u16.wrap ((a:Int)*2 ^ k)=((a*2 ^ k:Nat):Int):=by
    rw[wrap_u16,show(2:Int) ^ k=((2 ^ k:Nat):Int) by simp,←Int.natCast_mul];omega
   have HST:=ae hst;have HA:=ae hand;have HW:=ae hwr;have HX:=ae (u16_xor (pm a b k) (a*2 ^ k) hp hsh);have HSH:=ae hsh;clear hst hand hwr hsh hbk;go_wp2_with fail
   ·rename_i hbit
    rw[HA.out,beq_iff_eq] at hbit
    go_round
    case rel=>
     refine⟨k+1,by omega,by go_num,?_⟩;rw[HST.out,if_pos (by omega),HW.out,HX.out]
    case measure=>simp[intOf] <;> omega
   ·rename_i hbit
    rw[HA.out,beq_eq_false_iff_ne] at hbit
    go_round
    case rel=>
     refine⟨k+1,by omega,by go_num,?_⟩;rw[HST.out,if_neg (by omega)]
    case measure=>simp[intOf] <;> omega
  ·obtain rfl:k=8:=by omega
   have hp0:=Mg (b:=b) ha 8 (ah _);have hall:=My ha hb;have hP:=fun k hk=>rd_lt hp0 k hk;generalize pm a b 8=p at*;have HALL:=ae hall;have HP:=ae hP;clear hall hP;go_wp2_with fail
   go_loop [5,7] (fun q i=>∃k:Nat,k≤8∧i=.int .i64 (15-k:Int)∧q=.int .u16 (rd p k:Nat)) (fun _ i=>(intOf i).toNat)
   case atStart=>exact⟨0,by omega,rfl,rfl⟩
   case round=>
    obtain⟨k,hk,rfl,rfl⟩:=hrel;by_cases hlt:k<8
    ·obtain⟨j,hj⟩:∃j:Nat,15-k=j:=⟨_,rfl⟩
     have ej:(15:Int)-k=(j:Int):=(by omega);have hp:=HP.out k hk;have hst:rd p (k+1)=Hh (rd p k) j:=(by rw[←hj];rfl);have hlast:=HP.out (k+1) (by omega);have HST:=ae hst;clear hst;rw[ej];have hj8:8≤j∧j≤15:=(by omega);generalize rd p k=q at*;have hqj:q/2 ^ j<65536:=Nat.lt_of_le_of_lt (Nat.div_le_self _ _) hp;have hand:=Jz (q/2 ^ j) hqj;rw[Int.natCast_ediv,show((2 ^ j:Nat):Int)=2 ^ j by simp] at hand;obtain⟨i,rfl⟩:∃i,j=8+i:=⟨j-8,by omega⟩
     have hsh:283*2 ^ i<65536:=by
      have:(2:Nat) ^ i≤2 ^ 7:=Nat.pow_le_pow_right (by decide) (by omega);omega
     have e8:((8+i:Nat):Int)-8=(i:Int):=by omega
     have hwr:IntKind.u16.wrap (283*2 ^ i)=((283*2 ^ i:Nat):Int):=by
      rw[wrap_u16,show(2:Int) ^ i=((2 ^ i:Nat):Int) by simp];omega
     have HA:=ae hand;have HW:=ae hwr;have HX:=ae (u16_xor q (283*2 ^ i) hp hsh);have HSH:=ae hsh;clear hand hwr hsh hqj;go_wp2_with fail
     ·rename_i hbit
      rw[HA.out,beq_iff_eq] at hbit
      go_round
      case rel=>
       refine⟨k+1,by omega,by go_num,?_⟩;rw[HST.out,Hh,if_pos (by omega),Nat.add_sub_cancel_left,HW.out,HX.out]
      case measure=>simp[intOf] <;> omega
     ·rename_i hbit
      rw[HA.out,beq_eq_false_iff_ne] at hbit
      go_round
      case rel=>
       refine⟨k+1,by omega,by go_num,?_⟩;rw[HST.out,Hh,if_neg (by omega)]
      case measure=>simp[intOf] <;> omega
    ·obtain rfl:k=8:=by omega
     rw[HALL.out];have h8:=fU a b;go_wp2_with fail;go_ret;exact⟨rfl,rfl⟩
theorem FE{a b:Nat}(ha:a<256)(hb:b<256)(h:fm a b=1):b=fi a:=by
 have h0:a≠0:=by rintro rfl;rw[bW] at h;omega
 have e1:fm (fi a) (fm a b)=fi a:=by rw[h,jN _ (vg a)]
 rw[←jb _ _ _ (vg a) ha hb,il (fi a) a,vh h0 ha,il,jN b hb] at e1;exact e1
theorem IX(k:Nat):fm (ex k) 3=ex (k+1):=by rw[yQ (kO k).2];rfl
theorem K4(a:Nat)(ha:a<256)(w:World):
 Calls prog 224 #[.int .u8 a] w fun e w'=>e=.returned (.int .u8 (fi a:Nat))∧w=w':=by
 go_enter func224,ntmps224;go_wp2_with fail
 go_loop [3] (fun i=>∃k:Nat,1≤k∧k≤256∧i=.int .i64 k∧(a≠0→k≤fi a)) (fun i=>256-(intOf i).toNat)
 case atStart=>exact⟨1,by omega,by omega,rfl,fun h0=>by
  have:=vh h0 ha;rcases Nat.eq_zero_or_pos (fi a) with h | h
  ·rw[h,bq] at this;omega
  ·exact h⟩
 case round=>
  obtain⟨k,hk1,hk,rfl,hne⟩:=hrel;by_cases hlt:k<256
  ·have hbd:=fU a k
   have HU:=ae (fun h=>FE (b:=k) ha hlt h);have hinv:=ae (fun h0:a≠0=>vh h0 ha);have HN:=ae hne;clear hne;have hwk:IntKind.u8.wrap (k:Int)=(k:Int):=(by simp[IntKind.wrap,IntKind.bits,IntKind.signed];omega);go_wp2_with fail;refine(r9 a k ha hlt _).mono ?_;rintro e w1 ⟨rfl,rfl⟩;by_cases h1:fm a k=1
   ·have hk2:=HU.out h1
    have h1':((fm a k:Nat) == (1:Int))=true:=(by rw[h1];rfl);have HK:=ae hk2;clear h1 hk2;go_wp2_with fail;go_ret;exact⟨by rw[←HK.out];rfl,rfl⟩
   ·have h1':(((fm a k:Nat):Int) == (1:Int))=false:=by rw[beq_eq_false_iff_ne];omega
    have HK:=ae h1;clear h1;go_wp2_with fail
    go_round
    case rel=>
     refine⟨k+1,by omega,by omega,by go_num,fun h0=> ?_⟩;have:=HN.out h0;rcases Nat.lt_or_ge k (fi a) with h | h
     ·omega
     ·have:k=fi a:=by omega
      subst this;exact absurd (hinv.out h0) HK.out
    case measure=>simp[intOf] <;> omega
  ·obtain rfl:k=256:=by omega
   have h0:a=0:=by
    rcases Nat.eq_zero_or_pos a with h | h
    ·exact h
    ·have:=hne (by omega)
     have:=vg a;omega
   subst h0;go_wp2_with fail;go_ret;exact⟨rfl,rfl⟩
theorem K5(n:Int)(hn: -9223372036854775808≤n∧n≤9223372036854775807)(w:World):
 Calls prog 226 #[.int .i64 n] w fun e w'=>e=.returned (.int .u8 (exI n:Nat))∧w=w':=by
 have h1:=Int.emod_nonneg n (show(255:Int)≠0 by omega);have h2:=Int.emod_lt_of_pos n (show(0:Int)<255 by omega);have h3:=ae (zS n);have hv:exI n=ex (n%255).toNat:=rfl;obtain⟨m,hm⟩:=Int.eq_ofNat_of_zero_le h1;rw[hm] at h2 h3;rw[hv,hm,Int.toNat_natCast];have hmlt:m<255:=by omega
 clear hv hm h1;by_cases hneg:n.tmod 255<0
 ·have h4:=h3.out
  rw[if_pos hneg] at h4;have hb:(m:Int)-255<0:=by omega
  have h6:n.tmod 255=(m:Int)-255:=by
   generalize n.tmod 255=q at h4;omega
  clear h3 h4 hneg;go_enter func226,ntmps226;go_wp2_with fail
  go_loop [3,4] (fun x i=>∃k:Nat,k≤m∧i=.int .i64 k∧x=.int .u8 (ex k:Nat)) (fun _ i=>m-(intOf i).toNat)
  case atStart=>exact⟨0,by omega,rfl,rfl⟩
  case round=>
   obtain⟨k,hk,rfl,rfl⟩:=hrel;have hbd:=kO k;have hbd3:=kO (k+1);have H3:=ae (IX k);by_cases hlt:k<m
   ·go_wp2_with fail
    refine(r9 (ex k) 3 hbd.2 (by omega) _).mono ?_;rintro e w1 ⟨rfl,rfl⟩;rw[H3.out];go_wp2_with fail
    go_round
    case rel=>exact⟨k+1,by omega,by go_num,rfl⟩
    case measure=>simp[intOf] <;> omega
   ·obtain rfl:k=m:=by omega
    go_wp2_with fail;go_ret;exact⟨rfl,rfl⟩
 ·have h4:=h3.out
  rw[if_neg hneg] at h4;have hb:¬(m:Int)<0:=(by omega);clear h3 hneg;go_enter func226,ntmps226;go_wp2_with fail
  go_loop [3,4] (fun x i=>∃k:Nat,k≤m∧i=.int .i64 k∧x=.int .u8 (ex k:Nat)) (fun _ i=>m-(intOf i).toNat)
  case atStart=>exact⟨0,by omega,rfl,rfl⟩
  case round=>
   obtain⟨k,hk,rfl,rfl⟩:=hrel;have hbd:=kO k;have hbd3:=kO (k+1);have H3:=ae (IX k);by_cases hlt:k<m
   ·go_wp2_with fail
    refine(r9 (ex k) 3 hbd.2 (by omega) _).mono ?_;rintro e w1 ⟨rfl,rfl⟩;rw[H3.out];go_wp2_with fail
    go_round
    case rel=>exact⟨k+1,by omega,by go_num,rfl⟩
    case measure=>simp[intOf] <;> omega
   ·obtain rfl:k=m:=by omega
    go_wp2_with fail;go_ret;exact⟨rfl,rfl⟩
def jK(c:Nat)(a b:Nat→Nat):Nat→Nat:=fun j=>b j ^^^ fm c (a j)
def vz:Nat→Nat:=fun _=>0
def Vb(v:Nat→Nat):Prop:=∀j,v j<256
theorem Ny:Vb vz:=fun _=>(by decide:(0:Nat)<256)
theorem Mr{c:Nat}{a b:Nat→Nat}(hb:Vb b):Vb (jK c a b):=fun j=>qP (hb j) (fU _ _)
inductive Spn (M:List (Nat→Nat)):(Nat→Nat)→Prop where
 | zero:Spn M vz
 | add (c:Nat) (r v:Nat→Nat):c<256→r∈M→Spn M v→Spn M (jK c r v)
theorem Da(a b:Nat):a ^^^ b ^^^ b=a:=by rw[Nat.xor_assoc,Nat.xor_self,Nat.xor_zero]
theorem JQ(a b c:Nat):a ^^^ b ^^^ c=a ^^^ c ^^^ b:=by rw[Nat.xor_assoc,Nat.xor_comm b c,←Nat.xor_assoc]
theorem iQ(a:Nat)(h:a<256):fm 1 a=a:=by rw[il,jN a h]
theorem JR{c:Nat}{a b:Nat→Nat}:jK c a (jK c a b)=b:=funext fun j=>Da _ _
theorem AJ{a b:Nat→Nat}:jK 0 a b=b:=funext fun j=>by unfold jK;rw[bW,Nat.xor_zero]
theorem Nz{c d:Nat}{a b v:Nat→Nat}(hc:c<256)(hd:d<256)(ha:Vb a)(hb:Vb b):jK c (jK d a b) v=jK c b (jK (fm c d) a v):=funext fun j=>by
 unfold jK;rw[lX hc (hb j) (fU _ _),←jb c d (a j) hc hd (ha j),←Nat.xor_assoc,JQ]
theorem Spn.vb{M:List (Nat→Nat)}{v:Nat→Nat}(h:Spn M v):Vb v:=by
 induction h with
 | zero=>exact Ny
 | add c r v hc hr _ ih=>exact Mr ih
theorem Spn.ax{M:List (Nat→Nat)}(hM:∀r∈M,Vb r){u v:Nat→Nat}{c:Nat}(hc:c<256)(hu:Spn M u)(hv:Spn M v):Spn M (jK c u v):=by
 induction hu generalizing v with
 | zero=>
   have:jK c vz v=v:=funext fun j=>(by unfold jK vz;rw[bq,Nat.xor_zero]);rw[this];exact hv
 | add d r u hd hr hs ih=>
   rw[Nz hc hd (hM r hr) hs.vb];exact ih (Spn.add _ r v (fU _ _) hr hv)
theorem Spn.mem{M:List (Nat→Nat)}(hM:∀r∈M,Vb r){r:Nat→Nat}(hr:r∈M):Spn M r:=by
 have:jK 1 r vz=r:=funext fun j=>by unfold jK vz;rw[Nat.zero_xor,iQ _ (hM r hr j)]
 rw[←this];exact Spn.add 1 r vz (by decide) hr .zero
theorem Spn.trans{M N:List (Nat→Nat)}(hN:∀r∈N,Vb r)(h:∀r∈M,Spn N r){v:Nat→Nat}(hv:Spn M v):Spn N v:=by
 induction hv with
 | zero=>exact .zero
 | add c r v hc hr _ ih=>exact Spn.ax hN hc (h r hr) ih
theorem Spn.sub{M N:List (Nat→Nat)}(h:∀r∈M,r∈N){v:Nat→Nat}(hv:Spn M v):Spn N v:=by
 induction hv with
 | zero=>exact .zero
 | add c r v hc hr _ ih=>exact .add c r v hc (h r hr) ih
structure RedV (M:List (Nat→Nat)) (ls:List Nat):Prop where
 len:M.length=ls.length
 up:ls.Pairwise (·< ·)
 one:∀(i:Nat) r l,M[i]? =some r→ls[i]? =some l→r l=1
 zero:∀(i k:Nat) r l,M[k]? =some r→ls[i]? =some l→k≠i→r l=0
 low:∀(i:Nat) r l,M[i]? =some r→ls[i]? =some l→∀j,j<l→r j=0
 byt:∀r∈M,Vb r
def nO:List (Nat→Nat)→List Nat→(Nat→Nat)→Nat→Nat
 | r :: M,l :: ls,w=>jK (w l) r (nO M ls w)
 | _,_,_=>vz
theorem NA(M:List (Nat→Nat)):∀(ls:List Nat) (c:Nat) (u v:Nat→Nat),c<256→Vb u→Vb v→(∀r∈M,Vb r)→nO M ls (jK c u v)=jK c (nO M ls u) (nO M ls v):=by
 have hz:∀c,jK c vz vz=vz:=fun c=>funext fun j=>by unfold jK vz;rw[bq];rfl
 induction M with
 | nil=>intro ls c u v hc hu hv hM;simp only[nO,hz]
 | cons r M ih=>
   intro ls c u v hc hu hv hM;cases ls with
   | nil=>simp only[nO,hz]
   | cons l ls=>
     simp only[nO];rw[ih ls c u v hc hu hv fun r hr=>hM r (List.mem_cons_of_mem _ hr)];funext j;have hr:=hM r List.mem_cons_self j
     have h1:Vb (nO M ls u):=by
      clear ih
      have:∀(M:List (Nat→Nat)) ls,Vb (nO M ls u):=by
       intro M
       induction M with
       | nil=>intro ls;exact Ny
       | cons r M ih=>intro ls;cases ls with
         | nil=>exact Ny
         | cons l ls=>exact Mr (ih ls)
      exact this M ls
     show nO M ls v j ^^^ fm c (nO M ls u j) ^^^ fm (v l ^^^ fm c (u l)) (r j)=(nO M ls v j ^^^ fm (v l) (r j)) ^^^ fm c (nO M ls u j ^^^ fm (u l) (r j));rw[lY (hv l) (fU _ _) hr,lX hc (h1 j) (fU _ _),jb c (u l) (r j) hc (hu l) hr]
     ac_rfl
theorem uY(M:List (Nat→Nat)):∀(ls:List Nat) (w:Nat→Nat),(∀l∈ls,w l=0)→nO M ls w=vz:=by
 induction M with
 | nil=>intro ls w h;rfl
 | cons r M ih=>
   intro ls w h;cases ls with
   | nil=>rfl
   | cons l ls=>
     simp only[nO];rw[ih ls w fun x hx=>h x (List.mem_cons_of_mem _ hx),h l List.mem_cons_self,AJ]
theorem AK(M:List (Nat→Nat)):∀(ls:List Nat) (w:Nat→Nat) (i:Nat) (r:Nat→Nat),(∀r∈M,Vb r)→M.length=ls.length→M[i]? =some r→(∀(k:Nat) l,ls[k]? =some l→w l=if k=i then 1 else 0)→nO M ls w=r:=by
 induction M with
 | nil=>intro ls w i r _ _ h;simp at h
 | cons s M ih=>
   intro ls w i r hM hl h hw;cases ls with
   | nil=>simp at hl
   | cons l ls=>
     simp only[nO];cases i with
     | zero=>
       obtain rfl:s=r:=(by simpa using h);have h0:=hw 0 l rfl;simp at h0
       rw[h0,uY M ls w fun x hx=>by
        obtain⟨k,hk⟩:=List.getElem?_of_mem hx;have:=hw (k+1) x (by simpa using hk);simpa using this]
       funext j;unfold jK vz;rw[Nat.zero_xor,iQ _ (hM s List.mem_cons_self j)]
     | succ i=>
       have h0:=hw 0 l rfl;simp at h0;rw[h0,AJ];refine ih ls w i r (fun r hr=>hM r (List.mem_cons_of_mem _ hr)) (by simpa using hl) (by simpa using h) fun k x hk=> ?_;have:=hw (k+1) x (by simpa using hk);simpa using this
theorem RedV.unit{M:List (Nat→Nat)}{ls:List Nat}(h:RedV M ls){i:Nat}{r:Nat→Nat}(hr:M[i]? =some r):∀(k:Nat) l,ls[k]? =some l→r l=if k=i then 1 else 0:=by
 intro k l hk;split
 ·rename_i e;subst e;exact h.one k r l hr hk
 ·rename_i e;exact h.zero k i r l hr hk (fun x=>e x.symm)
theorem RedV.eq_lco{M:List (Nat→Nat)}{ls:List Nat}(h:RedV M ls){v:Nat→Nat}(hv:Spn M v):nO M ls v=v:=by
 induction hv with
 | zero=>exact uY M ls vz fun _ _=>rfl
 | add c r v hc hr hs ih=>
   obtain⟨i,hi⟩:=List.getElem?_of_mem hr;rw[NA M ls c r v hc (h.byt r hr) hs.vb h.byt,ih,AK M ls r i r h.byt h.len hi (h.unit hi)]
theorem RedV.eq_zero{M:List (Nat→Nat)}{ls:List Nat}(h:RedV M ls){v:Nat→Nat}(hv:Spn M v)(h0:∀l∈ls,v l=0):v=vz:=by
 rw[←h.eq_lco hv,uY M ls v h0]
theorem JS(M:List (Nat→Nat)):∀(ls:List Nat) (w:Nat→Nat) (j:Nat),(∀(i:Nat) r l,M[i]? =some r→ls[i]? =some l→w l=0∨r j=0)→nO M ls w j=0:=by
 induction M with
 | nil=>intro ls w j _;rfl
 | cons r M ih=>
   intro ls w j h;cases ls with
   | nil=>rfl
   | cons l ls=>
     simp only[nO,jK];rw[ih ls w j fun i s x h1 h2=>h (i+1) s x (by simpa using h1) (by simpa using h2)];have:fm (w l) (r j)=0:=Dh.2 (h 0 r l rfl rfl);rw[this];rfl
theorem RedV.row{M:List (Nat→Nat)}{ls:List Nat}(h:RedV M ls){i l:Nat}(hl:ls[i]? =some l):∃r,M[i]? =some r:=by
 have:=(List.getElem?_eq_some_iff.1 hl).1;exact⟨_,ag (by rw[h.len];exact this)⟩
theorem RedV.first{M:List (Nat→Nat)}{ls:List Nat}(h:RedV M ls){v:Nat→Nat}(hv:Spn M v){j:Nat}(hj:v j≠0)(hlow:∀i,i<j→v i=0):j∈ls:=by
 apply Classical.byContradiction;intro hn;apply hj;rw[←h.eq_lco hv];refine JS M ls v j fun i r l hr hl=> ?_;rcases Nat.lt_trichotomy l j with h1 | h1 | h1
 ·exact .inl (hlow l h1)
 ·exact absurd (by rw[←h1];exact List.mem_of_getElem? hl) hn
 ·exact .inr (h.low i r l hr hl j h1)
theorem RedV.leads{M N:List (Nat→Nat)}{ls ms:List Nat}(hM:RedV M ls)(hN:RedV N ms)(h:∀r∈M,Spn N r):∀l∈ls,l∈ms:=by
 intro l hl;obtain⟨i,hi⟩:=List.getElem?_of_mem hl;obtain⟨r,hr⟩:=hM.row hi;refine hN.first (h r (List.mem_of_getElem? hr)) (j:=l) (by rw[hM.one i r l hr hi];decide) fun j hj=>hM.low i r l hr hi j hj
theorem qc{ls:List Nat}(h:ls.Pairwise (·< ·)):ls.Nodup:=h.imp fun h=>Nat.ne_of_lt h
theorem JU(ls:List Nat):∀ms:List Nat,ls.Pairwise (·< ·)→ms.Pairwise (·< ·)→(∀x,x∈ls↔x∈ms)→ls=ms:=by
 induction ls with
 | nil=>
   intro ms _ _ h;cases ms with
   | nil=>rfl
   | cons m ms=>have:=(h m).2 List.mem_cons_self;simp at this
 | cons l ls ih=>
   intro ms h1 h2 h;cases ms with
   | nil=>have:=(h l).1 List.mem_cons_self;simp at this
   | cons m ms=>
     rw[List.pairwise_cons] at h1 h2
     have e:l=m:=by
      have a:=(h l).1 List.mem_cons_self;have b:=(h m).2 List.mem_cons_self;rcases List.mem_cons.1 a with a | a
      ·exact a
      ·rcases List.mem_cons.1 b with b | b
       ·exact b.symm
       ·have:=h2.1 l a
        have:=h1.1 m b;omega
     subst e;congr 1;refine ih ms h1.2 h2.2 fun x=> ?_;constructor
     ·intro hx
      rcases List.mem_cons.1 ((h x).1 (List.mem_cons_of_mem _ hx)) with e | e
      ·subst e;exact absurd (h1.1 x hx) (Nat.lt_irrefl _)
      ·exact e
     ·intro hx
      rcases List.mem_cons.1 ((h x).2 (List.mem_cons_of_mem _ hx)) with e | e
      ·subst e;exact absurd (h2.1 x hx) (Nat.lt_irrefl _)
      ·exact e
theorem RedV.leads_eq{M N:List (Nat→Nat)}{ls ms:List Nat}(hM:RedV M ls)(hN:RedV N ms)(h1:∀r∈M,Spn N r)(h2:∀r∈N,Spn M r):ls=ms:=
 JU ls ms hM.up hN.up fun x=>⟨hM.leads hN h1 x,hN.leads hM h2 x⟩
theorem RedV.unique{M N:List (Nat→Nat)}{ls ms:List Nat}(hM:RedV M ls)(hN:RedV N ms)(h1:∀r∈M,Spn N r)(h2:∀r∈N,Spn M r):M=N:=by
 have e:=hM.leads_eq hN h1 h2;subst e;apply List.ext_getElem?;intro i;cases hm:M[i]? with
 | none=>
   rw[List.getElem?_eq_none_iff,hM.len,←hN.len] at hm;rw[List.getElem?_eq_none hm]
 | some r=>
   have hi:=(List.getElem?_eq_some_iff.1 hm).1;rw[ag (by rw[hN.len,←hM.len];exact hi)];have hn:N[i]? =some (N[i]'(by rw[hN.len,←hM.len];exact hi)):=ag _;generalize N[i]'(by rw[hN.len,←hM.len];exact hi)=s at*;congr 1;rw[←hN.eq_lco (h1 r (List.mem_of_getElem? hm))];exact AK N ls r i s hN.byt hN.len hn (hM.unit hm)
theorem RedV.le{M N:List (Nat→Nat)}{ls ms:List Nat}(hM:RedV M ls)(hN:RedV N ms)(h:∀r∈M,Spn N r):M.length≤N.length:=by
 rw[hM.len,hN.len];exact(qc hM.up).length_le_of_subset fun l hl=>hM.leads hN h l hl
theorem RedV.whole{M N:List (Nat→Nat)}{ls ms:List Nat}(hM:RedV M ls)(hN:RedV N ms)(h:∀r∈M,Spn N r)(hc:N.length≤M.length){v:Nat→Nat}(hv:Spn N v):Spn M v:=by
 have hsub:=hM.leads hN h
 have hms:∀l∈ms,l∈ls:=by
  intro l hl;apply Classical.byContradiction;intro hn;have h1:(l :: ls).Nodup:=List.nodup_cons.2 ⟨hn,qc hM.up⟩
  have h2:=h1.length_le_of_subset (l₂:=ms) fun x hx=>by
   rcases List.mem_cons.1 hx with e | e
   ·subst e;exact hl
   ·exact hsub x e
  have:=hM.len;have:=hN.len;simp at h2;omega
 have hsp:∀(M:List (Nat→Nat)) ls,(∀r∈M,Vb r)→∀v:Nat→Nat,Vb v→Spn M (nO M ls v):=by
  intro M
  induction M with
  | nil=>intro ls _ v _;exact .zero
  | cons r M ih=>
    intro ls hb v hv;cases ls with
    | nil=>exact .zero
    | cons l ls=>exact .add _ r _ (hv l) List.mem_cons_self ((ih ls (fun r hr=>hb r (List.mem_cons_of_mem _ hr)) v hv).sub fun r hr=>List.mem_cons_of_mem _ hr)
 have h1:=hsp M ls hM.byt v hv.vb;have h2:Spn N (jK 1 (nO M ls v) v):=Spn.ax hN.byt (by decide) (h1.trans hN.byt h) hv
 have h3:jK 1 (nO M ls v) v=vz:=by
  refine hN.eq_zero h2 fun l hl=> ?_;obtain⟨i,hi⟩:=List.getElem?_of_mem (hms l hl)
  have e:nO M ls v l=v l:=by
   obtain⟨r,hr⟩:=hM.row hi;have hu:=hM.unit hr
   have:∀(M:List (Nat→Nat)) (ls':List Nat) (i:Nat),M.length=ls'.length→ls'[i]? =some l→(∀(k:Nat) r,M[k]? =some r→r l=if k=i then 1 else 0)→nO M ls' v l=v l:=by
    intro M
    induction M with
    | nil=>intro ls' i h1 h2 _;cases ls' with
      | nil=>simp at h2
      | cons x y=>simp at h1
    | cons r M ih=>
      intro ls' i h1 h2 h3;cases ls' with
      | nil=>simp at h1
      | cons x ls'=>
        have h0:=h3 0 r rfl;cases i with
        | zero=>
          obtain rfl:x=l:=(by simpa using h2);simp at h0;have:nO M ls' v x=0:=JS M ls' v x fun k s y hs hy=>.inr (by have:=h3 (k+1) s (by simpa using hs);simpa using this);simp only[nO,jK];rw[this,h0,Nat.zero_xor,jN _ (hv.vb x)]
        | succ i=>
          simp at h0;simp only[nO,jK];rw[h0,bq,Nat.xor_zero];exact ih ls' i (by simpa using h1) (by simpa using h2) fun k s hs=>by have:=h3 (k+1) s (by simpa using hs);simpa using this
   refine this M ls i hM.len hi fun k s hs=> ?_;split
   ·rename_i e;subst e;exact hM.one k s l hs hi
   ·rename_i e;exact hM.zero i k s l hs hi e
  unfold jK;rw[e,iQ _ (hv.vb l),Nat.xor_self]
 have h4:v=nO M ls v:=by
  funext j;have:=congrFun h3 j;unfold jK vz at this;rw[iQ _ (h1.vb j)] at this;exact qf this
 rw[h4];exact h1
end Go.Proofs.YtofgapdnadbgkaaGreatDoor
