import Derived.Test.YtofgapdnadbgkaaGreatDoorW3
import Derived.Maps.AppendAt
import Derived.Laws.AppendOwnNone
set_option linter.unusedVariables false
set_option maxRecDepth 100000
set_option maxHeartbeats 400000000
namespace Go.Proofs.YtofgapdnadbgkaaGreatDoor
open Go.RowKit _root_.Go.Proofs.Tryz
theorem AA(c:Nat)(xs ys:List Nat)(B:Nat)(a b:Option Addr)(n d d2:Nat)(w:World)(hc:c<256)(hx:Rd w B a n (ba xs))(hy:Rd w B b n (ba ys))(hB:B≤w.heap.size)(hbx:By xs)(hby:By ys)(hn:n≤1000000):
 Calls prog 225 #[.int .u8 c,.slice a n d,.slice b n d2] w fun e w'=>∃v,e=.returned v∧OwnB w' w.heap.size v (kx c xs ys)∧Below w.heap.size w w':=by
 have lx:=hx.len;have ly:=hy.len;rw[bg] at lx ly;have hRl:(kx c xs ys).length=n:=by rw[fA (by omega)];exact ly
 have HRG:Hid (∀k,(kx c xs ys).getD k 0=ys.getD k 0 ^^^ fm c (xs.getD k 0)):=ae fun k=>jY (by omega) k;have hmk:=cQ hn;have HX:=ae (hx.more hB);have HY:=ae (hy.more hB);have HBX:=ae hbx;have HBY:=ae hby;have HRL:=ae hRl;clear hx hy hbx hby lx ly hRl;generalize kx c xs ys=R at*;go_enter func225,ntmps225
 go_wp2_with (simp only[hmk])
 have hB1:=Blk.new w 5 (bn (List.replicate n 0));have hb1:=(az w.heap.size w).alloc (ah _) (.cells (bn (List.replicate n 0)) 5);have HB:Hid (Blk (w.alloc (.cells (bn (List.replicate n 0)) 5)) w.heap.size 5 (bn (iw R 0))):=ae (by rw[vu,HRL.out];exact hB1);have HBL:=ae hb1;clear hB1 hb1 hmk;generalize w.alloc (.cells (bn (List.replicate n 0)) 5)=w1 at*;generalize hG:w.heap.size=G at*;have HG:=ae hG;clear hG;go_loopw [8,14] (fun _ i wr=>∃k:Nat,k≤n∧i=.int .i64 k∧Hid (Blk wr G 5 (bn (iw R k)))∧Hid (Below G w wr)) (fun _ i _=>n-(intOf i).toNat)
 case atStart=>exact⟨0,by omega,rfl,HB,HBL⟩
 case round=>
  clear HB HBL;obtain⟨k,hk,rfl,HB,HBL⟩:=hrel;by_cases hlt:k<n
  ·obtain⟨bx,ox,rfl,hbx,hcx⟩:=HX.out.atB hlt
   obtain⟨by',oy,rfl,hby,hcy⟩:=HY.out.atB hlt;have cx:=(HBL.out.cell (p:=⟨bx,ox+k,none⟩) hbx).trans (hcx k hlt);have cy:=(HBL.out.cell (p:=⟨by',oy+k,none⟩) hby).trans (hcy k hlt);have hx1:=getD_lt HBX.out k;have hy1:=getD_lt HBY.out k;have hrg:=HRG.out k;have hkR:k<R.length:=(by rw[HRL.out];exact hlt);have hset:=HB.out.set k (.int .u8 (R.getD k 0:Nat));rw[iq,xp hkR] at hset;have co:=(HB.out.cell k).trans (vq (by rw[xo (by omega)];exact hkR));rw[xq hkR] at co;have fo:=HB.out.frozen k;rw[hrg] at hset;generalize xs.getD k 0=x at*;generalize ys.getD k 0=y at*;have cM:Calls prog 282 #[.int .u8 c,.int .u8 x] wr.drew fun e w''=>e=.returned (.int .u8 (fm c x:Nat))∧w''=wr.drew:=(r9 c x hc hx1 wr.drew).mono fun e w' ⟨h1,h2⟩=>⟨h1,h2.symm⟩;have hz:=fU c x;generalize fm c x=z at*;have e1:=u8_xor_nat y z hy1 hz;have HS:=ae hset;have CM:=ae cM;clear hset hrg hcx hcy cM;generalize y ^^^ z=q at*;have hlt':(k:Int)<(n:Int):=(by omega);go_wp2_with fail
   go_still_tail 14,(by kernel_rfl)
   still_call CM.out
   repeat still_step
   refine wpStill_nil ?_;change wpList _ _ _ _ _ wr.drew;have co2:wr.drew.cell? ⟨G,k,none⟩=some (.int .u8 0):=co;have fo2:wr.drew.frozen? ⟨G,k,none⟩=false:=fo;have HS2:Hid (Blk (wr.drew.setCell ⟨G,k,none⟩ (.int .u8 (q:Nat))) G 5 (bn (iw R (k+1)))):=ae HS.out;have HB2:Hid (Below G w (wr.drew.setCell ⟨G,k,none⟩ (.int .u8 (q:Nat)))):=ae ((Below.drew HBL.out).setCell (ah _) _);clear HS HBL HB cx cy co fo CM;generalize wr.drew=w3 at*;go_wp2_with fail;go_roundw
   case rel=>(try((repeat apply Exists.intro);refine⟨?_,rfl⟩));exact⟨k+1,by omega,by go_num,HS2,HB2⟩
   case measure=>simp[intOf];omega
  ·obtain rfl:k=n:=by omega
   have hf:iw R k=R:=(by rw[←HRL.out];exact vw R);rw[hf] at HB;have ho:=lf HB.out (C:=G) (ah _) (by rw[HRL.out];exact hn);rw[HRL.out] at ho;have HO:=ae ho;clear ho hf HB;go_wp2_with fail;go_ret;exact⟨_,rfl,by rw[HG.out];exact HO.out,by rw[HG.out];exact HBL.out⟩
theorem JO{c:Nat}{xs:List Nat}{n:Nat}(h:xs.length=n):kx c xs (List.replicate n 0)=jH c xs:=by
 refine List.ext_getElem (by rw[fA (by rw[aN];exact h),aN,lh,h]) fun i h1 h2=> ?_;have e:=jY (c:=c) (a:=xs) (b:=List.replicate n 0) (by rw[aN];exact h) i;rw[af,ag h1] at e;have e2:=iO c xs i;rw[af,ag h2] at e2;simp only[Option.getD_some] at e e2;rw[e,e2];have:(List.replicate n 0).getD i 0=0:=by rw[af,List.getElem?_replicate];split <;> rfl
 rw[this,Nat.zero_xor]
theorem By.zeros(n:Nat):By (List.replicate n 0):=fun x hx=>by rw[List.eq_of_mem_replicate hx];decide
theorem kX{w:World}{g:Nat}{l:List Nat}(h:Blk w g 5 (bn l)):Rd w w.heap.size (some ⟨g,0,none⟩) l.length (ba l):=by
 refine⟨bg l,fun _=>⟨g,0,rfl,h.lt,fun i u hu=> ?_⟩⟩;rw[Nat.zero_add,h.cell i];simpa[bn] using hu
theorem GA(c:Nat)(xs:List Nat)(B:Nat)(a:Option Addr)(n d:Nat)(w:World)(hc:c<256)(hx:Rd w B a n (ba xs))(hB:B≤w.heap.size)(hbx:By xs)(hn:n≤1000000):
 Calls prog 223 #[.int .u8 c,.slice a n d] w fun e w'=>∃v,e=.returned v∧OwnB w' w.heap.size v (jH c xs)∧Below w.heap.size w w':=by
 have lx:=hx.len;rw[bg] at lx;have hmk:=cQ hn;have hb1:=(az w.heap.size w).alloc (ah _) (.cells (bn (List.replicate n 0)) 5);have hr:=kX (Blk.new w 5 (bn (List.replicate n 0)));rw[aN] at hr;have cA:=AA c xs (List.replicate n 0) (w.alloc (.cells (bn (List.replicate n 0)) 5)).heap.size a (some ⟨w.heap.size,0,none⟩) n d n (w.alloc (.cells (bn (List.replicate n 0)) 5)) hc ((hx.below hb1 hB).more (by simp;omega)) hr (ah _) hbx (By.zeros n) hn;rw[JO lx] at cA;have hz:(w.alloc (.cells (bn (List.replicate n 0)) 5)).heap.size=w.heap.size+1:=by simp
 have CA:=ae cA;have HB1:=ae hb1;have HZ:=ae hz;clear cA hr hx hbx lx hb1 hz;go_enter func223,ntmps223
 go_wp2_with (simp only[hmk])
 generalize w.alloc (.cells (bn (List.replicate n 0)) 5)=w1 at*;refine CA.out.mono ?_;rintro e w2 ⟨v,rfl,ho,hb⟩;have HO:=ae (ho.base (C':=w.heap.size) (by rw[HZ.out];omega));have HB:=ae (HB1.out.trans (hb.mono (by rw[HZ.out];omega)));clear ho hb;go_wp2_with fail;go_ret;exact⟨_,rfl,HO.out,HB.out⟩
theorem JK{l:List Nat}{k:Nat}(h0:∀i,i<k→l.getD i 0=0)(hk:l.getD k 0≠0):iE l=(k:Int):=by
 obtain⟨h1,h2⟩:=uI hk h0;unfold iE;rw[h1,if_pos h2]
theorem Cw{l:List Nat}(h0:∀i,i<l.length→l.getD i 0=0):iE l= -1:=by
 unfold iE;split
 ·rename_i h
  exact absurd (h0 _ h) (Aj h).1
 ·rfl
theorem LQ(x:Nat)(w:World)(hx:x<256):
 Calls prog 132 #[.int .u8 x] w fun e w'=>e=.returned (.bool (decide (x≠0)))∧w=w':=by
 go_enter func132,ntmps132;go_wp2_with fail;go_ret;exact⟨by congr 2;by_cases h:x=0 <;> simp[h],rfl⟩
theorem Cx(xs:List Nat)(B:Nat)(a:Option Addr)(n d:Nat)(w:World)(hx:Rd w B a n (ba xs))(hbx:By xs)(hn:n≤maxLen):
 Calls prog 131 #[.slice a n d,.func (.func 132) #[] #[]] w fun e w'=>e=.returned (.int .i64 (iE xs))∧∃j,w'=w.drewN j:=by
 unfold maxLen at hn;have HLX:Hid (xs.length=n):=ae (by have:=hx.len;rwa [bg] at this);have HX:=ae hx;have HBX:=ae hbx;clear hx hbx;go_enter func131,ntmps131;go_wp2_with fail;go_loopw [5,8] (fun _ i wr=>∃k:Nat,k≤n∧i=.int .i64 k∧Hid (∀i,i<k→xs.getD i 0=0)∧Hid (∃j,wr=w.drewN j)) (fun _ i _=>n-(intOf i).toNat)
 case atStart=>exact⟨0,by omega,rfl,ae fun i h=>absurd h (by omega),ae ⟨0,rfl⟩⟩
 case round=>
  obtain⟨k,hk,rfl,H0,HJ⟩:=hrel;obtain⟨j,hj⟩:=HJ.out;clear HJ;by_cases hlt:k<n
  ·obtain⟨bx,ox,rfl,_,hcx⟩:=HX.out.atB hlt
   have cx:wr.cell? ⟨bx,ox+k,none⟩=some (.int .u8 (xs.getD k 0:Nat)):=(by rw[hj];exact hcx k hlt);have hx1:=getD_lt HBX.out k;clear hcx;generalize hg:xs.getD k 0=x at cx hx1;have HGX:=ae hg;have CL:=ae fun w=>LQ x w hx1;have hlt':(k:Int)<(n:Int):=(by omega);have HJ:=ae hj;clear hj hg;by_cases hx0:x=0
   ·subst hx0
    go_wp2_with fail;refine(CL.out _).mono ?_;rintro e w2 ⟨rfl,rfl⟩;go_wp2_with fail;go_roundw
    case rel=>exact⟨k+1,by omega,by go_num,ae fun i h=>by rcases Nat.lt_or_ge i k with h1 | h1;exact H0.out i h1;rw[show i=k by omega];exact HGX.out,ae ⟨j,HJ.out⟩⟩
    case measure=>simp[intOf];omega
   ·have hd:decide (x≠0)=true:=decide_eq_true hx0
    have hl:=JK H0.out (by rw[HGX.out];exact hx0);have HLD:=ae hl;rw[hd] at CL;clear hl hd;go_wp2_with fail;refine(CL.out _).mono ?_;rintro e w2 ⟨rfl,rfl⟩;go_wp2_with fail;go_ret;exact⟨by rw[HLD.out];rfl,j,HJ.out⟩
  ·obtain rfl:k=n:=by omega
   have hl:=Cw (l:=xs) fun i h=>H0.out i (by rw[←HLX.out];exact h);have HLD:=ae hl;clear hl;go_wp2_with fail;go_ret;exact⟨by rw[HLD.out];rfl,j,rfl⟩
theorem JL(xs:List Nat)(B:Nat)(a:Option Addr)(n d:Nat)(w:World)(hx:Rd w B a n (ba xs))(hbx:By xs)(hn:n≤maxLen):
 Calls prog 65 #[.slice a n d] w fun e w'=>e=.returned (.int .i64 (iE xs))∧∃j,w'=w.drewN j:=by
 have CI:=ae (Cx xs B a n d w hx hbx hn);clear hx hbx hn;go_enter func65,ntmps65;go_wp2_with fail;refine CI.out.mono ?_;rintro e w2 ⟨rfl,j,rfl⟩;go_wp2_with fail;go_ret;exact⟨rfl,j,rfl⟩
def dI(n k:Nat):List Nat:=(List.replicate n 0).set k 1
theorem gD(n k:Nat):(dI n k).length=n:=by simp[dI]
theorem mV(n k:Nat):By (dI n k):=by
 intro x hx;rcases List.mem_or_eq_of_mem_set hx with h | h
 ·exact By.zeros n x h
 ·subst h;decide
theorem lW(n k i:Nat):(dI n k).getD i 0=if i=k∧k<n then 1 else 0:=by
 unfold dI;rw[af,List.getElem?_set,aN];by_cases h:k=i
 ·subst h
  rw[if_pos rfl];by_cases h2:k<n
  ·rw[if_pos h2,if_pos ⟨rfl,h2⟩];rfl
  ·rw[if_neg h2,if_neg (fun h=>h2 h.2)];rfl
 ·rw[if_neg h,if_neg (fun h2=>h h2.1.symm),List.getElem?_replicate]
  split <;> rfl
theorem Mq(n at_:Int)(w:World)(hno:¬(1≤n∧n≤64∧0≤at_∧at_<n)):
 Calls prog 134 #[.int .i64 n,.int .i64 at_] w fun e w'=>e=.returned (.slice none 0 0)∧w=w':=by
 go_enter func134,ntmps134;go_wp2_with fail
 all_goals first | omega | (go_ret;exact⟨rfl,rfl⟩) | skip
theorem JM(n k:Nat)(w:World)(hn:n≤64)(hk:k<n):
 Calls prog 134 #[.int .i64 n,.int .i64 k] w fun e w'=>∃v,e=.returned v∧OwnB w' w.heap.size v (dI n k)∧Below w.heap.size w w':=by
 have hmk:=cQ (n:=n) (by omega);have h1:¬(n:Int)<1:=by omega
 have h2:¬(n:Int)>64:=by omega
 have h3:¬(k:Int)<0:=by omega
 have h4:(k:Int)<(n:Int):=by omega
 have hget:(bn (List.replicate n 0))[k]? =some (.int .u8 0):=by
  rw[vq (by rw[aN];exact hk),af,List.getElem?_replicate,if_pos hk];rfl
 go_enter func134,ntmps134
 go_wp2_with (simp only[hmk])
 go_ret;have he:(bn (List.replicate n 0)).setIfInBounds k (.int .u8 1)=bn (dI n k):=iq _ _ 1;have HO:=lf (l:=dI n k) (Blk.new w 5 (bn (dI n k))) (ah _) (by rw[gD];omega);rw[gD] at HO;rw[he];exact⟨_,rfl,HO,(az _ _).alloc (ah _) _⟩
theorem JN(a:Option Addr)(n c m:Nat)(w:World)(hc:n≤c)(hx:c≤maxLen)(hm:m≤maxLen)(hnil:a=none→c=0):
 Calls prog 5 #[.slice a n c,.int .i64 m] w fun e w'=>e=.returned (.slice a (Nat.min n m) c)∧w=w':=by
 unfold maxLen at hx hm;go_enter func5,ntmps5;go_wp2_with fail
 ·have:Nat.min n m=m:=Nat.min_eq_right (by omega)
  go_ret;exact⟨by rw[this];rfl,rfl⟩
 ·have:Nat.min n m=n:=Nat.min_eq_left (by omega)
  go_ret;exact⟨by rw[this];rfl,rfl⟩
theorem zb{P:Program}(w:World){ops:Array Oper}{rest:List Oper}{o:Oper}{a:Act}{Q:Exit→Act→World→Prop}(hgd:o.guard=none)(s x:Operand)(t:TypeId)
 (ho:o.op=.call { callee:=.builtin .append,args:=#[s,x],argTypes:=#[t,t] })
 (base:Nat)(e:TypeId)(z:Value)(bytes:Nat)(ht:P.underlying t=some (.slice e))(hi:(P.info? e).map (fun i=>(i.zero,i.size,i.bytes))=some (some z,1,bytes))(hzs:z.cells.size=1)
 (v:Value)(n:Nat)(xs:List Value)(hs:a.eval s=v)(hown:w.ownsRow base e 1 v n xs)
 (B:Nat)(ad:Option Addr)(m c:Nat)(news:List Value)(hx:a.eval x=.slice ad m c)(hnil:ad=none→c=0)(hr:Rd w B ad m news)(h1:∀u∈news,u.oneCell'=true)
 (hbytes:(n+m)*bytes≤140737488355328)(h63:n+m≤maxLen)(hbase:base≤w.heap.size)
 (h:∀v' w',w'.ownsRow base e 1 v' (n+m) (xs++news)→w.grownBy w' v.ownBlock→(v'.ownBlock=v.ownBlock∨v'.ownBlock=some w.heap.size)→wpList P ops Q rest (a.put o.dst v') w'):wpList P ops Q (o :: rest) a w:=by
 obtain⟨i,hi1,hi2,hi3,hi4⟩:=info_parts hi;cases ad with
 | none=>
   obtain rfl:=hnil rfl
   have hm:m=0:=by
    rcases Nat.eq_zero_or_pos m with h | h
    ·exact h
    ·obtain⟨_,_,e,_⟩:=hr.2 h;simp at e
   subst hm;have hn:news=[]:=List.eq_nil_of_length_eq_zero hr.1;subst hn;refine wpList_append_own_none hgd s x t ho base e i 1 ht hi1 v n xs hs hown hx (h v w (by simpa using hown) ⟨rfl,rfl,rfl,ah _,fun _ _ _=>rfl⟩ (.inl rfl))
 | some ad=>
   refine wpList_append_own_at w hgd s x t ho base e i z 1 bytes ht hi1 hi2 hi3 hi4 hzs (by decide) v n xs hs hown ad m c news hx (by rw[hr.1];omega) ?_ h1 h63 hbytes hbase fun v' w' h1 h2 _ h3=>h v' w' h1 h2 h3;intro j u hj
   have hjm:j<m:=by
    have:=(List.getElem?_eq_some_iff.1 hj).1;rw[hr.1] at this;exact this
   obtain⟨b,off,e,_,hc⟩:=hr.2 (by omega);obtain rfl:=Option.some.inj e;rw[Addr.add_lit];exact hc j u hj
theorem jo{P:Program}(w:World){ops:Array Oper}{rest:List Oper}{o:Oper}{a:Act}{Q:Exit→Act→World→Prop}(hgd:o.guard=none)(s x:Operand)(t:TypeId)
 (ho:o.op=.call { callee:=.builtin .append,args:=#[s,x],argTypes:=#[t,t] })
 (base:Nat)(e:TypeId)(z:Value)(bytes:Nat)(ht:P.underlying t=some (.slice e))(hi:(P.info? e).map (fun i=>(i.zero,i.size,i.bytes))=some (some z,1,bytes))(hzs:z.cells.size=1)
 (v:Value)(n:Nat)(xs:List Value)(hs:a.eval s=v)(hown:w.ownsRow base e 1 v n xs)
 (g:Nat)(u:Value)(hx:a.eval x=.slice (some ⟨g,0,none⟩) 1 1)(hu:w.cell? ⟨g,0,none⟩=some u)(h1:u.oneCell'=true)
 (hbytes:(n+1)*bytes≤140737488355328)(h63:n+1≤maxLen)(hbase:base≤w.heap.size)
 (h:∀v' w',w'.ownsRow base e 1 v' (n+1) (xs++[u])→w.grownBy w' v.ownBlock→(v'.ownBlock=v.ownBlock∨v'.ownBlock=some w.heap.size)→wpList P ops Q rest (a.put o.dst v') w'):wpList P ops Q (o :: rest) a w:=by
 obtain⟨i,hi1,hi2,hi3,hi4⟩:=info_parts hi;refine wpList_append_own_at w hgd s x t ho base e i z 1 bytes ht hi1 hi2 hi3 hi4 hzs (by decide) v n xs hs hown ⟨g,0,none⟩ 1 1 [u] hx rfl ?_ (by simpa using h1) h63 hbytes hbase fun v' w' h1 h2 _ h3=>h v' w' h1 h2 h3;intro j u' hj
 match j,hj with
 | 0,hj=>simp at hj;subst hj;simpa[Addr.add] using hu
theorem jC{w:World}{base e n:Nat}{v:Value}{xs:List Value}(h:w.ownsRow base e 1 v n xs):∃a c,v=.slice a n c∧Rd w w.heap.size a n xs∧(a=none→c=0):=by
 obtain⟨a,c,e1,hr⟩:=mE h;refine⟨a,c,e1,hr,fun ha=> ?_⟩;subst ha;rcases h.2 with⟨h2,_⟩ | ⟨g,cap,cur,h2,_⟩
 ·rw[h2] at e1;simp at e1;exact e1.2.symm
 ·rw[h2] at e1;simp at e1
structure vC where
 ok:World→Prop
 stb:∀w w',ok w→Below w.heap.size w w'→ok w'
def jp(a:Option Addr)(n:Nat)(l:List Value):vC:=⟨fun w=>Rd w w.heap.size a n l,fun _ _ h hb=>(h.below hb (ah _)).more hb.size⟩
def bu(g:Nat)(t:TypeId)(cs:Array Value):vC:=⟨fun w=>Blk w g t cs,fun _ _ h hb=>h.below hb h.lt⟩
def eFp(p:Option Addr):vC:=⟨fun w=>Fp w p,fun _ _ h hb=>by
 rcases h with h | ⟨g,h1,h2⟩
 ·exact .inl h
 ·exact .inr ⟨g,h1,h2.below hb (Blk.lt h2)⟩⟩
def Sx(w0 w:World)(L:List vC):Prop:=Below w0.heap.size w0 w∧∀e∈L,e.ok w
theorem Sx.nil(w:World):Sx w w []:=⟨az _ _,by simp⟩
theorem Sx.step{w0 w w':World}{L:List vC}(h:Sx w0 w L)(hb:Below w.heap.size w w'):Sx w0 w' L:=⟨h.1.trans (hb.mono h.1.size),fun e he=>e.stb _ _ (h.2 e he) hb⟩
theorem Sx.drewN{w0 w:World}{L:List vC}(h:Sx w0 w L)(j:Nat):Sx w0 (w.drewN j) L:=h.step (below_drewN (az _ _) j)
theorem Sx.alloc{w0 w:World}{L:List vC}(h:Sx w0 w L)(o:Obj):Sx w0 (w.alloc o) L:=h.step ((az _ _).alloc (ah _) o)
theorem Sx.add{w0 w:World}{L:List vC}(h:Sx w0 w L)(e:vC)(he:e.ok w):Sx w0 w (e :: L):=⟨h.1,fun f hf=>by
 rcases List.mem_cons.1 hf with rfl | hf
 ·exact he
 ·exact h.2 f hf⟩
theorem Sx.get{w0 w:World}{L:List vC}(h:Sx w0 w L)(i:Nat){e:vC}(hi:L[i]? =some e):e.ok w:=h.2 e (List.mem_of_getElem? hi)
theorem Sx.rd{w0 w:World}{L:List vC}(h:Sx w0 w L)(i:Nat){a:Option Addr}{n:Nat}{l:List Value}(hi:L[i]? =some (jp a n l)):Rd w w.heap.size a n l:=h.get i hi
theorem Sx.fp{w0 w:World}{L:List vC}(h:Sx w0 w L)(i:Nat){p:Option Addr}(hi:L[i]? =some (eFp p)):Fp w p:=h.get i hi
theorem Sx.blk{w0 w:World}{L:List vC}(h:Sx w0 w L)(i:Nat){g:Nat}{t:TypeId}{cs:Array Value}(hi:L[i]? =some (bu g t cs)):Blk w g t cs:=h.get i hi
theorem OwnB.rd2{w:World}{C:Nat}{v:Value}{l:List Nat}{n:Nat}(h:OwnB w C v l)(hn:l.length=n):∃a c,v=.slice a n c∧(jp a n (ba l)).ok w∧(a=none→c=0):=by
 subst hn;exact jC h
def tmp(x:List (List Nat))(v:Nat→Nat):Nat→Nat→Nat
 | 0=>vz
 | k+1=>jK (v k) (vO (x.getD k [])) (tmp x v k)
theorem Ef{n:Nat}{x:List (List Nat)}(hx:Wf n x){v:Nat→Nat}(hv:Vb v)(k:Nat)(hk:k≤x.length):Spn (x.map vO) (tmp x v k):=by
 induction k with
 | zero=>exact .zero
 | succ k ih=>exact Spn.ax hx.vb (hv k) (hx.spn (by omega)) (ih (by omega))
def oG(w:Nat)(r:List Nat)(x:List (List Nat)):Nat→List Nat
 | 0=>List.replicate w 0
 | k+1=>kx (r.getD k 0) (x.getD k []) (oG w r x k)
def jd(a x:List (List Nat)):List (List Nat):=a.map fun r=>oG (wid x) r x x.length
theorem yD{w:Nat}{r:List Nat}{x:List (List Nat)}(hx:Wf w x)(k:Nat)(hk:k≤x.length):(oG w r x k).length=w∧(∀y∈oG w r x k,y<256)∧vO (oG w r x k)=tmp x (vO r) k:=by
 induction k with
 | zero=>
   refine⟨by simp[oG],fun y hy=> ?_,?_⟩
   ·have:=List.eq_of_mem_replicate hy
    omega
   ·exact D8 (n:=w) (by simp[oG]) fun j hj=>by simp[oG,hj]
 | succ k ih=>
   obtain⟨h1,h2,h3⟩:=ih (by omega);have hg:=hx.get (i:=k) (by omega);simp only[oG,tmp];refine⟨by rw[fA (by omega)];exact h1,pK h2,?_⟩;rw[Ml (by omega),h3];rfl
theorem Eg{w:Nat}{a x:List (List Nat)}(hx:Wf w x)(h0:x≠[]):Wf w (jd a x):=by
 intro r hr;obtain⟨y,_,rfl⟩:=List.mem_map.1 hr;rw[kU hx h0];have:=yD (r:=y) hx x.length (ah _);exact⟨this.1,this.2.1⟩
def cG(a b:List (List Nat)):List (List Nat):=List.zipWith (·++ ·) a b
theorem dU{a b:List (List Nat)}(h:a.length=b.length):(cG a b).length=a.length:=by unfold cG;rw[List.length_zipWith];omega
theorem jr{a b:List (List Nat)}(h:a.length=b.length)(i:Nat):(cG a b).getD i []=a.getD i []++b.getD i []:=by
 unfold cG;simp only[af,List.getElem?_zipWith];rcases Nat.lt_or_ge i a.length with hi | hi
 ·rw[ag hi,ag (show i<b.length by omega)];rfl
 ·rw[List.getElem?_eq_none hi,List.getElem?_eq_none (show b.length≤i by omega)];rfl
theorem tu{n k:Nat}{a b:List (List Nat)}(h:a.length=b.length)(ha:Wf n a)(hb:Wf k b):Wf (n+k) (cG a b):=by
 refine uC fun i hi=> ?_;rw[dU h] at hi;rw[jr h];have h1:=ha.get hi;have h2:=hb.get (i:=i) (by omega);refine⟨by rw[aJ];omega,fun x hx=> ?_⟩;rcases List.mem_append.1 hx with hx | hx
 ·exact h1.2 x hx
 ·exact h2.2 x hx
theorem xB{n:Nat}{L:List (List Nat)}{i j:Nat}(hj:j<n):gt (L.map (List.take n)) i j=gt L i j:=by
 unfold gt;simp only[af,List.getElem?_map];cases L[i]? with
 | none=>rfl
 | some r=>simp[hj]
theorem getD_map{f:List Nat→List Nat}(h0:f []=[])(L:List (List Nat))(i:Nat):(L.map f).getD i []=f (L.getD i []):=by
 simp only[af,List.getElem?_map];cases L[i]? with
 | none=>exact h0.symm
 | some r=>rfl
theorem KI{A B:List (List Nat)}(hl:A.length=B.length)(h:∀i,i<A.length→A.getD i []=B.getD i []):A=B:=by
 refine List.ext_getElem hl fun i h1 h2=> ?_;have:=h i h1;simpa[af,h1,h2] using this
theorem ET{n:Nat}{L:List (List Nat)}{col:Nat}(hc:col<n):∀k i,lw (L.map (List.take n)) col i k=lw L col i k:=by
 intro k
 induction k with
 | zero=>intro i;rfl
 | succ k ih=>intro i;simp only[lw];rw[xB hc,ih]
structure MH (f:List Nat→List Nat):Prop where
 nil:f []=[]
 ax:∀c a b,f (kx c a b)=kx c (f a) (f b)
 sc:∀c a,f (jH c a)=jH c (f a)
theorem ze(n:Nat):MH (List.take n):=⟨List.take_nil,fun c a b=>by unfold kx;rw[List.take_zipWith],fun c a=>by unfold jH;rw[List.map_take]⟩
theorem Ih{f:List Nat→List Nat}(hf:MH f){L:List (List Nat)}{top col p:Nat}(ht:top<L.length)(hp:p<L.length)(i:Nat):
 f ((iK L top col p).getD i [])=if i=top then jH (fi (gt L p col)) ((L.map f).getD p []) else (L.map f).getD (sg top p i) []:=by
 rw[lQ ht hp,getD_map hf.nil,getD_map hf.nil];split
 ·exact hf.sc _ _
 ·rfl
theorem Bm{f:List Nat→List Nat}(hf:MH f){L:List (List Nat)}(top col k:Nat){i:Nat}(hi:i<L.length):
 f ((bG L top col k).getD i [])=if i<k∧i≠top then kx (gt L i col) ((L.map f).getD top []) ((L.map f).getD i []) else (L.map f).getD i []:=by
 rw[eO top col k hi,getD_map hf.nil,getD_map hf.nil];split
 ·exact hf.ax _ _ _
 ·rfl
theorem EU{n:Nat}{L:List (List Nat)}{top col:Nat}(hc:col<n):iD (L.map (List.take n)) top col=((iD L top col).1.map (List.take n),(iD L top col).2):=by
 unfold iD;rw[ET hc,aG];cases hf:lw L col top (L.length-top) with
 | none=>rfl
 | some p=>
   obtain⟨p1,p2,p3,-⟩:=kL _ _ _ hf;have hp:p<L.length:=(by omega);have ht:top<L.length:=(by omega);simp only;congr 1;refine KI (by simp[dZ,fK]) fun i hi=> ?_;rw[dZ,fK,aG] at hi;have hpl:(L.map (List.take n)).length=L.length:=aG _
   have hpv:∀i,(iK (L.map (List.take n)) top col p).getD i []=((iK L top col p).getD i []).take n:=fun i=>by
    rw[lQ (by omega) (by omega),xB hc,Ih (ze n) ht hp]
   rw[getD_map List.take_nil,Bm (ze n) top col _ (by rw[fK];exact hi),eO top col _ (by rw[fK];omega)]
   have hg:gt (iK (L.map (List.take n)) top col p) i col=gt (iK L top col p) i col:=by
    conv=>lhs;unfold gt
    rw[hpv,←getD_map List.take_nil];exact xB hc
   rw[hg,hpv,hpv,getD_map List.take_nil,getD_map List.take_nil]
theorem Ii{n:Nat}{L:List (List Nat)}(col:Nat)(hc:col≤n):bI (L.map (List.take n)) col=((bI L col).1.map (List.take n),(bI L col).2):=by
 induction col with
 | zero=>rfl
 | succ col ih=>
   simp only[bI];rw[ih (by omega)];exact EU (by omega)
theorem Bn{n:Nat}{a b:List (List Nat)}(h:a.length=b.length)(ha:Wf n a):(cG a b).map (List.take n)=a:=by
 refine KI (by rw[aG,dU h]) fun i hi=> ?_;rw[aG,dU h] at hi;rw[getD_map List.take_nil,jr h,List.take_append_of_le_length (by rw[(ha.get hi).1];exact ah _),aO (by rw[(ha.get hi).1];exact ah _)]
theorem tv{n:Nat}{a b:List (List Nat)}(h:a.length=b.length)(ha:Wf n a){col:Nat}(hc:col≤n):(bI (cG a b) col).2=(bI a col).2∧(bI (cG a b) col).1.map (List.take n)=(bI a col).1:=by
 have:=Ii (L:=cG a b) col hc;rw[Bn h ha] at this;rw[this];exact⟨rfl,rfl⟩
theorem tz{n:Nat}{a:List (List Nat)}(ha:Wf n a)(h0:a≠[]):(dh a).length=(bI a n).2:=by
 obtain⟨ls,hi⟩:=ic ha n;unfold dh;rw[kU ha h0,aI];have:=hi.le;omega
theorem zf{n:Nat}{ls:List Nat}(h:ls.Pairwise (·< ·))(hn:∀l∈ls,l<n)(hl:ls.length=n):ls=List.range n:=by
 refine JU ls _ h (List.pairwise_lt_range) fun x=>⟨fun hx=>List.mem_range.2 (hn x hx),fun hx=> ?_⟩;apply Classical.byContradiction;intro hc;have h1:(x :: ls).Nodup:=List.nodup_cons.2 ⟨hc,qc h⟩
 have h2:=h1.length_le_of_subset (l₂:=List.range n) fun y hy=>by
  rcases List.mem_cons.1 hy with e | e
  ·subst e;exact hx
  ·exact List.mem_range.2 (hn y e)
 simp at h2;omega
theorem EW(M:List (Nat→Nat)):∀(ls:List Nat) (u v:Nat→Nat),(∀l∈ls,u l=v l)→nO M ls u=nO M ls v:=by
 induction M with
 | nil=>intro ls u v _;rfl
 | cons r M ih=>
   intro ls u v h;cases ls with
   | nil=>rfl
   | cons l ls=>simp only[nO];rw[ih ls u v fun x hx=>h x (List.mem_cons_of_mem _ hx),h l List.mem_cons_self]
theorem RedV.ext{M:List (Nat→Nat)}{ls:List Nat}(h:RedV M ls){u v:Nat→Nat}(hu:Spn M u)(hv:Spn M v)(he:∀l∈ls,u l=v l):u=v:=by
 rw[←h.eq_lco hu,←h.eq_lco hv];exact EW M ls u v he
def qV(n i:Nat):List Nat:=(List.range n).map fun j=>if j=i then 1 else 0
def ia(n:Nat)(x:List (List Nat)):List (List Nat):=(List.range n).map fun i=>qV n i++x.getD i []
theorem kE(n i:Nat):(qV n i).length=n:=by simp[qV]
theorem EX{n i j:Nat}(hj:j<n):(qV n i).getD j 0=if j=i then 1 else 0:=by simp[qV,hj]
theorem EY(n i:Nat):∀x∈qV n i,x<256:=by
 intro x hx;simp only[qV,List.mem_map] at hx;obtain⟨j,_,rfl⟩:=hx;split <;> decide
theorem fP(n:Nat)(x:List (List Nat)):(ia n x).length=n:=by simp[ia]
theorem mb{n:Nat}{x:List (List Nat)}{i:Nat}(hi:i<n):(ia n x).getD i []=qV n i++x.getD i []:=by simp[ia,hi]
theorem oZ{n k:Nat}{x:List (List Nat)}(hx:Wf k x)(hl:x.length=n):Wf (n+k) (ia n x):=by
 refine uC fun i hi=> ?_;rw[fP] at hi;rw[mb hi];have h1:=hx.get (i:=i) (by omega);refine⟨by rw[aJ,kE];omega,fun y hy=> ?_⟩;rcases List.mem_append.1 hy with hy | hy
 ·exact EY n i y hy
 ·exact h1.2 y hy
theorem gK{n:Nat}{x:List (List Nat)}{i j:Nat}(hi:i<n)(hj:j<n):vO ((ia n x).getD i []) j=if j=i then 1 else 0:=by
 rw[mb hi];unfold vO;rw[af,List.getElem?_append_left (by rw[kE];exact hj),←af];exact EX hj
theorem qW{n:Nat}{x:List (List Nat)}{i j:Nat}(hi:i<n)(hj:n≤j):vO ((ia n x).getD i []) j=vO (x.getD i []) (j-n):=by
 rw[mb hi];unfold vO;rw[af,List.getElem?_append_right (by rw[kE];exact hj),kE,←af]
theorem tC{M:List (List Nat)}{i:Nat}{r:Nat→Nat}(h:(M.map vO)[i]? =some r):i<M.length∧r=vO (M.getD i []):=by
 rw[List.getElem?_map] at h;rcases Nat.lt_or_ge i M.length with hi | hi
 ·rw[ag hi] at h
  refine⟨hi,?_⟩;rw[af,ag hi];simpa using h.symm
 ·rw[List.getElem?_eq_none hi] at h;simp at h
theorem wJ{n k:Nat}{x:List (List Nat)}(hx:Wf k x)(hl:x.length=n):RedV ((ia n x).map vO) (List.range n):=by
 have hr:∀ {i l:Nat},(List.range n)[i]? =some l→l=i∧i<n:=fun {i l} h=>by
  have hi:=(List.getElem?_eq_some_iff.1 h).1;rw[List.length_range] at hi;rw[List.getElem?_range hi] at h;exact⟨by simpa using h.symm,hi⟩
 refine⟨by simp[fP],List.pairwise_lt_range,?_,?_,?_,(oZ hx hl).vb⟩
 ·intro i r l h1 h2
  obtain⟨rfl,hi⟩:=hr h2;obtain⟨-,rfl⟩:=tC h1;rw[gK hi hi,if_pos rfl]
 ·intro i j r l h1 h2 hne
  obtain⟨rfl,hi⟩:=hr h2;obtain⟨hj,rfl⟩:=tC h1;rw[fP] at hj;rw[gK hj hi,if_neg fun e=>hne e.symm]
 ·intro i r l h1 h2 j hj
  obtain⟨rfl,hi⟩:=hr h2;obtain⟨-,rfl⟩:=tC h1;rw[gK hi (by omega),if_neg (by omega)]
theorem wK{n:Nat}{x:List (List Nat)}{v:Nat→Nat}(hv:Vb v):∀(k j:Nat),k≤n→j<n→tmp (ia n x) v k j=if j<k then v j else 0:=by
 intro k
 induction k with
 | zero=>intro j _ _;rfl
 | succ k ih=>
   intro j hk hj;simp only[tmp,jK];rw[ih j (by omega) hj,gK (by omega) hj];by_cases h1:j=k
   ·subst h1;rw[if_neg (Nat.lt_irrefl _),if_pos rfl,if_pos (by omega),Nat.zero_xor,jN _ (hv j)]
   ·rw[if_neg h1,bq,Nat.xor_zero]
    by_cases h2:j<k
    ·rw[if_pos h2,if_pos (by omega)]
    ·rw[if_neg h2,if_neg (by omega)]
theorem Bo{n:Nat}{x:List (List Nat)}{v:Nat→Nat}:∀(k j:Nat),k≤n→n≤j→tmp (ia n x) v k j=tmp x v k (j-n):=by
 intro k
 induction k with
 | zero=>intro j _ _;rfl
 | succ k ih=>
   intro j hk hj;simp only[tmp,jK];rw[ih j (by omega) hj,qW (by omega) hj]
theorem EZ{n k:Nat}{x:List (List Nat)}(hx:Wf k x)(hl:x.length=n){v:Nat→Nat}(hv:Spn ((ia n x).map vO) v):v=tmp (ia n x) v n:=by
 have hw:=oZ hx hl;refine(wJ hx hl).ext hv (Ef hw hv.vb n (by rw[fP];exact ah _)) fun l hl'=> ?_;have:=List.mem_range.1 hl';rw[wK hv.vb n l (ah _) this,if_pos this]
theorem mf{a b:List Nat}{n:Nat}(h:a.length=n)(j:Nat):vO (a++b) j=if j<n then vO a j else vO b (j-n):=by
 unfold vO;simp only[af];split
 ·rw[List.getElem?_append_left (by omega)]
 ·rw[List.getElem?_append_right (by omega),h]
theorem E0{x:List (List Nat)}{u v:Nat→Nat}:∀k,(∀j,j<k→u j=v j)→tmp x u k=tmp x v k:=by
 intro k
 induction k with
 | zero=>intro _;rfl
 | succ k ih=>intro h;simp only[tmp];rw[ih fun j hj=>h j (by omega),h k (by omega)]
theorem DG{n k:Nat}{a x:List (List Nat)}(ha:Wf n a)(hx:Wf k x)(hl:x.length=n)(h0:x≠[]){i:Nat}(hi:i<a.length):
 vO ((cG a (jd a x)).getD i [])=tmp (ia n x) (vO (a.getD i [])) n:=by
 have h:=ha.get hi;have hv:=gP h.2;have hm:(jd a x).length=a.length:=by simp[jd]
 rw[jr hm.symm]
 have hr:(jd a x).getD i []=oG k (a.getD i []) x x.length:=by
  simp only[jd,af,List.getElem?_map,ag hi,Option.map_some,Option.getD_some];rw[kU hx h0]
 rw[hr];funext j;rw[mf h.1];split
 ·rename_i hj
  rw[wK hv n j (ah _) hj,if_pos hj]
 ·rename_i hj
  rw[Bo n j (ah _) (by omega),(yD (r:=a.getD i []) hx x.length (ah _)).2.2,hl]
theorem zg{n k:Nat}{a x:List (List Nat)}(ha:Wf n a)(hx:Wf k x)(hl:x.length=n)(h0:x≠[])(hr:(bI a n).2=n):
 (∀i,n≤i→∀j,gt (bI (cG a (jd a x)) n).1 i j=0)∧((bI (cG a (jd a x)) n).1.take n).map (List.drop n)=x:=by
 have hm:a.length=(jd a x).length:=by simp[jd]
 have hb:=Eg (a:=a) hx h0;have hw:=tu hm ha hb;have hsw:=oZ hx hl;obtain⟨ls,hI⟩:=ic hw n;have hS:=qK hw n;rw[(tv hm ha (ah n)).1,hr] at hI;generalize (bI (cG a (jd a x)) n).1=L at*;have hls:ls=List.range n:=zf hI.up hI.lt hI.cnt;subst hls
 have hsub:∀ {v},Spn (L.map vO) v→Spn ((ia n x).map vO) v:=fun {v} hv=>by
  refine lS hw hsw (fun i hi=> ?_) ((hS v).2 hv);rw[dU hm] at hi;rw[DG ha hx hl h0 hi];exact Ef hsw (gP (ha.get hi).2) n (by rw[fP];exact ah _)
 have hrows:∀i,i<L.length→vO (L.getD i [])=if i<n then vO ((ia n x).getD i []) else vz:=fun i hi=>by
  refine(wJ hx hl).ext (hsub (hI.wf.spn hi)) ?_ fun l hl'=> ?_
  ·split
   ·rename_i h;exact hsw.spn (by rw[fP];exact h)
   ·exact .zero
  ·have hl2:=List.mem_range.1 hl'
   have:=hI.piv l l (by rw[List.getElem?_range hl2]) i hi;refine Eq.trans this ?_;split
   ·rename_i e;subst e;rw[if_pos hl2,gK hl2 hl2,if_pos rfl]
   ·rename_i e
    split
    ·rename_i h;rw[gK h hl2,if_neg fun x=>e x.symm]
    ·rfl
 constructor
 ·intro i hi j
  rcases Nat.lt_or_ge i L.length with h | h
  ·have:=congrFun (hrows i h) j
   rw[if_neg (by omega)] at this;exact this
  ·exact uB h j
 ·have hle:=hI.le
  refine KI (by rw[aG,aI];omega) fun i hi=> ?_;rw[aG,aI] at hi;rw[getD_map List.drop_nil];have hiL:i<L.length:=(by omega);have e1:(L.take n).getD i []=L.getD i []:=(by simp[show i<n by omega]);have e2:=hrows i hiL;rw[if_pos (by omega)] at e2;have e3:=yp (hI.wf.get hiL).1 (hsw.get (i:=i) (by rw[fP];omega)).1 e2;rw[e1,e3,mb (by omega),List.drop_left' (kE n i)]
theorem Bp{n k:Nat}{a c:List (List Nat)}(ha:Wf n a)(hc:Wf k c)(hl:a.length=c.length)(h0:0<n)(hr:(bI a n).2=n)
 (hz:∀i,n≤i→∀j,gt (bI (cG a c) n).1 i j=0):jd a (((bI (cG a c) n).1.take n).map (List.drop n))=c∧Wf k (((bI (cG a c) n).1.take n).map (List.drop n))∧(((bI (cG a c) n).1.take n).map (List.drop n)).length=n:=by
 have hw:=tu hl ha hc;obtain⟨ls,hI⟩:=ic hw n;have hS:=qK hw n;rw[(tv hl ha (ah n)).1,hr] at hI;generalize (bI (cG a c) n).1=L at*;have hls:ls=List.range n:=zf hI.up hI.lt hI.cnt;subst hls;have hle:=hI.le;obtain⟨z,hzd⟩:∃z,z=(L.take n).map (List.drop n):=⟨_,rfl⟩;rw[←hzd];have hzl:z.length=n:=by rw[hzd,aG,aI];omega
 have hzr:∀i,i<n→z.getD i []=(L.getD i []).drop n:=fun i hi=>by
  rw[hzd,getD_map List.drop_nil];congr 1;simp[hi]
 have hzw:Wf k z:=uC fun i hi=>by
  rw[hzl] at hi;have:=hI.wf.get (i:=i) (by omega);rw[hzr i hi];exact⟨by rw[List.length_drop];omega,fun x hx=>this.2 x (List.mem_of_mem_drop hx)⟩
 have hz0:z≠[]:=fun e=>by rw[e] at hzl;simp at hzl;omega
 refine⟨?_,hzw,hzl⟩;have hsw:=oZ hzw hzl
 have hrow:∀i,i<n→L.getD i []=(ia n z).getD i []:=fun i hi=>by
  refine yp (hI.wf.get (by omega)).1 (hsw.get (i:=i) (by rw[fP];exact hi)).1 (funext fun j=> ?_);rcases Nat.lt_or_ge j n with hj | hj
  ·rw[gK hi hj]
   have:=hI.piv j j (by rw[List.getElem?_range hj]) i (by omega);refine Eq.trans this ?_;by_cases e:i=j
   ·rw[if_pos e,if_pos e.symm]
   ·rw[if_neg e,if_neg fun x=>e x.symm]
  ·rw[qW hi hj,hzr i hi]
   unfold vO;simp only[af,List.getElem?_drop,show n+(j-n)=j by omega]
 have hsub:∀ {v},Spn ((cG a c).map vO) v→Spn ((ia n z).map vO) v:=fun {v} hv=>by
  refine lS hI.wf hsw (fun i hi=> ?_) ((hS v).1 hv);rcases Nat.lt_or_ge i n with h | h
  ·rw[hrow i h];exact hsw.spn (by rw[fP];exact h)
  ·rw[show vO (L.getD i [])=vz from funext fun j=>hz i h j];exact .zero
 have hm:(jd a z).length=a.length:=by simp[jd]
 have hmw:=Eg (a:=a) hzw hz0;refine KI (by omega) fun i hi=> ?_;rw[hm] at hi;refine yp (hmw.get (by omega)).1 (hc.get (by omega)).1 (funext fun j=> ?_);have h1:=ha.get hi;have e1:=EZ hzw hzl (hsub (hw.spn (i:=i) (by rw[dU hl];exact hi)));rw[jr hl] at e1;have e2:=DG ha hzw hzl hz0 hi;rw[jr hm.symm] at e2;have e3:tmp (ia n z) (vO (a.getD i []++c.getD i [])) n=tmp (ia n z) (vO (a.getD i [])) n:=E0 n fun j hj=>by rw[mf h1.1,if_pos hj]
 rw[e3,←e2] at e1;have:=congrFun e1 (n+j);rw[mf h1.1,mf h1.1,if_neg (by omega),if_neg (by omega),show n+j-n=j by omega] at this;exact this.symm
end Go.Proofs.YtofgapdnadbgkaaGreatDoor
