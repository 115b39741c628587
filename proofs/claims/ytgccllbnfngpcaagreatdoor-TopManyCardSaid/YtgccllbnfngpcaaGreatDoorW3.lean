import Derived.Test.YtgccllbnfngpcaaGreatDoorW2
import Derived.Maps.AppendAt
import Derived.Laws.AppendOwnNone
set_option linter.unusedVariables false
set_option maxRecDepth 100000
set_option maxHeartbeats 400000000
namespace Go.Proofs.YtgccllbnfngpcaaGreatDoor
open Go.RowKit _root_.Go.Proofs.Tryz List
open Value (int slice pointer bool)
open IntKind (i64)
open Ending (returned)
open Obj (cells)
theorem Av(c:Nat)(xs ys:List Nat)(B:Nat)(a b:Option Addr)(n d d2:Nat)(w:World)(hc:c<256)(hx:Rd w B a n (bF xs))(hy:Rd w B b n (bF ys))(hB:B<=w.heap.size)(hbx:By xs)(hby:By ys)(hn:n<=1000000):
 Calls prog 266 #[.int .u8 c,slice a n d,slice b n d2] w fun e w'=>∃v,e=returned v/\OwnB w' w.heap.size v (kS c xs ys)/\Below w.heap.size w w':=by
 have lx:=hx.len;have ly:=hy.len;rw[bI] at lx ly;have hRl:(kS c xs ys).length=n:=by rw[fP (by omega)];exact ly
 have HRG:Hid (∀k,(kS c xs ys).getD k 0=ys.getD k 0 ^^^ fm c (xs.getD k 0)):=ae fun k=>kE (by omega) k;have hmk:=dD hn;have HX:=ae (hx.more hB);have HY:=ae (hy.more hB);have HBX:=ae hbx;have HBY:=ae hby;have HRL:=ae hRl;clear hx hy hbx hby lx ly hRl;generalize kS c xs ys=R at*;go_enter func266,ntmps266
 go_wp2_with (simp only[hmk])
 have hB1:=Blk.new w 5 (bJ (replicate n 0));have hb1:=(az w.heap.size w).alloc (ah _) (cells (bJ (replicate n 0)) 5);have HB:Hid (Blk (w.alloc (cells (bJ (replicate n 0)) 5)) w.heap.size 5 (bJ (iP R 0))):=ae (by rw[vE,HRL.out];exact hB1);have HBL:=ae hb1;clear hB1 hb1 hmk;generalize w.alloc (cells (bJ (replicate n 0)) 5)=w1 at*;generalize hG:w.heap.size=G at*;have HG:=ae hG;clear hG;go_loopw [8,14] (fun _ i wr=>∃k:Nat,k<=n/\i=int i64 k/\Hid (Blk wr G 5 (bJ (iP R k)))/\Hid (Below G w wr)) (fun _ i _=>n-(intOf i).toNat)
 case atStart=>exact⟨0,by omega,rfl,HB,HBL⟩
 case round=>
  clear HB HBL;obtain⟨k,hk,rfl,HB,HBL⟩:=hrel;by_cases hlt:k<n
  ·obtain⟨bx,ox,rfl,hbx,hcx⟩:=HX.out.atB hlt
   obtain⟨by',oy,rfl,hby,hcy⟩:=HY.out.atB hlt;have cx:=(HBL.out.cell (p:=⟨bx,ox+k,none⟩) hbx).trans (hcx k hlt);have cy:=(HBL.out.cell (p:=⟨by',oy+k,none⟩) hby).trans (hcy k hlt);have hx1:=getD_lt HBX.out k;have hy1:=getD_lt HBY.out k;have hrg:=HRG.out k;have hkR:k<R.length:=(by rw[HRL.out];exact hlt);have hset:=HB.out.set k (.int .u8 (R.getD k 0:Nat));rw[j6,xN hkR] at hset;have co:=(HB.out.cell k).trans (vC (by rw[xM (by omega)];exact hkR));rw[xO hkR] at co;have fo:=HB.out.frozen k;rw[hrg] at hset;generalize xs.getD k 0=x at*;generalize ys.getD k 0=y at*;have cM:Calls prog 328 #[.int .u8 c,.int .u8 x] wr.drew fun e w''=>e=returned (.int .u8 (fm c x:Nat))/\w''=wr.drew:=(sQ c x hc hx1 wr.drew).mono fun e w' ⟨h1,h2⟩=>⟨h1,h2.symm⟩;have hz:=gQ c x;generalize fm c x=z at*;have e1:=u8_xor_nat y z hy1 hz;have HS:=ae hset;have CM:=ae cM;clear hset hrg hcx hcy cM;generalize y ^^^ z=q at*;have hlt':(k:Int)<(n:Int):=(by omega);go_wp2_with fail
   go_still_tail 14,(by kernel_rfl)
   still_call CM.out
   repeat still_step
   refine wpStill_nil ?_;change wpList _ _ _ _ _ wr.drew;have co2:wr.drew.cell? ⟨G,k,none⟩=some (.int .u8 0):=co;have fo2:wr.drew.frozen? ⟨G,k,none⟩=false:=fo;have HS2:Hid (Blk (wr.drew.setCell ⟨G,k,none⟩ (.int .u8 (q:Nat))) G 5 (bJ (iP R (k+1)))):=ae HS.out;have HB2:Hid (Below G w (wr.drew.setCell ⟨G,k,none⟩ (.int .u8 (q:Nat)))):=ae ((Below.drew HBL.out).setCell (ah _) _);clear HS HBL HB cx cy co fo CM;generalize wr.drew=w3 at*;go_wp2_with fail;go_roundw
   case rel=>(try((repeat apply Exists.intro);refine⟨?_,rfl⟩));exact⟨k+1,by omega,by go_num,HS2,HB2⟩
   case measure=>simp[intOf];omega
  ·obtain rfl:k=n:=by omega
   have hf:iP R k=R:=(by rw[<-HRL.out];exact vF R);rw[hf] at HB;have ho:=lU HB.out (C:=G) (ah _) (by rw[HRL.out];exact hn);rw[HRL.out] at ho;have HO:=ae ho;clear ho hf HB;go_wp2_with fail;go_ret;exact⟨_,rfl,by rw[HG.out];exact HO.out,by rw[HG.out];exact HBL.out⟩
theorem JZ{c:Nat}{xs:List Nat}{n:Nat}(h:xs.length=n):kS c xs (replicate n 0)=jS c xs:=by
 refine ext_getElem (by rw[fP (by rw[aI];exact h),aI,lV,h]) fun i h1 h2=> ?_;have e:=kE (c:=c) (a:=xs) (b:=replicate n 0) (by rw[aI];exact h) i;rw[af,ag h1] at e;have e2:=jk c xs i;rw[af,ag h2] at e2;simp only[Option.getD_some] at e e2;rw[e,e2];have:(replicate n 0).getD i 0=0:=by rw[af,List.getElem?_replicate];split <;> rfl
 rw[this,Nat.zero_xor]
theorem By.zeros(n:Nat):By (replicate n 0):=fun x hx=>by rw[eq_of_mem_replicate hx];decide
theorem nk{w:World}{g:Nat}{l:List Nat}(h:Blk w g 5 (bJ l)):Rd w w.heap.size (some ⟨g,0,none⟩) l.length (bF l):=by
 refine⟨bI l,fun _=>⟨g,0,rfl,h.lt,fun i u hu=> ?_⟩⟩;rw[Nat.zero_add,h.cell i];simpa[bJ] using hu
theorem GA(c:Nat)(xs:List Nat)(B:Nat)(a:Option Addr)(n d:Nat)(w:World)(hc:c<256)(hx:Rd w B a n (bF xs))(hB:B<=w.heap.size)(hbx:By xs)(hn:n<=1000000):
 Calls prog 264 #[.int .u8 c,slice a n d] w fun e w'=>∃v,e=returned v/\OwnB w' w.heap.size v (jS c xs)/\Below w.heap.size w w':=by
 have lx:=hx.len;rw[bI] at lx;have hmk:=dD hn;have hb1:=(az w.heap.size w).alloc (ah _) (cells (bJ (replicate n 0)) 5);have hr:=nk (Blk.new w 5 (bJ (replicate n 0)));rw[aI] at hr;have cA:=Av c xs (replicate n 0) (w.alloc (cells (bJ (replicate n 0)) 5)).heap.size a (some ⟨w.heap.size,0,none⟩) n d n (w.alloc (cells (bJ (replicate n 0)) 5)) hc ((hx.below hb1 hB).more (by simp;omega)) hr (ah _) hbx (By.zeros n) hn;rw[JZ lx] at cA;have hz:(w.alloc (cells (bJ (replicate n 0)) 5)).heap.size=w.heap.size+1:=by simp
 have CA:=ae cA;have HB1:=ae hb1;have HZ:=ae hz;clear cA hr hx hbx lx hb1 hz;go_enter func264,ntmps264
 go_wp2_with (simp only[hmk])
 generalize w.alloc (cells (bJ (replicate n 0)) 5)=w1 at*;refine CA.out.mono ?_;rintro e w2 ⟨v,rfl,ho,hb⟩;have HO:=ae (ho.base (C':=w.heap.size) (by rw[HZ.out];omega));have HB:=ae (HB1.out.trans (hb.mono (by rw[HZ.out];omega)));clear ho hb;go_wp2_with fail;go_ret;exact⟨_,rfl,HO.out,HB.out⟩
theorem J4{l:List Nat}{k:Nat}(h0:∀i,i<k->l.getD i 0=0)(hk:l.getD k 0≠0):iW l=(k:Int):=by
 obtain⟨h1,h2⟩:=vv hk h0;unfold iW;rw[h1,bf h2]
theorem Df{l:List Nat}(h0:∀i,i<l.length->l.getD i 0=0):iW l= -1:=by
 unfold iW;split
 ·rename_i h
  exact absurd (h0 _ h) (A8 h).1
 ·rfl
theorem Mw(x:Nat)(w:World)(hx:x<256):
 Calls prog 338 #[.int .u8 x] w fun e w'=>e=returned (bool (decide (x≠0)))/\w=w':=by
 go_enter func338,ntmps338;go_wp2_with fail;go_ret;exact⟨by congr 2;by_cases h:x=0 <;> simp[h],rfl⟩
theorem Dg(xs:List Nat)(B:Nat)(a:Option Addr)(n d:Nat)(w:World)(hx:Rd w B a n (bF xs))(hbx:By xs)(hn:n<=maxLen):
 Calls prog 337 #[slice a n d,.func (.func 338) #[] #[]] w fun e w'=>e=returned (int i64 (iW xs))/\∃j,w'=w.drewN j:=by
 unfold maxLen at hn;have HLX:Hid (xs.length=n):=ae (by have:=hx.len;rwa [bI] at this);have HX:=ae hx;have HBX:=ae hbx;clear hx hbx;go_enter func337,ntmps337;go_wp2_with fail;go_loopw [5,8] (fun _ i wr=>∃k:Nat,k<=n/\i=int i64 k/\Hid (∀i,i<k->xs.getD i 0=0)/\Hid (∃j,wr=w.drewN j)) (fun _ i _=>n-(intOf i).toNat)
 case atStart=>exact⟨0,by omega,rfl,ae fun i h=>absurd h (by omega),ae ⟨0,rfl⟩⟩
 case round=>
  obtain⟨k,hk,rfl,H0,HJ⟩:=hrel;obtain⟨j,hj⟩:=HJ.out;clear HJ;by_cases hlt:k<n
  ·obtain⟨bx,ox,rfl,_,hcx⟩:=HX.out.atB hlt
   have cx:wr.cell? ⟨bx,ox+k,none⟩=some (.int .u8 (xs.getD k 0:Nat)):=(by rw[hj];exact hcx k hlt);have hx1:=getD_lt HBX.out k;clear hcx;generalize hg:xs.getD k 0=x at cx hx1;have HGX:=ae hg;have CL:=ae fun w=>Mw x w hx1;have hlt':(k:Int)<(n:Int):=(by omega);have HJ:=ae hj;clear hj hg;by_cases hx0:x=0
   ·subst hx0
    go_wp2_with fail;refine(CL.out _).mono ?_;rintro e w2 ⟨rfl,rfl⟩;go_wp2_with fail;go_roundw
    case rel=>exact⟨k+1,by omega,by go_num,ae fun i h=>by rcases bq i k with h1 | h1;exact H0.out i h1;rw[show i=k by omega];exact HGX.out,ae ⟨j,HJ.out⟩⟩
    case measure=>simp[intOf];omega
   ·have hd:decide (x≠0)=true:=ba hx0
    have hl:=J4 H0.out (by rw[HGX.out];exact hx0);have HLD:=ae hl;rw[hd] at CL;clear hl hd;go_wp2_with fail;refine(CL.out _).mono ?_;rintro e w2 ⟨rfl,rfl⟩;go_wp2_with fail;go_ret;exact⟨by rw[HLD.out];rfl,j,HJ.out⟩
  ·obtain rfl:k=n:=by omega
   have hl:=Df (l:=xs) fun i h=>H0.out i (by rw[<-HLX.out];exact h);have HLD:=ae hl;clear hl;go_wp2_with fail;go_ret;exact⟨by rw[HLD.out];rfl,j,rfl⟩
theorem J5(xs:List Nat)(B:Nat)(a:Option Addr)(n d:Nat)(w:World)(hx:Rd w B a n (bF xs))(hbx:By xs)(hn:n<=maxLen):
 Calls prog 274 #[slice a n d] w fun e w'=>e=returned (int i64 (iW xs))/\∃j,w'=w.drewN j:=by
 have CI:=ae (Dg xs B a n d w hx hbx hn);clear hx hbx hn;go_enter func274,ntmps274;go_wp2_with fail;refine CI.out.mono ?_;rintro e w2 ⟨rfl,j,rfl⟩;go_wp2_with fail;go_ret;exact⟨rfl,j,rfl⟩
def dS(n k:Nat):List Nat:=(replicate n 0).set k 1
theorem gZ(n k:Nat):(dS n k).length=n:=by simp[dS]
theorem nu(n k:Nat):By (dS n k):=by
 intro x hx;rcases mem_or_eq_of_mem_set hx with h | h
 ·exact By.zeros n x h
 ·subst h;decide
theorem mF(n k i:Nat):(dS n k).getD i 0=if i=k/\k<n then 1 else 0:=by
 unfold dS;rw[af,List.getElem?_set,aI];by_cases h:k=i
 ·subst h
  rw[bf rfl];by_cases h2:k<n
  ·rw[bf h2,bf ⟨rfl,h2⟩];rfl
  ·rw[bg h2,bg (fun h=>h2 h.2)];rfl
 ·rw[bg h,bg (fun h2=>h h2.1.symm),List.getElem?_replicate]
  split <;> rfl
theorem N9(n at_:Int)(w:World)(hno:¬(1<=n/\n<=64/\0<=at_/\at_<n)):
 Calls prog 315 #[int i64 n,int i64 at_] w fun e w'=>e=returned (slice none 0 0)/\w=w':=by
 go_enter func315,ntmps315;go_wp2_with fail
 all_goals first | omega | (go_ret;exact⟨rfl,rfl⟩) | skip
theorem J6(n k:Nat)(w:World)(hn:n<=64)(hk:k<n):
 Calls prog 315 #[int i64 n,int i64 k] w fun e w'=>∃v,e=returned v/\OwnB w' w.heap.size v (dS n k)/\Below w.heap.size w w':=by
 have hmk:=dD (n:=n) (by omega);have h1:¬(n:Int)<1:=by omega
 have h2:¬(n:Int)>64:=by omega
 have h3:¬(k:Int)<0:=by omega
 have h4:(k:Int)<(n:Int):=by omega
 have hget:(bJ (replicate n 0))[k]? =some (.int .u8 0):=by
  rw[vC (by rw[aI];exact hk),af,List.getElem?_replicate,bf hk];rfl
 go_enter func315,ntmps315
 go_wp2_with (simp only[hmk])
 go_ret;have he:(bJ (replicate n 0)).setIfInBounds k (.int .u8 1)=bJ (dS n k):=j6 _ _ 1;have HO:=lU (l:=dS n k) (Blk.new w 5 (bJ (dS n k))) (ah _) (by rw[gZ];omega);rw[gZ] at HO;rw[he];exact⟨_,rfl,HO,(az _ _).alloc (ah _) _⟩
theorem vw{P:Program}(w:World){ops:Array Oper}{rest:List Oper}{o:Oper}{a:Act}{Q:Exit->Act->World->Prop}(hgd:o.guard=none)(s x:Operand)(t:TypeId)
 (ho:o.op=.call { callee:=.builtin .append,args:=#[s,x],argTypes:=#[t,t] })
 (base:Nat)(e:TypeId)(z:Value)(bytes:Nat)(ht:P.underlying t=some (.slice e))(hi:(P.info? e).map (fun i=>(i.zero,i.size,i.bytes))=some (some z,1,bytes))(hzs:z.cells.size=1)
 (v:Value)(n:Nat)(xs:List Value)(hs:a.eval s=v)(hown:w.ownsRow base e 1 v n xs)
 (B:Nat)(ad:Option Addr)(m c:Nat)(news:List Value)(hx:a.eval x=slice ad m c)(hnil:ad=none->c=0)(hr:Rd w B ad m news)(h1:∀u∈news,u.oneCell'=true)
 (hbytes:(n+m)*bytes<=140737488355328)(h63:n+m<=maxLen)(hbase:base<=w.heap.size)
 (h:∀v' w',w'.ownsRow base e 1 v' (n+m) (xs++news)->w.grownBy w' v.ownBlock->(v'.ownBlock=v.ownBlock\/v'.ownBlock=some w.heap.size)->wpList P ops Q rest (a.put o.dst v') w'):wpList P ops Q (o :: rest) a w:=by
 obtain⟨i,hi1,hi2,hi3,hi4⟩:=info_parts hi;cases ad with
 | none=>
   obtain rfl:=hnil rfl
   have hm:m=0:=by
    rcases Nat.eq_zero_or_pos m with h | h
    ·exact h
    ·obtain⟨_,_,e,_⟩:=hr.2 h;simp at e
   subst hm;have hn:news=[]:=eq_nil_of_length_eq_zero hr.1;subst hn;refine wpList_append_own_none hgd s x t ho base e i 1 ht hi1 v n xs hs hown hx (h v w (by simpa using hown) ⟨rfl,rfl,rfl,ah _,fun _ _ _=>rfl⟩ (.inl rfl))
 | some ad=>
   refine wpList_append_own_at w hgd s x t ho base e i z 1 bytes ht hi1 hi2 hi3 hi4 hzs (by decide) v n xs hs hown ad m c news hx (by rw[hr.1];omega) ?_ h1 h63 hbytes hbase fun v' w' h1 h2 _ h3=>h v' w' h1 h2 h3;intro j u hj
   have hjm:j<m:=by
    have:=(List.getElem?_eq_some_iff.1 hj).1;rw[hr.1] at this;exact this
   obtain⟨b,off,e,_,hc⟩:=hr.2 (by omega);obtain rfl:=Option.some.inj e;rw[Addr.add_lit];exact hc j u hj
theorem jN{P:Program}(w:World){ops:Array Oper}{rest:List Oper}{o:Oper}{a:Act}{Q:Exit->Act->World->Prop}(hgd:o.guard=none)(s x:Operand)(t:TypeId)
 (ho:o.op=.call { callee:=.builtin .append,args:=#[s,x],argTypes:=#[t,t] })
 (base:Nat)(e:TypeId)(z:Value)(bytes:Nat)(ht:P.underlying t=some (.slice e))(hi:(P.info? e).map (fun i=>(i.zero,i.size,i.bytes))=some (some z,1,bytes))(hzs:z.cells.size=1)
 (v:Value)(n:Nat)(xs:List Value)(hs:a.eval s=v)(hown:w.ownsRow base e 1 v n xs)
 (g:Nat)(u:Value)(hx:a.eval x=slice (some ⟨g,0,none⟩) 1 1)(hu:w.cell? ⟨g,0,none⟩=some u)(h1:u.oneCell'=true)
 (hbytes:(n+1)*bytes<=140737488355328)(h63:n+1<=maxLen)(hbase:base<=w.heap.size)
 (h:∀v' w',w'.ownsRow base e 1 v' (n+1) (xs++[u])->w.grownBy w' v.ownBlock->(v'.ownBlock=v.ownBlock\/v'.ownBlock=some w.heap.size)->wpList P ops Q rest (a.put o.dst v') w'):wpList P ops Q (o :: rest) a w:=by
 obtain⟨i,hi1,hi2,hi3,hi4⟩:=info_parts hi;refine wpList_append_own_at w hgd s x t ho base e i z 1 bytes ht hi1 hi2 hi3 hi4 hzs (by decide) v n xs hs hown ⟨g,0,none⟩ 1 1 [u] hx rfl ?_ (by simpa using h1) h63 hbytes hbase fun v' w' h1 h2 _ h3=>h v' w' h1 h2 h3;intro j u' hj
 match j,hj with
 | 0,hj=>simp at hj;subst hj;simpa[Addr.add] using hu
theorem j4{w:World}{base e n:Nat}{v:Value}{xs:List Value}(h:w.ownsRow base e 1 v n xs):∃a c,v=slice a n c/\Rd w w.heap.size a n xs/\(a=none->c=0):=by
 obtain⟨a,c,e1,hr⟩:=mY h;refine⟨a,c,e1,hr,fun ha=> ?_⟩;subst ha;rcases h.2 with⟨h2,_⟩ | ⟨g,cap,cur,h2,_⟩
 ·rw[h2] at e1;simp at e1;exact e1.2.symm
 ·rw[h2] at e1;simp at e1
structure wR where
 ok:World->Prop
 stb:∀w w',ok w->Below w.heap.size w w'->ok w'
def kT(a:Option Addr)(n:Nat)(l:List Value):wR:=⟨fun w=>Rd w w.heap.size a n l,fun _ _ h hb=>(h.below hb (ah _)).more hb.size⟩
def bQ(g:Nat)(t:TypeId)(cs:Array Value):wR:=⟨fun w=>Blk w g t cs,fun _ _ h hb=>h.below hb h.lt⟩
def eFp(p:Option Addr):wR:=⟨fun w=>Fp w p,fun _ _ h hb=>by
 rcases h with h | ⟨g,h1,h2⟩
 ·exact .inl h
 ·exact .inr ⟨g,h1,h2.below hb (Blk.lt h2)⟩⟩
def Sx(w0 w:World)(L:List wR):Prop:=Below w0.heap.size w0 w/\∀e∈L,e.ok w
theorem Sx.nil(w:World):Sx w w []:=⟨az _ _,by simp⟩
theorem Sx.step{w0 w w':World}{L:List wR}(h:Sx w0 w L)(hb:Below w.heap.size w w'):Sx w0 w' L:=⟨h.1.trans (hb.mono h.1.size),fun e he=>e.stb _ _ (h.2 e he) hb⟩
theorem Sx.alloc{w0 w:World}{L:List wR}(h:Sx w0 w L)(o:Obj):Sx w0 (w.alloc o) L:=h.step ((az _ _).alloc (ah _) o)
theorem Sx.add{w0 w:World}{L:List wR}(h:Sx w0 w L)(e:wR)(he:e.ok w):Sx w0 w (e :: L):=⟨h.1,fun f hf=>by
 rcases mem_cons.1 hf with rfl | hf
 ·exact he
 ·exact h.2 f hf⟩
theorem Sx.get{w0 w:World}{L:List wR}(h:Sx w0 w L)(i:Nat){e:wR}(hi:L[i]? =some e):e.ok w:=h.2 e (mem_of_getElem? hi)
theorem Sx.rd{w0 w:World}{L:List wR}(h:Sx w0 w L)(i:Nat){a:Option Addr}{n:Nat}{l:List Value}(hi:L[i]? =some (kT a n l)):Rd w w.heap.size a n l:=h.get i hi
theorem Sx.fp{w0 w:World}{L:List wR}(h:Sx w0 w L)(i:Nat){p:Option Addr}(hi:L[i]? =some (eFp p)):Fp w p:=h.get i hi
theorem Sx.blk{w0 w:World}{L:List wR}(h:Sx w0 w L)(i:Nat){g:Nat}{t:TypeId}{cs:Array Value}(hi:L[i]? =some (bQ g t cs)):Blk w g t cs:=h.get i hi
theorem OwnB.rd2{w:World}{C:Nat}{v:Value}{l:List Nat}{n:Nat}(h:OwnB w C v l)(hn:l.length=n):∃a c,v=slice a n c/\(kT a n (bF l)).ok w/\(a=none->c=0):=by
 subst hn;exact j4 h
def tmp(x:List (List Nat))(v:Nat->Nat):Nat->Nat->Nat
 | 0=>vz
 | k+1=>kr (v k) (vO (x.getD k [])) (tmp x v k)
theorem EF{n:Nat}{x:List (List Nat)}(hx:Wf n x){v:Nat->Nat}(hv:Vb v)(k:Nat)(hk:k<=x.length):Spn (x.map vO) (tmp x v k):=by
 induction k with
 | zero=>exact .zero
 | succ k ih=>exact Spn.ax hx.vb (hv k) (hx.spn (by omega)) (ih (by omega))
def oV(w:Nat)(r:List Nat)(x:List (List Nat)):Nat->List Nat
 | 0=>replicate w 0
 | k+1=>kS (r.getD k 0) (x.getD k []) (oV w r x k)
def jD(a x:List (List Nat)):List (List Nat):=a.map fun r=>oV (wid x) r x x.length
theorem yK{w:Nat}{r:List Nat}{x:List (List Nat)}(hx:Wf w x)(k:Nat)(hk:k<=x.length):(oV w r x k).length=w/\(∀y∈oV w r x k,y<256)/\vO (oV w r x k)=tmp x (vO r) k:=by
 induction k with
 | zero=>
   refine⟨by simp[oV],fun y hy=> ?_,?_⟩
   ·have:=eq_of_mem_replicate hy
    omega
   ·exact Eo (n:=w) (by simp[oV]) fun j hj=>by simp[oV,hj]
 | succ k ih=>
   obtain⟨h1,h2,h3⟩:=ih (by omega);have hg:=hx.get (i:=k) (by omega);simp only[oV,tmp];refine⟨by rw[fP (by omega)];exact h1,pY h2,?_⟩;rw[NU (by omega),h3];rfl
theorem EG{w:Nat}{a x:List (List Nat)}(hx:Wf w x)(h0:x≠[]):Wf w (jD a x):=by
 intro r hr;obtain⟨y,_,rfl⟩:=aW.1 hr;rw[lK hx h0];have:=yK (r:=y) hx x.length (ah _);exact⟨this.1,this.2.1⟩
def dC(a b:List (List Nat)):List (List Nat):=zipWith (·++ ·) a b
theorem eG{a b:List (List Nat)}(h:a.length=b.length):(dC a b).length=a.length:=by unfold dC;rw[length_zipWith];omega
theorem jJ{a b:List (List Nat)}(h:a.length=b.length)(i:Nat):(dC a b).getD i []=a.getD i []++b.getD i []:=by
 unfold dC;simp only[af,List.getElem?_zipWith];rcases bq i a.length with hi | hi
 ·rw[ag hi,ag (show i<b.length by omega)];rfl
 ·rw[List.getElem?_eq_none hi,List.getElem?_eq_none (show b.length<=i by omega)];rfl
theorem tN{n k:Nat}{a b:List (List Nat)}(h:a.length=b.length)(ha:Wf n a)(hb:Wf k b):Wf (n+k) (dC a b):=by
 refine uq fun i hi=> ?_;rw[eG h] at hi;rw[jJ h];have h1:=ha.get hi;have h2:=hb.get (i:=i) (by omega);refine⟨by rw[aH];omega,fun x hx=> ?_⟩;rcases bz.1 hx with hx | hx
 ·exact h1.2 x hx
 ·exact h2.2 x hx
theorem yj{n:Nat}{L:List (List Nat)}{i j:Nat}(hj:j<n):gt (L.map (List.take n)) i j=gt L i j:=by
 unfold gt;simp only[af,List.getElem?_map];cases L[i]? with
 | none=>rfl
 | some r=>simp[hj]
theorem getD_map{f:List Nat->List Nat}(h0:f []=[])(L:List (List Nat))(i:Nat):(L.map f).getD i []=f (L.getD i []):=by
 simp only[af,List.getElem?_map];cases L[i]? with
 | none=>exact h0.symm
 | some r=>rfl
theorem LO{A B:List (List Nat)}(hl:A.length=B.length)(h:∀i,i<A.length->A.getD i []=B.getD i []):A=B:=by
 refine ext_getElem hl fun i h1 h2=> ?_;have:=h i h1;simpa[af,h1,h2] using this
theorem Fy{n:Nat}{L:List (List Nat)}{col:Nat}(hc:col<n):∀k i,ma (L.map (List.take n)) col i k=ma L col i k:=by
 intro k
 induction k with
 | zero=>intro i;rfl
 | succ k ih=>intro i;simp only[ma];rw[yj hc,ih]
structure Oq (f:List Nat->List Nat):Prop where
 nil:f []=[]
 ax:∀c a b,f (kS c a b)=kS c (f a) (f b)
 sc:∀c a,f (jS c a)=jS c (f a)
theorem zH(n:Nat):Oq (List.take n):=⟨take_nil,fun c a b=>by unfold kS;rw[take_zipWith],fun c a=>by unfold jS;rw[map_take]⟩
theorem I0{f:List Nat->List Nat}(hf:Oq f){L:List (List Nat)}{top col p:Nat}(ht:top<L.length)(hp:p<L.length)(i:Nat):
 f ((ja L top col p).getD i [])=if i=top then jS (fi (gt L p col)) ((L.map f).getD p []) else (L.map f).getD (sg top p i) []:=by
 rw[mg ht hp,getD_map hf.nil,getD_map hf.nil];split
 ·exact hf.sc _ _
 ·rfl
theorem BJ{f:List Nat->List Nat}(hf:Oq f){L:List (List Nat)}(top col k:Nat){i:Nat}(hi:i<L.length):
 f ((bU L top col k).getD i [])=if i<k/\i≠top then kS (gt L i col) ((L.map f).getD top []) ((L.map f).getD i []) else (L.map f).getD i []:=by
 rw[fD top col k hi,getD_map hf.nil,getD_map hf.nil];split
 ·exact hf.ax _ _ _
 ·rfl
theorem FA{n:Nat}{L:List (List Nat)}{top col:Nat}(hc:col<n):iV (L.map (List.take n)) top col=((iV L top col).1.map (List.take n),(iV L top col).2):=by
 unfold iV;rw[Fy hc,aC];cases hf:ma L col top (L.length-top) with
 | none=>rfl
 | some p=>
   obtain⟨p1,p2,p3,-⟩:=kY _ _ _ hf;have hp:p<L.length:=(by omega);have ht:top<L.length:=(by omega);simp only;congr 1;refine LO (by simp[eQ,fV]) fun i hi=> ?_;rw[eQ,fV,aC] at hi;have hpl:(L.map (List.take n)).length=L.length:=aC _
   have hpv:∀i,(ja (L.map (List.take n)) top col p).getD i []=((ja L top col p).getD i []).take n:=fun i=>by
    rw[mg (by omega) (by omega),yj hc,I0 (zH n) ht hp]
   rw[getD_map take_nil,BJ (zH n) top col _ (by rw[fV];exact hi),fD top col _ (by rw[fV];omega)]
   have hg:gt (ja (L.map (List.take n)) top col p) i col=gt (ja L top col p) i col:=by
    conv=>lhs;unfold gt
    rw[hpv,<-getD_map take_nil];exact yj hc
   rw[hg,hpv,hpv,getD_map take_nil,getD_map take_nil]
theorem I1{n:Nat}{L:List (List Nat)}(col:Nat)(hc:col<=n):bV (L.map (List.take n)) col=((bV L col).1.map (List.take n),(bV L col).2):=by
 induction col with
 | zero=>rfl
 | succ col ih=>
   simp only[bV];rw[ih (by omega)];exact FA (by omega)
theorem BK{n:Nat}{a b:List (List Nat)}(h:a.length=b.length)(ha:Wf n a):(dC a b).map (List.take n)=a:=by
 refine LO (by rw[aC,eG h]) fun i hi=> ?_;rw[aC,eG h] at hi;rw[getD_map take_nil,jJ h,take_append_of_le_length (by rw[(ha.get hi).1];exact ah _),aJ (by rw[(ha.get hi).1];exact ah _)]
theorem tO{n:Nat}{a b:List (List Nat)}(h:a.length=b.length)(ha:Wf n a){col:Nat}(hc:col<=n):(bV (dC a b) col).2=(bV a col).2/\(bV (dC a b) col).1.map (List.take n)=(bV a col).1:=by
 have:=I1 (L:=dC a b) col hc;rw[BK h ha] at this;rw[this];exact⟨rfl,rfl⟩
theorem tP{n:Nat}{a:List (List Nat)}(ha:Wf n a)(h0:a≠[]):(dE a).length=(bV a n).2:=by
 obtain⟨ls,hi⟩:=iK ha n;unfold dE;rw[lK ha h0,aG];have:=hi.le;omega
theorem zI{n:Nat}{ls:List Nat}(h:ls.Pairwise (·< ·))(hn:∀l∈ls,l<n)(hl:ls.length=n):ls=range n:=by
 refine KN ls _ h (pairwise_lt_range) fun x=>⟨fun hx=>bA.2 (hn x hx),fun hx=> ?_⟩;apply Classical.byContradiction;intro hc;have h1:(x :: ls).Nodup:=nodup_cons.2 ⟨hc,qK h⟩
 have h2:=h1.length_le_of_subset (l₂:=range n) fun y hy=>by
  rcases mem_cons.1 hy with e | e
  ·subst e;exact hx
  ·exact bA.2 (hn y e)
 simp at h2;omega
theorem FB(M:List (Nat->Nat)):∀(ls:List Nat) (u v:Nat->Nat),(∀l∈ls,u l=v l)->oH M ls u=oH M ls v:=by
 induction M with
 | nil=>intro ls u v _;rfl
 | cons r M ih=>
   intro ls u v h;cases ls with
   | nil=>rfl
   | cons l ls=>simp only[oH];rw[ih ls u v fun x hx=>h x (mem_cons_of_mem _ hx),h l mem_cons_self]
theorem RedV.ext{M:List (Nat->Nat)}{ls:List Nat}(h:RedV M ls){u v:Nat->Nat}(hu:Spn M u)(hv:Spn M v)(he:∀l∈ls,u l=v l):u=v:=by
 rw[<-h.eq_lco hu,<-h.eq_lco hv];exact FB M ls u v he
def rL(n i:Nat):List Nat:=(range n).map fun j=>if j=i then 1 else 0
def iI(n:Nat)(x:List (List Nat)):List (List Nat):=(range n).map fun i=>rL n i++x.getD i []
theorem kW(n i:Nat):(rL n i).length=n:=by simp[rL]
theorem FC{n i j:Nat}(hj:j<n):(rL n i).getD j 0=if j=i then 1 else 0:=by simp[rL,hj]
theorem FD(n i:Nat):∀x∈rL n i,x<256:=by
 intro x hx;simp only[rL,aW] at hx;obtain⟨j,_,rfl⟩:=hx;split <;> decide
theorem gJ(n:Nat)(x:List (List Nat)):(iI n x).length=n:=by simp[iI]
theorem mM{n:Nat}{x:List (List Nat)}{i:Nat}(hi:i<n):(iI n x).getD i []=rL n i++x.getD i []:=by simp[iI,hi]
theorem pQ{n k:Nat}{x:List (List Nat)}(hx:Wf k x)(hl:x.length=n):Wf (n+k) (iI n x):=by
 refine uq fun i hi=> ?_;rw[gJ] at hi;rw[mM hi];have h1:=hx.get (i:=i) (by omega);refine⟨by rw[aH,kW];omega,fun y hy=> ?_⟩;rcases bz.1 hy with hy | hy
 ·exact FD n i y hy
 ·exact h1.2 y hy
theorem il{n:Nat}{x:List (List Nat)}{i j:Nat}(hi:i<n)(hj:j<n):vO ((iI n x).getD i []) j=if j=i then 1 else 0:=by
 rw[mM hi];unfold vO;rw[af,List.getElem?_append_left (by rw[kW];exact hj),<-af];exact FC hj
theorem rO{n:Nat}{x:List (List Nat)}{i j:Nat}(hi:i<n)(hj:n<=j):vO ((iI n x).getD i []) j=vO (x.getD i []) (j-n):=by
 rw[mM hi];unfold vO;rw[af,List.getElem?_append_right (by rw[kW];exact hj),kW,<-af]
theorem tQ{M:List (List Nat)}{i:Nat}{r:Nat->Nat}(h:(M.map vO)[i]? =some r):i<M.length/\r=vO (M.getD i []):=by
 rw[List.getElem?_map] at h;rcases bq i M.length with hi | hi
 ·rw[ag hi] at h
  refine⟨hi,?_⟩;rw[af,ag hi];simpa using h.symm
 ·rw[List.getElem?_eq_none hi] at h;simp at h
theorem wZ{n k:Nat}{x:List (List Nat)}(hx:Wf k x)(hl:x.length=n):RedV ((iI n x).map vO) (range n):=by
 have hr:∀ {i l:Nat},(range n)[i]? =some l->l=i/\i<n:=fun {i l} h=>by
  have hi:=(List.getElem?_eq_some_iff.1 h).1;rw[aY] at hi;rw[List.getElem?_range hi] at h;exact⟨by simpa using h.symm,hi⟩
 refine⟨by simp[gJ],pairwise_lt_range,?_,?_,?_,(pQ hx hl).vb⟩
 ·intro i r l h1 h2
  obtain⟨rfl,hi⟩:=hr h2;obtain⟨-,rfl⟩:=tQ h1;rw[il hi hi,bf rfl]
 ·intro i j r l h1 h2 hne
  obtain⟨rfl,hi⟩:=hr h2;obtain⟨hj,rfl⟩:=tQ h1;rw[gJ] at hj;rw[il hj hi,bg fun e=>hne e.symm]
 ·intro i r l h1 h2 j hj
  obtain⟨rfl,hi⟩:=hr h2;obtain⟨-,rfl⟩:=tQ h1;rw[il hi (by omega),bg (by omega)]
theorem xa{n:Nat}{x:List (List Nat)}{v:Nat->Nat}(hv:Vb v):∀(k j:Nat),k<=n->j<n->tmp (iI n x) v k j=if j<k then v j else 0:=by
 intro k
 induction k with
 | zero=>intro j _ _;rfl
 | succ k ih=>
   intro j hk hj;simp only[tmp,kr];rw[ih j (by omega) hj,il (by omega) hj];by_cases h1:j=k
   ·subst h1;rw[bg (Nat.lt_irrefl _),bf rfl,bf (by omega),Nat.zero_xor,ko _ (hv j)]
   ·rw[bg h1,bK,Nat.xor_zero]
    by_cases h2:j<k
    ·rw[bf h2,bf (by omega)]
    ·rw[bg h2,bg (by omega)]
theorem BL{n:Nat}{x:List (List Nat)}{v:Nat->Nat}:∀(k j:Nat),k<=n->n<=j->tmp (iI n x) v k j=tmp x v k (j-n):=by
 intro k
 induction k with
 | zero=>intro j _ _;rfl
 | succ k ih=>
   intro j hk hj;simp only[tmp,kr];rw[ih j (by omega) hj,rO (by omega) hj]
theorem FE{n k:Nat}{x:List (List Nat)}(hx:Wf k x)(hl:x.length=n){v:Nat->Nat}(hv:Spn ((iI n x).map vO) v):v=tmp (iI n x) v n:=by
 have hw:=pQ hx hl;refine(wZ hx hl).ext hv (EF hw hv.vb n (by rw[gJ];exact ah _)) fun l hl'=> ?_;have:=bA.1 hl';rw[xa hv.vb n l (ah _) this,bf this]
theorem mN{a b:List Nat}{n:Nat}(h:a.length=n)(j:Nat):vO (a++b) j=if j<n then vO a j else vO b (j-n):=by
 unfold vO;simp only[af];split
 ·rw[List.getElem?_append_left (by omega)]
 ·rw[List.getElem?_append_right (by omega),h]
theorem FG{x:List (List Nat)}{u v:Nat->Nat}:∀k,(∀j,j<k->u j=v j)->tmp x u k=tmp x v k:=by
 intro k
 induction k with
 | zero=>intro _;rfl
 | succ k ih=>intro h;simp only[tmp];rw[ih fun j hj=>h j (by omega),h k (by omega)]
theorem Ej{n k:Nat}{a x:List (List Nat)}(ha:Wf n a)(hx:Wf k x)(hl:x.length=n)(h0:x≠[]){i:Nat}(hi:i<a.length):
 vO ((dC a (jD a x)).getD i [])=tmp (iI n x) (vO (a.getD i [])) n:=by
 have h:=ha.get hi;have hv:=iq h.2;have hm:(jD a x).length=a.length:=by simp[jD]
 rw[jJ hm.symm]
 have hr:(jD a x).getD i []=oV k (a.getD i []) x x.length:=by
  simp only[jD,af,List.getElem?_map,ag hi,Option.map_some,Option.getD_some];rw[lK hx h0]
 rw[hr];funext j;rw[mN h.1];split
 ·rename_i hj
  rw[xa hv n j (ah _) hj,bf hj]
 ·rename_i hj
  rw[BL n j (ah _) (by omega),(yK (r:=a.getD i []) hx x.length (ah _)).2.2,hl]
theorem zJ{n k:Nat}{a x:List (List Nat)}(ha:Wf n a)(hx:Wf k x)(hl:x.length=n)(h0:x≠[])(hr:(bV a n).2=n):
 (∀i,n<=i->∀j,gt (bV (dC a (jD a x)) n).1 i j=0)/\((bV (dC a (jD a x)) n).1.take n).map (List.drop n)=x:=by
 have hm:a.length=(jD a x).length:=by simp[jD]
 have hb:=EG (a:=a) hx h0;have hw:=tN hm ha hb;have hsw:=pQ hx hl;obtain⟨ls,hI⟩:=iK hw n;have hS:=qU hw n;rw[(tO hm ha (ah n)).1,hr] at hI;generalize (bV (dC a (jD a x)) n).1=L at*;have hls:ls=range n:=zI hI.up hI.lt hI.cnt;subst hls
 have hsub:∀ {v},Spn (L.map vO) v->Spn ((iI n x).map vO) v:=fun {v} hv=>by
  refine mh hw hsw (fun i hi=> ?_) ((hS v).2 hv);rw[eG hm] at hi;rw[Ej ha hx hl h0 hi];exact EF hsw (iq (ha.get hi).2) n (by rw[gJ];exact ah _)
 have hrows:∀i,i<L.length->vO (L.getD i [])=if i<n then vO ((iI n x).getD i []) else vz:=fun i hi=>by
  refine(wZ hx hl).ext (hsub (hI.wf.spn hi)) ?_ fun l hl'=> ?_
  ·split
   ·rename_i h;exact hsw.spn (by rw[gJ];exact h)
   ·exact .zero
  ·have hl2:=bA.1 hl'
   have:=hI.piv l l (by rw[List.getElem?_range hl2]) i hi;refine Eq.trans this ?_;split
   ·rename_i e;subst e;rw[bf hl2,il hl2 hl2,bf rfl]
   ·rename_i e
    split
    ·rename_i h;rw[il h hl2,bg fun x=>e x.symm]
    ·rfl
 constructor
 ·intro i hi j
  rcases bq i L.length with h | h
  ·have:=congrFun (hrows i h) j
   rw[bg (by omega)] at this;exact this
  ·exact um h j
 ·have hle:=hI.le
  refine LO (by rw[aC,aG];omega) fun i hi=> ?_;rw[aC,aG] at hi;rw[getD_map drop_nil];have hiL:i<L.length:=(by omega);have e1:(L.take n).getD i []=L.getD i []:=(by simp[show i<n by omega]);have e2:=hrows i hiL;rw[bf (by omega)] at e2;have e3:=ym (hI.wf.get hiL).1 (hsw.get (i:=i) (by rw[gJ];omega)).1 e2;rw[e1,e3,mM (by omega),drop_left' (kW n i)]
theorem BN{n k:Nat}{a c:List (List Nat)}(ha:Wf n a)(hc:Wf k c)(hl:a.length=c.length)(h0:0<n)(hr:(bV a n).2=n)
 (hz:∀i,n<=i->∀j,gt (bV (dC a c) n).1 i j=0):jD a (((bV (dC a c) n).1.take n).map (List.drop n))=c/\Wf k (((bV (dC a c) n).1.take n).map (List.drop n))/\(((bV (dC a c) n).1.take n).map (List.drop n)).length=n:=by
 have hw:=tN hl ha hc;obtain⟨ls,hI⟩:=iK hw n;have hS:=qU hw n;rw[(tO hl ha (ah n)).1,hr] at hI;generalize (bV (dC a c) n).1=L at*;have hls:ls=range n:=zI hI.up hI.lt hI.cnt;subst hls;have hle:=hI.le;obtain⟨z,hzd⟩:∃z,z=(L.take n).map (List.drop n):=⟨_,rfl⟩;rw[<-hzd];have hzl:z.length=n:=by rw[hzd,aC,aG];omega
 have hzr:∀i,i<n->z.getD i []=(L.getD i []).drop n:=fun i hi=>by
  rw[hzd,getD_map drop_nil];congr 1;simp[hi]
 have hzw:Wf k z:=uq fun i hi=>by
  rw[hzl] at hi;have:=hI.wf.get (i:=i) (by omega);rw[hzr i hi];exact⟨by rw[length_drop];omega,fun x hx=>this.2 x (mem_of_mem_drop hx)⟩
 have hz0:z≠[]:=fun e=>by rw[e] at hzl;simp at hzl;omega
 refine⟨?_,hzw,hzl⟩;have hsw:=pQ hzw hzl
 have hrow:∀i,i<n->L.getD i []=(iI n z).getD i []:=fun i hi=>by
  refine ym (hI.wf.get (by omega)).1 (hsw.get (i:=i) (by rw[gJ];exact hi)).1 (funext fun j=> ?_);rcases bq j n with hj | hj
  ·rw[il hi hj]
   have:=hI.piv j j (by rw[List.getElem?_range hj]) i (by omega);refine Eq.trans this ?_;by_cases e:i=j
   ·rw[bf e,bf e.symm]
   ·rw[bg e,bg fun x=>e x.symm]
  ·rw[rO hi hj,hzr i hi]
   unfold vO;simp only[af,List.getElem?_drop,show n+(j-n)=j by omega]
 have hsub:∀ {v},Spn ((dC a c).map vO) v->Spn ((iI n z).map vO) v:=fun {v} hv=>by
  refine mh hI.wf hsw (fun i hi=> ?_) ((hS v).1 hv);rcases bq i n with h | h
  ·rw[hrow i h];exact hsw.spn (by rw[gJ];exact h)
  ·rw[show vO (L.getD i [])=vz from funext fun j=>hz i h j];exact .zero
 have hm:(jD a z).length=a.length:=by simp[jD]
 have hmw:=EG (a:=a) hzw hz0;refine LO (by omega) fun i hi=> ?_;rw[hm] at hi;refine ym (hmw.get (by omega)).1 (hc.get (by omega)).1 (funext fun j=> ?_);have h1:=ha.get hi;have e1:=FE hzw hzl (hsub (hw.spn (i:=i) (by rw[eG hl];exact hi)));rw[jJ hl] at e1;have e2:=Ej ha hzw hzl hz0 hi;rw[jJ hm.symm] at e2;have e3:tmp (iI n z) (vO (a.getD i []++c.getD i [])) n=tmp (iI n z) (vO (a.getD i [])) n:=FG n fun j hj=>by rw[mN h1.1,bf hj]
 rw[e3,<-e2] at e1;have:=congrFun e1 (n+j);rw[mN h1.1,mN h1.1,bg (by omega),bg (by omega),show n+j-n=j by omega] at this;exact this.symm
theorem uG:5≠30:=by decide
structure MOwnV (w:World) (C:Nat) (v:Value) (M:List (List Nat)) (vs:List Value):Prop where
 hd:w.ownsRow C 30 1 v M.length vs
 row:∀(i:Nat) l,M[i]? =some l->∃u,vs[i]? =some u/\OwnB w C u l
 apart:∀(i j:Nat) u u',i≠j->vs[i]? =some u->vs[j]? =some u'->u.ownBlock=none\/u.ownBlock≠u'.ownBlock
def MOwn(w:World)(C:Nat)(v:Value)(M:List (List Nat)):Prop:=∃vs,MOwnV w C v M vs
theorem MOwnV.vlen{w:World}{C:Nat}{v:Value}{M:List (List Nat)}{vs:List Value}(h:MOwnV w C v M vs):vs.length=M.length:=by have:=h.hd.1;omega
theorem MOwnV.len{w:World}{C:Nat}{a:Option Addr}{n c:Nat}{M:List (List Nat)}{vs:List Value}(h:MOwnV w C (slice a n c) M vs):M.length=n:=by
 rcases h.hd.2 with⟨h1,h2⟩ | ⟨g,cap,cur,h1,_⟩
 ·injection h1 with _ h3;omega
 ·injection h1 with _ h3;exact h3.symm
theorem MOwn.len{w:World}{C:Nat}{a:Option Addr}{n c:Nat}{M:List (List Nat)}(h:MOwn w C (slice a n c) M):M.length=n:=by
 obtain⟨vs,h⟩:=h;exact h.len
theorem MOwnV.of{w:World}{C:Nat}{v:Value}{M:List (List Nat)}{vs:List Value}(h:MOwnV w C v M vs){i:Nat}{u:Value}(hu:vs[i]? =some u):OwnB w C u (M.getD i [])/\M[i]? =some (M.getD i []):=by
 have hi:i<M.length:=by have:=(List.getElem?_eq_some_iff.1 hu).1;rw[h.vlen] at this;exact this
 have hl:M[i]? =some (M.getD i []):=by rw[af,ag hi];rfl
 obtain⟨u',h1,h2⟩:=h.row i _ hl;rw[hu] at h1;rw[Option.some.inj h1];exact⟨h2,hl⟩
theorem MOwnV.hdrow{w:World}{C:Nat}{v:Value}{M:List (List Nat)}{vs:List Value}(h:MOwnV w C v M vs){i:Nat}{u:Value}(hu:vs[i]? =some u):u.ownBlock=none\/u.ownBlock≠v.ownBlock:=
 own_ne (h.of hu).1 h.hd uG
theorem MOwnV.form{w:World}{C:Nat}{v:Value}{M:List (List Nat)}{vs:List Value}(h:MOwnV w C v M vs)(h0:0<M.length):∃g cap,v=slice (some ⟨g,0,none⟩) M.length cap/\C<=g/\g<w.heap.size:=h.hd.form h0
theorem MOwn.form{w:World}{C:Nat}{a:Option Addr}{n c:Nat}{M:List (List Nat)}(h:MOwn w C (slice a n c) M)(h0:0<n):∃g,a=some ⟨g,0,none⟩/\C<=g/\g<w.heap.size:=by
 have hl:=h.len;obtain⟨vs,h⟩:=h;obtain⟨g,cap,e,h1,h2⟩:=h.form (by omega);injection e with e1;exact⟨g,e1,h1,h2⟩
theorem OwnB.lt{w:World}{C:Nat}{u:Value}{l:List Nat}(h:OwnB w C u l):∀g,u.ownBlock=some g->C<=g/\g<w.heap.size:=World.ownsRow.lt h
theorem OwnB.kept{w w':World}{C:Nat}{u:Value}{l:List Nat}{r:Option Nat}(h:OwnB w C u l)(hg:w.grownBy w' r)(hr:u.ownBlock=none\/u.ownBlock≠r):OwnB w' C u l:=World.ownsRow.kept h hg hr
theorem MOwn.at{w:World}{C g n c:Nat}{M:List (List Nat)}(h:MOwn w C (slice (some ⟨g,0,none⟩) n c) M){i:Nat}(hi:i<n):
 ∃a' c',w.cell? ⟨g,i,none⟩=some (slice a' (M.getD i []).length c')/\w.frozen? ⟨g,i,none⟩=false/\OwnB w C (slice a' (M.getD i []).length c') (M.getD i []):=by
 have hl:=h.len;obtain⟨vs,h⟩:=h;have hiv:i<vs.length:=by rw[h.vlen,hl];exact hi
 have hu:vs[i]? =some vs[i]:=ag hiv;obtain⟨ho,_⟩:=h.of hu;have hc:w.cell? ⟨g,i,none⟩=some vs[i]:=by rw[<-hu];have:=h.hd;rw[hl] at this;exact this.cellAt i (by omega)
 have hf:=by have:=h.hd;rw[hl] at this;exact this.frozenAt i
 obtain⟨a',c',e,_⟩:=ho.rd;rw[e] at hc ho;exact⟨a',c',hc,hf,ho⟩
theorem MOwnV.new{w w':World}{C:Nat}{v:Value}{M:List (List Nat)}{vs:List Value}(h:MOwnV w C v M vs)(hb:Below w.heap.size w w'):MOwnV w' C v M vs:=
 ⟨fQ h.hd hb,fun i l hl=>by obtain⟨u,h1,h2⟩:=h.row i l hl;exact⟨u,h1,h2.below hb⟩,h.apart⟩
theorem MOwn.new{w w':World}{C:Nat}{v:Value}{M:List (List Nat)}(h:MOwn w C v M)(hb:Below w.heap.size w w'):MOwn w' C v M:=by
 obtain⟨vs,h⟩:=h;exact⟨vs,h.new hb⟩
theorem MOwn.drewN{w:World}{C:Nat}{v:Value}{M:List (List Nat)}(h:MOwn w C v M)(j:Nat):MOwn (w.drewN j) C v M:=h.new (below_drewN (az _ _) j)
theorem MOwn.base{w:World}{C C':Nat}{v:Value}{M:List (List Nat)}(h:MOwn w C v M)(hC:C'<=C):MOwn w C' v M:=by
 obtain⟨vs,h⟩:=h;exact⟨vs,li h.hd hC,fun i l hl=>by obtain⟨u,h1,h2⟩:=h.row i l hl;exact⟨u,h1,h2.base hC⟩,h.apart⟩
theorem MOwn.nil(w:World)(C:Nat):MOwn w C (slice none 0 0) []:=⟨[],World.ownsRow_nil _ _ _ _,by simp,by simp⟩
theorem iM{α:Type}{l:List α}{i k:Nat}{x y:α}(h:(l.set i x)[k]? =some y):(k=i/\y=x/\i<l.length)\/(k≠i/\l[k]? =some y):=by
 rw[List.getElem?_set] at h;by_cases e:i=k
 ·subst e
  rw[bf rfl] at h;split at h
  ·rename_i h2;exact .inl ⟨rfl,(Option.some.inj h).symm,h2⟩
  ·cases h
 ·rw[bg e] at h
  exact .inr ⟨fun h2=>e h2.symm,h⟩
theorem Af{α:Type}{l:List α}{i:Nat}{x:α}(h:i<l.length):(l.set i x)[i]? =some x:=by rw[List.getElem?_set,bf rfl,bf h]
theorem Et{α:Type}{l:List α}{i k:Nat}{x:α}(h:k≠i):(l.set i x)[k]? =l[k]? :=by rw[List.getElem?_set,bg (fun e=>h e.symm)]
theorem MOwn.swap{w:World}{C g n c:Nat}{M:List (List Nat)}(h:MOwn w C (slice (some ⟨g,0,none⟩) n c) M){i j:Nat}(hi:i<n)(hj:j<n){ui uj:Value}(hci:w.cell? ⟨g,i,none⟩=some ui)(hcj:w.cell? ⟨g,j,none⟩=some uj):
 MOwn ((w.setCell ⟨g,i,none⟩ uj).setCell ⟨g,j,none⟩ ui) C (slice (some ⟨g,0,none⟩) n c) (swp M i j):=by
 have hl:=h.len;obtain⟨vs,h⟩:=h;have hv:=h.vlen;have hd:=h.hd;rw[hl] at hd;have hui:vs[i]? =some ui:=by rw[<-hd.cellAt i (by omega)];exact hci
 have huj:vs[j]? =some uj:=by rw[<-hd.cellAt j (by omega)];exact hcj
 obtain⟨d1,g1⟩:=hd.stored i uj;obtain⟨d2,g2⟩:=d1.stored j ui;have hrow:∀(k:Nat) u,vs[k]? =some u->u.ownBlock=none\/u.ownBlock≠some g:=fun k u hu=>by have:=h.hdrow hu;simpa[Value.ownBlock] using this
 have hkeep:∀(k:Nat) u,vs[k]? =some u->OwnB ((w.setCell ⟨g,i,none⟩ uj).setCell ⟨g,j,none⟩ ui) C u (M.getD k []):=fun k u hu=>((h.of hu).1.kept g1 (hrow k u hu)).kept g2 (hrow k u hu)
 have hsg:∀(k:Nat) u,((vs.set i uj).set j ui)[k]? =some u->vs[sg i j k]? =some u:=by
  intro k u hu;unfold sg;rcases iM hu with⟨rfl,rfl,_⟩ | ⟨h1,h2⟩
  ·by_cases e:k=i
   ·rw[bf e];subst e;rw[hui] at huj;rw[<-hui]
   ·rw[bg e,bf rfl];exact hui
  ·rcases iM h2 with⟨rfl,rfl,_⟩ | ⟨h3,h4⟩
   ·rw[bf rfl];exact huj
   ·rw[bg h3,bg h1];exact h4
 have hln:(swp M i j).length=n:=by rw[ij];exact hl
 refine⟨(vs.set i uj).set j ui,by rw[hln];exact d2,fun k l hk=> ?_,fun k k' u u' hne hu hu'=> ?_⟩
 ·have hkn:k<n:=by have:=(List.getElem?_eq_some_iff.1 hk).1;omega
  have hs:sg i j k<n:=ut hi hj hkn;obtain⟨u,hu⟩:∃u,((vs.set i uj).set j ui)[k]? =some u:=⟨_,ag (by simp;omega)⟩;refine⟨u,hu,?_⟩;have:=hkeep _ u (hsg k u hu);rw[<-lJ (by omega) (by omega) k] at this;rw[af,hk] at this;exact this
 ·refine h.apart _ _ u u' (fun e=>hne ?_) (hsg k u hu) (hsg k' u' hu')
  have:=congrArg (sg i j) e
  rwa [I7,I7] at this
theorem MOwn.put{w0 w:World}{C g n c:Nat}{M:List (List Nat)}(h:MOwn w0 C (slice (some ⟨g,0,none⟩) n c) M)(hb:Below w0.heap.size w0 w){i:Nat}(hi:i<n){u:Value}{l:List Nat}(ho:OwnB w w0.heap.size u l)(hC:C<=w0.heap.size):
 MOwn (w.setCell ⟨g,i,none⟩ u) C (slice (some ⟨g,0,none⟩) n c) (M.set i l):=by
 have hl:=h.len;obtain⟨vs,h⟩:=h;have hv:=h.vlen;have hlt0:∀(k:Nat) u',vs[k]? =some u'->∀b,u'.ownBlock=some b->b<w0.heap.size:=fun k u' hu b hb=>((h.of hu).1.lt b hb).2;replace h:=h.new hb;have hd:=h.hd;rw[hl] at hd;obtain⟨d1,g1⟩:=hd.stored i u;have hgw:u.ownBlock=none\/u.ownBlock≠some g:=by have:=own_ne ho hd uG;simpa[Value.ownBlock] using this
 have hrow:∀(k:Nat) u,vs[k]? =some u->u.ownBlock=none\/u.ownBlock≠some g:=fun k u hu=>by have:=h.hdrow hu;simpa[Value.ownBlock] using this
 refine⟨vs.set i u,by rw[length_set,hl];exact d1,fun k l' hk=> ?_,fun k k' u1 u2 hne hu1 hu2=> ?_⟩
 ·rcases iM hk with⟨rfl,rfl,h3⟩ | ⟨h1,h2⟩
  ·exact⟨u,Af (by omega),(ho.base hC).kept g1 hgw⟩
  ·obtain⟨u1,h3,h4⟩:=h.row k l' h2
   exact⟨u1,by rw[Et h1];exact h3,h4.kept g1 (hrow k u1 h3)⟩
 ·rcases iM hu1 with⟨rfl,rfl,h3⟩ | ⟨h1,h2⟩
  ·rcases iM hu2 with⟨rfl,_,_⟩ | ⟨h1,h2⟩
   ·exact absurd rfl hne
   ·cases e:u1.ownBlock with
    | none=>exact .inl rfl
    | some b=>
      right;intro e2;have:=hlt0 _ _ h2 b e2.symm;have:=(ho.lt b e).1;omega
  ·rcases iM hu2 with⟨rfl,rfl,_⟩ | ⟨h3,h4⟩
   ·cases e:u1.ownBlock with
    | none=>exact .inl rfl
    | some b=>
      right;intro e2;have:=hlt0 _ _ h2 b e;have:=(ho.lt b e2.symm).1;omega
   ·exact h.apart k k' u1 u2 hne h2 h4
theorem MOwn.wrote{w w':World}{C g n c:Nat}{M:List (List Nat)}(h:MOwn w C (slice (some ⟨g,0,none⟩) n c) M){i:Nat}(hi:i<n){u:Value}{l:List Nat}(hc:w.cell? ⟨g,i,none⟩=some u)(hg:w.grownBy w' u.ownBlock)(ho:OwnB w' C u l):
 MOwn w' C (slice (some ⟨g,0,none⟩) n c) (M.set i l):=by
 have hl:=h.len;obtain⟨vs,h⟩:=h;have hv:=h.vlen;have hd:=h.hd;rw[hl] at hd;have hui:vs[i]? =some u:=by rw[<-hd.cellAt i (by omega)];exact hc
 have hne:(Value.slice (some ⟨g,0,none⟩) n c).ownBlock=none\/(Value.slice (some ⟨g,0,none⟩) n c).ownBlock≠u.ownBlock:=by
  right;rcases h.hdrow hui with h1 | h1
  ·rw[h1];simp[Value.ownBlock]
  ·exact fun e=>h1 e.symm
 refine⟨vs,by rw[length_set,hl];exact hd.kept hg hne,fun k l' hk=> ?_,h.apart⟩;rcases iM hk with⟨rfl,rfl,h3⟩ | ⟨h1,h2⟩
 ·exact⟨u,hui,ho⟩
 ·obtain⟨u1,h3,h4⟩:=h.row k l' h2
  exact⟨u1,h3,h4.kept hg (h.apart k i u1 u h1 h3 hui)⟩
theorem MOwnV.snoc{w w':World}{C D:Nat}{v v':Value}{M:List (List Nat)}{vs:List Value}{u:Value}{l:List Nat}(h:MOwnV w C v M vs)(hD:∀(i:Nat) u',vs[i]? =some u'->∀b,u'.ownBlock=some b->b<D)(hC:C<=D)(ho:OwnB w D u l)
 (hown:w'.ownsRow C 30 1 v' (M.length+1) (vs++[u]))(hg:w.grownBy w' v.ownBlock):MOwnV w' C v' (M++[l]) (vs++[u]):=by
 have hv:=h.vlen;have huv:u.ownBlock=none\/u.ownBlock≠v.ownBlock:=own_ne ho h.hd uG
 have hcase:∀(k:Nat) u1,(vs++[u])[k]? =some u1->(k<vs.length/\vs[k]? =some u1)\/(k=vs.length/\u1=u):=by
  intro k u1 hk;rw[List.getElem?_append] at hk;split at hk
  ·rename_i h1;exact .inl ⟨h1,hk⟩
  ·rename_i h1
   have:k-vs.length=0:=by
    rcases Nat.eq_zero_or_pos (k-vs.length) with h2 | h2
    ·exact h2
    ·rw[List.getElem?_eq_none (by simp;omega)] at hk;cases hk
   rw[this] at hk;exact .inr ⟨by omega,(Option.some.inj hk).symm⟩
 refine⟨by rw[aH,length_singleton];exact hown,fun k l' hk=> ?_,fun k k' u1 u2 hne hu1 hu2=> ?_⟩
 ·rw[List.getElem?_append] at hk
  split at hk
  ·rename_i h1
   obtain⟨u1,h3,h4⟩:=h.row k l' hk;exact⟨u1,by rw[List.getElem?_append_left (by omega)];exact h3,h4.kept hg (h.hdrow h3)⟩
  ·rename_i h1
   have:k-M.length=0:=by
    rcases Nat.eq_zero_or_pos (k-M.length) with h2 | h2
    ·exact h2
    ·rw[List.getElem?_eq_none (by simp;omega)] at hk;cases hk
   rw[this] at hk;obtain rfl:l=l':=(by simpa using hk);exact⟨u,by rw[List.getElem?_append_right (by omega),hv,this];rfl,(ho.base hC).kept hg huv⟩
 ·rcases hcase k u1 hu1 with⟨h1,h2⟩ | ⟨h1,rfl⟩
  ·rcases hcase k' u2 hu2 with⟨h3,h4⟩ | ⟨h3,rfl⟩
   ·exact h.apart k k' u1 u2 hne h2 h4
   ·cases e:u1.ownBlock with
    | none=>exact .inl rfl
    | some b=>
      right;intro e2;have:=hD _ _ h2 b e;have:=(ho.lt b e2.symm).1;omega
  ·rcases hcase k' u2 hu2 with⟨h3,h4⟩ | ⟨h3,rfl⟩
   ·cases e:u1.ownBlock with
    | none=>exact .inl rfl
    | some b=>
      right;intro e2;have:=hD _ _ h4 b e2.symm;have:=(ho.lt b e).1;omega
   ·omega
theorem MOwn.take{w:World}{C g n c:Nat}{M:List (List Nat)}(h:MOwn w C (slice (some ⟨g,0,none⟩) n c) M){k:Nat}(hk:k<=n):MOwn w C (slice (some ⟨g,0,none⟩) k c) (M.take k):=by
 have hl:=h.len;obtain⟨vs,h⟩:=h;have hv:=h.vlen;have hkl:(M.take k).length=k:=by rw[aG];omega
 refine⟨vs.take k,?_,fun i l hi=> ?_,fun i j u u' hne hu hu'=> ?_⟩
 ·rw[hkl]
  have hd:=h.hd;rw[hl] at hd;refine⟨by rw[aG];omega,?_⟩;rcases hd.2 with⟨h1,_⟩ | ⟨g',cap,cur,h1,h2,h3,h4,h5,h6,h7⟩
  ·simp at h1
  ·injection h1 with e1 e2 e3
   subst e3;refine .inr ⟨g',c,cur,by rw[e1],h2,h3,by omega,h5,h6,?_⟩;rw[<-h7,take_take,Nat.mul_one,Nat.mul_one,Nat.min_eq_left hk]
 ·rw[List.getElem?_take] at hi
  split at hi
  ·rename_i h1
   obtain⟨u,h2,h3⟩:=h.row i l hi;exact⟨u,by rw[List.getElem?_take,bf h1];exact h2,h3⟩
  ·cases hi
 ·rw[List.getElem?_take] at hu hu'
  split at hu
  ·split at hu'
   ·exact h.apart i j u u' hne hu hu'
   ·cases hu'
  ·cases hu
def RdM(w:World)(B:Nat)(a:Option Addr)(n:Nat)(M:List (List Nat)):Prop:=
 M.length=n/\∃vs,Rd w B a n vs/\∀(i:Nat) l,M[i]? =some l->∃a' c',vs[i]? =some (slice a' l.length c')/\Rd w B a' l.length (bF l)/\(a'=none->c'=0)/\l.length<=c'/\c'<=maxLen
theorem RdM.len{w:World}{B:Nat}{a:Option Addr}{n:Nat}{M:List (List Nat)}(h:RdM w B a n M):M.length=n:=h.1
theorem RdM.keep{w w':World}{B:Nat}{a:Option Addr}{n:Nat}{M:List (List Nat)}(h:RdM w B a n M)(hk:∀p:Addr,p.block<B->w'.cell? p=w.cell? p):RdM w' B a n M:=by
 obtain⟨h1,vs,h2,h3⟩:=h;refine⟨h1,vs,h2.keep hk,fun i l hl=> ?_⟩;obtain⟨a',c',h4,h5,h6⟩:=h3 i l hl;exact⟨a',c',h4,h5.keep hk,h6⟩
theorem RdM.more{w:World}{B B':Nat}{a:Option Addr}{n:Nat}{M:List (List Nat)}(h:RdM w B a n M)(hB:B<=B'):RdM w B' a n M:=by
 obtain⟨h1,vs,h2,h3⟩:=h;refine⟨h1,vs,h2.more hB,fun i l hl=> ?_⟩;obtain⟨a',c',h4,h5,h6⟩:=h3 i l hl;exact⟨a',c',h4,h5.more hB,h6⟩
theorem RdM.below{w w':World}{B C:Nat}{a:Option Addr}{n:Nat}{M:List (List Nat)}(h:RdM w B a n M)(hb:Below C w w')(hC:B<=C):RdM w' B a n M:=h.keep fun _ hp=>hb.cell (by omega)
theorem getD_some{M:List (List Nat)}{i:Nat}(h:i<M.length):M[i]? =some (M.getD i []):=by rw[af,ag h];rfl
theorem RdM.at{w:World}{B:Nat}{a:Option Addr}{n:Nat}{M:List (List Nat)}(h:RdM w B a n M){i:Nat}(hi:i<n):
 ∃b o a' c',a=some ⟨b,o,none⟩/\b<B/\w.cell? ⟨b,o+i,none⟩=some (slice a' (M.getD i []).length c')/\Rd w B a' (M.getD i []).length (bF (M.getD i []))/\(a'=none->c'=0)/\(M.getD i []).length<=c'/\c'<=maxLen:=by
 obtain⟨h1,vs,h2,h3⟩:=h;obtain⟨a',c',h4,h5,h6⟩:=h3 i _ (getD_some (by omega));obtain⟨b,o,rfl,hb,hc⟩:=h2.2 (by omega);exact⟨b,o,a',c',rfl,hb,hc i _ h4,h5,h6⟩
theorem OwnB.caps{w:World}{C:Nat}{a:Option Addr}{n c:Nat}{l:List Nat}(h:OwnB w C (slice a n c) l):(a=none->c=0)/\n<=c/\c<=maxLen:=by
 rcases h.2 with⟨h1,_⟩ | ⟨g,cap,cur,h1,_,_,h4,h5,_⟩
 ·injection h1 with e1 e2 e3
  subst e2 e3;exact⟨fun _=>rfl,ah _,bu _⟩
 ·injection h1 with e1 e2 e3
  subst e2 e3;exact⟨fun e=>(by rw[e] at e1;cases e1),h4,h5⟩
theorem MOwn.rdM{w:World}{C:Nat}{a:Option Addr}{n c:Nat}{M:List (List Nat)}(h:MOwn w C (slice a n c) M):RdM w w.heap.size a n M:=by
 have hl:=h.len;obtain⟨vs,h⟩:=h;have hd:=h.hd;rw[hl] at hd;obtain⟨a1,c1,e,hr,_⟩:=j4 hd;injection e with e1 e2 e3;subst e1;refine⟨hl,vs,hr,fun i l hi=> ?_⟩;obtain⟨u,hu,ho⟩:=h.row i l hi;obtain⟨a',c',rfl,hr'⟩:=ho.rd;exact⟨a',c',hu,hr',ho.caps⟩
theorem MOwn.caps{w:World}{C:Nat}{a:Option Addr}{n c:Nat}{M:List (List Nat)}(h:MOwn w C (slice a n c) M):(a=none->c=0)/\n<=c/\c<=maxLen:=by
 have hl:=h.len;obtain⟨vs,h⟩:=h;rcases h.hd.2 with⟨h1,_⟩ | ⟨g,cap,cur,h1,_,_,h4,h5,_⟩
 ·injection h1 with e1 e2 e3
  subst e2 e3;exact⟨fun _=>rfl,ah _,bu _⟩
 ·injection h1 with e1 e2 e3
  subst e2 e3;exact⟨fun e=>(by rw[e] at e1;cases e1),h4,h5⟩
theorem MOwn.val{w:World}{C:Nat}{v:Value}{M:List (List Nat)}(h:MOwn w C v M):∃a c,v=slice a M.length c:=by
 obtain⟨vs,h⟩:=h;obtain⟨a,c,rfl,_⟩:=j4 h.hd;exact⟨a,c,rfl⟩
def uH(a:Option Addr)(n:Nat)(M:List (List Nat)):wR:=⟨fun w=>RdM w w.heap.size a n M,fun _ _ h hb=>(h.below hb (ah _)).more hb.size⟩
theorem MOwn.rdM2{w:World}{C:Nat}{v:Value}{M:List (List Nat)}{n:Nat}(h:MOwn w C v M)(hn:M.length=n):∃a c,v=slice a n c/\(uH a n M).ok w/\(a=none->c=0)/\n<=c/\c<=maxLen:=by
 obtain⟨a,c,rfl⟩:=h.val;rw[hn] at h ⊢;exact⟨a,c,rfl,h.rdM,h.caps⟩
theorem dI:(prog.info? 30).map (fun i=>(i.zero,i.size,i.bytes))=some (some (slice none 0 0),1,24):=by kernel_rfl
theorem dP(xs:List Nat)(B:Nat)(a:Option Addr)(n c:Nat)(w:World)(hx:Rd w B a n (bF xs))(hB:B<=w.heap.size)(hnil:a=none->c=0)(hn:n<=1000000):
 Calls prog 86 #[slice a n c] w fun e w'=>∃v,e=returned v/\OwnB w' w.heap.size v xs/\Below w.heap.size w w':=by
 have hlx:xs.length=n:=by have:=hx.len;rwa [bI] at this
 cases a with
 | none=>
   obtain rfl:=hnil rfl
   have hn0:n=0:=by
    rcases Nat.eq_zero_or_pos n with h | h
    ·exact h
    ·obtain⟨b,o,e,_⟩:=hx.2 h
     cases e
   subst hn0;obtain rfl:xs=[]:=eq_nil_of_length_eq_zero hlx;have hq:=fun W=>Lib.run_eql_slice_nil (P:=prog) W 30 5 none 0 0 0 0 underlying30;clear hx hnil hlx;go_enter func86,ntmps86;go_wp2_with fail;go_ret;exact⟨_,rfl,OwnB.nil _ _,az _ _⟩
 | some ad=>
   have hq:=fun W=>Lib.run_eql_slice_nil (P:=prog) W 30 5 (some ad) n c 0 0 underlying30;have HX:=ae hx;have HL:=ae hlx;clear hx hnil hlx;go_enter func86,ntmps86
   go_wp2_with (at_builtin;refine zY _ rfl _ _ 30 rfl w.heap.size 5 (.int .u8 0) 1 underlying30 iQ rfl (slice (some ⟨w.heap.size,0,none⟩) 0 0) 0 [] rfl ?o1 B ad n c (bF xs) rfl ?o2 (iy xs) ?o3 ?o4 ?o5 ?_)
   case o1=>exact World.ownsRow_made w #[] 0 (ah _) (by unfold maxLen;omega) (by simp)
   case o2=>exact HX.out.keep (fun p hp=>World.cell?_alloc_lt _ _ _ (by omega))
   case o3=>omega
   case o4=>unfold maxLen;omega
   case o5=>simp
   intro v w1 hown hg hv;have hb:Below w.heap.size w w1:=((az _ _).alloc (ah _) _).grown hg (by simp) (fun k hk=>by simp[Value.ownBlock] at hk;omega);have hown':OwnB w1 w.heap.size v xs:=(by first | (rw[<-HL.out] at hown;exact hown) | (rw[Nat.zero_add,nil_append,<-HL.out] at hown;exact hown));have HO:=ae hown';have HB:=ae hb;clear hown hg hb hv hown';go_wp2_with fail;go_ret;exact⟨_,rfl,HO.out,HB.out⟩
theorem lm{w0 w1:World}{ops:Array Oper}{rest:List Oper}{o:Oper}{a:Act}{Q:Exit->Act->World->Prop}(hgd:o.guard=none)(s x:Operand){C:Nat}{v u:Value}{M:List (List Nat)}{l:List Nat}
 (ho:o.op=.call { callee:=.builtin .append,args:=#[s,x],argTypes:=#[45,45] })
 (h:MOwn w0 C v M)(hb:Below w0.heap.size w0 w1)(hu:OwnB w1 w0.heap.size u l)(hC:C<=w0.heap.size)(hl:M.length<=1000000)
 (hs:a.eval s=v)(hx:a.eval x=slice (some ⟨w1.heap.size,0,none⟩) 1 1)
 (K:∀v' w2,MOwn w2 C v' (M++[l])->Below C w0 w2->(w1.alloc (cells #[u] 30)).grownBy w2 v.ownBlock->(v'.ownBlock=v.ownBlock\/v'.ownBlock=some (w1.heap.size+1))->wpList prog ops Q rest (a.put o.dst v') w2):
 wpList prog ops Q (o :: rest) a (w1.alloc (cells #[u] 30)):=by
 obtain⟨vs,h⟩:=h;have hs1:=hb.size;have h1:=h.new hb;have hba:=(az w1.heap.size w1).alloc (ah _) (cells #[u] 30);have h2:=h1.new hba;have hone:u.oneCell'=true:=by obtain⟨a',c',e,_⟩:=hu.rd;rw[e];rfl
 refine jN (P:=prog) _ hgd s x 45 ho C 30 (slice none 0 0) 24 underlying45 dI rfl v M.length vs hs h2.hd w1.heap.size u hx (dZ w1 #[u] _ 0) hone (by omega) (by unfold maxLen;omega) (by simp;omega) fun v' w2 hown hg hat=> ?_;have hrow:∀(i:Nat) u',vs[i]? =some u'->∀b,u'.ownBlock=some b->b<w0.heap.size:=fun i u' hu' b hb'=>((h.of hu').1.lt b hb').2;refine K v' w2 ⟨_,h2.snoc hrow hC (hu.below hba) hown hg⟩ ?_ hg (by rcases hat with h | h;exact .inl h;right;rw[h];simp);refine(((hb.mono hC).alloc (by omega) _).grown hg (by simp;omega) fun k hk=> ?_);exact(h.hd.lt k hk).1
theorem yJ(n m:Nat)(M:List (List Nat))(B:Nat)(a:Option Addr)(c:Nat)(w:World)(h:RdM w B a m M)(hW:Wf n M)(hn:n<=64)(hm:m<=1000000):
 Calls prog 269 #[slice a m c] w fun e w'=>e=returned (bool true)/\w=w':=by
 have H:=ae h;have HW:=ae hW;clear h hW;go_enter func269,ntmps269;go_wp2_with fail;go_loopw [4,7] (fun _ i wr=>∃k:Nat,k<=m/\i=int i64 k/\wr=w) (fun _ i _=>m-(intOf i).toNat)
 case atStart=>exact⟨0,by omega,rfl,rfl⟩
 case round=>
  obtain⟨k,hk,rfl,rfl⟩:=hrel;by_cases hlt:k<m
  ·obtain⟨b,o,a0,c0,rfl,hb,hc0,_⟩:=H.out.at (show 0<m by omega)
   obtain⟨b',o',a1,c1,e,_,hc1,_⟩:=H.out.at hlt;injection e with e;injection e with e1 e2 e3;subst e1 e2;have l0:=(HW.out.get (i:=0) (by rw[H.out.len];omega)).1;have l1:=(HW.out.get (i:=k) (by rw[H.out.len];omega)).1;rw[l0,Nat.add_zero] at hc0;rw[l1] at hc1;have hnn:((n:Int) != (n:Int))=false:=(by simp);have hlt':(k:Int)<(m:Int):=(by omega);have hn':¬((n:Int)>64):=(by omega);clear l0 l1;go_wp2_with fail;go_roundw
   case rel=>exact⟨k+1,by omega,by go_num,by first | trivial | rfl⟩
   case measure=>simp[intOf];omega
  ·obtain rfl:k=m:=by omega
   go_wp2_with fail;go_ret;exact⟨rfl,rfl⟩
theorem EE(M:List (List Nat))(B:Nat)(a:Option Addr)(m c:Nat)(w:World)(h:RdM w B a m M)(hB:B<=w.heap.size)(hl:∀l∈M,l.length<=1000000)(hm:m<=1000000):
 Calls prog 271 #[slice a m c] w fun e w'=>∃g c',e=returned (slice (some ⟨g,0,none⟩) m c')/\MOwn w' w.heap.size (slice (some ⟨g,0,none⟩) m c') M/\Below w.heap.size w w':=by
 have H:=ae (h.more hB);have HL:=ae hl;have HM:=ae h.len;clear h hl;obtain⟨i0,hi,hz0,hz1,hz2⟩:=info_parts dI
 have hmk:∀w:World,(Instr.makeSlice 45 (int i64 0) (int i64 (m:Int))).run prog w=.ok (slice (some ⟨w.heap.size,0,none⟩) 0 m) (w.alloc (cells (madeCells #[Value.slice none 0 0] m) 30)):=by
  intro w;have h:=run_make (P:=prog) w 45 30 i0 (slice none 0 0) underlying45 hi hz0 .i64 .i64 0 (m:Int) (by omega) (by omega) (by rw[hz2];omega) (by omega);rw[hz1,Nat.mul_one,Int.toNat_zero,Int.toNat_natCast] at h;exact h
 have hms:(madeCells #[Value.slice none 0 0] m).size=m*1:=by rw[size_madeCells,Nat.mul_one]
 clear hi hz0 hz1 hz2;generalize madeCells #[Value.slice none 0 0] m=cur at*;go_enter func271,ntmps271
 go_wp2_with (simp only[hmk])
 have HO:Hid (∃g cc,Value.slice (some ⟨w.heap.size,0,none⟩) 0 m=slice (some ⟨g,0,none⟩) 0 cc/\MOwn (w.alloc (.cells cur 30)) w.heap.size (Value.slice (some ⟨w.heap.size,0,none⟩) 0 m) (M.take 0)):=ae ⟨_,_,rfl,[],World.ownsRow_made w cur m (ah _) (by unfold maxLen;omega) hms,by simp,by simp⟩;have HBL:=ae ((az w.heap.size w).alloc (ah _) (.cells cur 30));clear hmk hms;generalize w.alloc (.cells cur 30)=w1 at*;generalize hG:w.heap.size=G at*;have HG:=ae hG;clear hG;go_loopw [3,5,11] (fun v _ i wr=>∃k:Nat,k<=m/\i=int i64 k/\Hid (∃g cc,v=slice (some ⟨g,0,none⟩) k cc/\MOwn wr G v (M.take k))/\Hid (Below G w wr)) (fun _ _ i _=>m-(intOf i).toNat)
 case atStart=>exact⟨0,by omega,rfl,HO,HBL⟩
 case round=>
  clear HO HBL;obtain⟨k,hk,rfl,HO,HBL⟩:=hrel;by_cases hlt:k<m
  ·obtain⟨g,cc,rfl,hO⟩:=HO.out
   have hkM:k<M.length:=(by rw[HM.out];exact hlt);have hcaps:=hO.caps;obtain⟨b,o,a',c',rfl,hb,hcell,hrd,hnil,hcap,_⟩:=H.out.at hlt;have hcell':=(HBL.out.cell (p:=⟨b,o+k,none⟩) hb).trans hcell;have hGr:G<=wr.heap.size:=(by have:=HBL.out.size;have:=HG.out;omega);have hrd':=hrd.below HBL.out (ah _)
   have htk:M.take (k+1)=M.take k++[M.getD k []]:=by
    rw[aN hkM,af,ag hkM];rfl
   have hlen:=HL.out _ (mS hkM);have CC:=ae (dP (M.getD k []) G a' (M.getD k []).length c' wr hrd' hGr hnil hlen);have HTK:=ae htk;have HOO:=ae hO;have hlt':(k:Int)<(m:Int):=(by omega);have hmt:(M.take k).length<=1000000:=(by rw[aG];omega);clear htk hlen hcell hrd hrd' hO hcaps hcap hnil hkM;generalize M.getD k []=l at*;go_wp2_with fail;refine CC.out.mono ?_;rintro e w2 ⟨u,rfl,hu,hb2⟩;obtain⟨ua,uc,rfl,_⟩:=hu.rd;have HU:=ae hu;have HB2:=ae hb2;clear hu hb2 CC
   go_wp2_with (at_builtin;refine lm (w0:=wr) (w1:=w2) rfl _ _ rfl HOO.out HB2.out HU.out hGr hmt rfl rfl ?_)
   intro v' w3 hM3 hb3 hg3 hat
   have hv:∃g cc,v'=slice (some ⟨g,0,none⟩) (k+1) cc:=by
    obtain⟨vs,hMV⟩:=hM3;obtain⟨g,cap,e,_⟩:=hMV.form (by simp);refine⟨g,cap,?_⟩;rw[e];congr 1;rw[aH,aG,length_singleton];have:=HM.out;omega
   have HM3:Hid (∃g cc,v'=slice (some ⟨g,0,none⟩) (k+1) cc/\MOwn w3 G v' (M.take (k+1))):=ae (by
    obtain⟨g,cc,e⟩:=hv;exact⟨g,cc,e,by rw[HTK.out];exact hM3⟩)
   have HB3:=ae (HBL.out.trans hb3);clear hM3 hb3 hg3 hat hv HOO HB2 HU HTK;go_wp2_with fail;go_roundw
   case rel=>exact⟨k+1,by omega,by go_num,HM3,HB3⟩
   case measure=>simp[intOf];omega
  ·obtain rfl:k=m:=by omega
   have HF:Hid (∃g cc,u3=slice (some ⟨g,0,none⟩) k cc/\MOwn wr G u3 M):=ae (by
    obtain⟨g,cc,e,hO⟩:=HO.out;exact⟨g,cc,e,by rw[aJ (by rw[HM.out];exact ah _)] at hO;exact hO⟩)
   go_wp2_with fail;go_ret;obtain⟨g,cc,e,hO⟩:=HF.out;subst e;exact⟨g,cc,rfl,by rw[HG.out];exact hO,by rw[HG.out];exact HBL.out⟩
theorem Ap(p:Option Addr)(w:World)(hF:Fp w p):
 Calls prog 273 #[.pointer p] w fun e w'=>∃g,e=returned (pointer (some ⟨g,0,none⟩))/\Fld w' g/\Below w.heap.size w w':=by
 rcases hF with rfl | ⟨g,rfl,hF⟩
 ·go_enter func273,ntmps273
  go_wp2_with fail;refine(oZ _).mono ?_;rintro e w1 ⟨g,rfl,hg,hF,hb⟩;go_wp2_with fail;go_ret;exact⟨g,rfl,hF,hb⟩
 ·go_enter func273,ntmps273
  go_wp2_with fail;go_ret;exact⟨g,rfl,hF,az _ _⟩
theorem xx(M:List (List Nat))(B:Nat)(a:Option Addr)(m c:Nat)(w:World)(h:RdM w B a m M)(hm:m<=1000000):
 Calls prog 270 #[slice a m c] w fun e w'=>e=returned (int i64 (wid M:Nat))/\w=w':=by
 rcases Nat.eq_zero_or_pos m with h0 | h0
 ·subst h0
  obtain rfl:M=[]:=eq_nil_of_length_eq_zero h.len;clear h;go_enter func270,ntmps270;go_wp2_with fail;go_ret;exact⟨rfl,rfl⟩
 ·obtain⟨b,o,a',c',rfl,hb,hcell,_⟩:=h.at h0
  have e:(M.getD 0 []).length=wid M:=rfl;rw[e,Nat.add_zero] at hcell;have hm0:((m:Int) == 0)=false:=(by rw[beq_eq_false_iff_ne];omega);have hmp:(0:Int)<(m:Int):=(by omega);clear h e;generalize wid M=q at*;go_enter func270,ntmps270;go_wp2_with fail;go_ret;exact⟨rfl,rfl⟩
