import Derived.Test.YtgccllbnfngpcaaGreatDoorW15
import Derived.Lib.ConvBytes
import Derived.Laws.StructEq
import Derived.Shelf.Small.Wraps
import Derived.Shelf.Slices.Clone
import Derived.Shelf.Slices.CompactI
import Derived.Shelf.Slices.Cells
set_option linter.unusedVariables false
set_option maxRecDepth 100000
set_option maxHeartbeats 400000000
namespace Go.Proofs.YtgccllbnfngpcaaGreatDoor
open Go.RowKit _root_.Go.Proofs.Tryz List
open Value (int slice pointer bool)
open IntKind (i64)
open Ending (returned)
open Obj (cells)
theorem Bb(v:Value)(xs:List Nat)(C n s:Nat)(w:World)(ho:OwnB w C v xs)(hC:C<=w.heap.size)(hn:n<4294967296)(hs:s<=4)(hl:xs.length<=1000):
 Calls prog 195 #[v,int i64 n,int i64 s] w fun e w'=>∃v',e=returned v'/\OwnB w' C v' (xs++bT n s)/\Below C w w':=by
 have HO0:Hid (OwnB w C v (xs++(bT n s).take (s-s))):=ae (by rw[Nat.sub_self,take_zero,append_nil];exact ho);have HB0:Hid (Below C w w):=ae (az _ _);have hs1:IntKind.i64.wrap ((s:Int)-1)=(s:Int)-1:=by rw[IntKind.wrap_i64];omega
 obtain⟨a0,c0,rfl,-⟩:=ho.rd;clear ho;go_enter func195,ntmps195;go_wp2_with fail;go_loopw [0,7] (fun u i wr=>∃m:Nat,m<=s/\i=int i64 ((m:Int)-1)/\Hid (OwnB wr C u (xs++(bT n s).take (s-m)))/\Hid (Below C w wr)) (fun _ i _=>(intOf i+1).toNat)
 case atStart=>exact⟨s,ah _,rfl,HO0,HB0⟩
 case round=>
  clear HO0 HB0 hs1;obtain⟨m,hm,rfl,HO,HB⟩:=hrel;have hCw:C<=wr.heap.size:=aO hC HB.out.size;by_cases hm0:m=0
  ·subst hm0
   rw[Nat.sub_zero,aJ (by rw[cG];exact ah _)] at HO;generalize hLe:xs++bT n s=L at*;have HLE:=ae hLe;clear hLe;obtain⟨au,cu,rfl,-⟩:=HO.out.rd;go_wp2_with fail;go_ret;exact⟨_,rfl,by rw[HLE.out];exact HO.out,HB.out⟩
  ·obtain⟨q,rfl⟩:∃q,m=q+1:=⟨m-1,by omega⟩
   have hml:(xs++(bT n s).take (s-(q+1))).length<=1000000:=(by rw[aH,aG,cG];omega);have HT:Hid (xs++(bT n s).take (s-q)=xs++(bT n s).take (s-(q+1))++[n/256 ^ q%256]):=ae (by rw[rF n s q (by omega),append_assoc]);generalize xs++(bT n s).take (s-(q+1))=L at*;obtain⟨au,cu,rfl,-⟩:=HO.out.rd;have hcase:q=0\/q=1\/q=2\/q=3:=(by omega);rcases hcase with rfl | rfl | rfl | rfl
   ·go_wp2_with (at_builtin;refine fI (w:=wr) (C:=C) (y:=n%256) rfl _ _ ?hi rfl HO.out hCw hml rfl rfl ?_)
    case hi=>omega
    intro v2 w2 hO2 hb2;have HO2:Hid (OwnB w2 C v2 (xs++(bT n s).take (s-0))):=ae (by rw[HT.out,show n/256 ^ 0%256=n%256 by simp];exact hO2);have HB2:=ae (HB.out.trans hb2);clear hO2 hb2 HO HB HT;go_wp2_with fail;go_roundw
    case rel=>exact⟨0,by omega,by go_num,HO2,HB2⟩
    case measure=>simp[intOf]
   ·go_wp2_with (at_builtin;refine fI (w:=wr) (C:=C) (y:=n/256%256) rfl _ _ ?hi rfl HO.out hCw hml rfl rfl ?_)
    case hi=>omega
    intro v2 w2 hO2 hb2;have HO2:Hid (OwnB w2 C v2 (xs++(bT n s).take (s-1))):=ae (by rw[HT.out,show n/256 ^ 1%256=n/256%256 by simp];exact hO2);have HB2:=ae (HB.out.trans hb2);clear hO2 hb2 HO HB HT;go_wp2_with fail;go_roundw
    case rel=>exact⟨1,by omega,by go_num,HO2,HB2⟩
    case measure=>simp[intOf]
   ·go_wp2_with (at_builtin;refine fI (w:=wr) (C:=C) (y:=n/65536%256) rfl _ _ ?hi rfl HO.out hCw hml rfl rfl ?_)
    case hi=>omega
    intro v2 w2 hO2 hb2;have HO2:Hid (OwnB w2 C v2 (xs++(bT n s).take (s-2))):=ae (by rw[HT.out,show n/256 ^ 2%256=n/65536%256 by simp];exact hO2);have HB2:=ae (HB.out.trans hb2);clear hO2 hb2 HO HB HT;go_wp2_with fail;go_roundw
    case rel=>exact⟨2,by omega,by go_num,HO2,HB2⟩
    case measure=>simp[intOf]
   ·go_wp2_with (at_builtin;refine fI (w:=wr) (C:=C) (y:=n/16777216%256) rfl _ _ ?hi rfl HO.out hCw hml rfl rfl ?_)
    case hi=>omega
    intro v2 w2 hO2 hb2;have HO2:Hid (OwnB w2 C v2 (xs++(bT n s).take (s-3))):=ae (by rw[HT.out,show n/256 ^ 3%256=n/16777216%256 by simp];exact hO2);have HB2:=ae (HB.out.trans hb2);clear hO2 hb2 HO HB HT;go_wp2_with fail;go_roundw
    case rel=>exact⟨3,by omega,by go_num,HO2,HB2⟩
    case measure=>simp[intOf]
theorem gA(n a b:Int)(w:World):Calls prog 146 #[int i64 n,int i64 a,int i64 b] w fun e w'=>e=returned (bool (decide (a<=n/\n<=b)))/\w'=w:=by
 by_cases h1:a<=n
 ·by_cases h2:n<=b
  ·have e:decide (a<=n/\n<=b)=true:=ba ⟨h1,h2⟩
   rw[e];have h1':decide (a<=n)=true:=ba h1;have h2':decide (n<=b)=true:=ba h2;go_enter func146,ntmps146;go_wp2_with fail;go_ret;exact⟨rfl,rfl⟩
  ·have e:decide (a<=n/\n<=b)=false:=decide_eq_false fun h=>h2 h.2
   rw[e];have h1':decide (a<=n)=true:=ba h1;have h2':decide (n<=b)=false:=decide_eq_false h2;go_enter func146,ntmps146;go_wp2_with fail;go_ret;exact⟨rfl,rfl⟩
 ·have e:decide (a<=n/\n<=b)=false:=decide_eq_false fun h=>h1 h.1
  rw[e];have h1':decide (a<=n)=false:=decide_eq_false h1;go_enter func146,ntmps146;go_wp2_with fail;go_ret;exact⟨rfl,rfl⟩
theorem lC(o b t:Nat)(w:World)(ho:o<=16777215)(hb:b<=8)(ht:t<=16):Calls prog 114 #[int i64 o,int i64 b,int i64 t] w fun e w'=>e=returned (.int .u32 ((128*o+16*b+t:Nat):Int))/\w'=w:=by
 go_enter func114,ntmps114;go_wp2_with fail;go_ret;refine⟨?_,rfl⟩;congr 2
def xL(most:Int)(l:List Nat):Bool:=(range l.length).all fun i=>decide (((l.getD i 0:Nat):Int)<=most) && (i == 0 || decide (l.getD (i-1) 0<l.getD i 0))
theorem Ha(l:List Nat)(B:Nat)(a:Option Addr)(n c:Nat)(most:Int)(w:World)(hx:Rd w B a n (bG l))(hn:n<=1000)(hr:xL most l=true):
 Calls prog 147 #[slice a n c,int i64 most] w fun e w'=>e=returned (bool true)/\w'=w:=by
 have hl:l.length=n:=by have:=hx.len;simpa[bG] using this
 have hr2:∀i,i<n->((l.getD i 0:Nat):Int)<=most/\(i=0\/l.getD (i-1) 0<l.getD i 0):=fun i hi=>by
  have h:=all_eq_true.1 hr i (by rw[bA,hl];exact hi);rw[Bool.and_eq_true,Bool.or_eq_true,decide_eq_true_eq,decide_eq_true_eq,beq_iff_eq] at h;exact h
 have HR:=ae hr2;have HX:=ae hx;have HL:=ae hl;clear hr hr2 hx hl;go_enter func147,ntmps147;go_wp2_with fail;go_loopw [9] (fun i wr=>∃k:Nat,k<=n/\i=int i64 k/\wr=w) (fun i _=>n-(intOf i).toNat)
 case atStart=>exact⟨0,by omega,rfl,rfl⟩
 case round=>
  obtain⟨k,hkn,rfl,rfl⟩:=hrel;by_cases hlt:k<n
  ·have hltI:(k:Int)<(n:Int):=by omega
   obtain⟨b,o,rfl,hb,hc⟩:=HX.out.2 (by omega);obtain⟨h1,h2⟩:=HR.out k hlt;have c0:=hc k _ (bL (l:=l) (i:=k) (by rw[HL.out];exact hlt));have CW:=ae (gA ((l.getD k 0:Nat):Int) 0 most wr);rw[ba (show(0:Int)<=((l.getD k 0:Nat):Int)/\((l.getD k 0:Nat):Int)<=most by omega)] at CW;rcases Nat.eq_zero_or_pos k with hk0 | hk0
   ·have hkI:¬(0:Int)<(k:Int):=by omega
    have hkB:decide ((0:Int)<(k:Int))=false:=decide_eq_false hkI;clear hc h1 h2 hk0;generalize l.getD k 0=x at*;go_wp2_with fail;refine CW.out.mono ?_;rintro e w1 ⟨rfl,rfl⟩;go_wp2_with fail;go_roundw
    case rel=>(try((repeat apply Exists.intro);refine⟨?_,rfl⟩));exact⟨k+1,by omega,by go_num,trivial⟩
    case measure=>simp[intOf];omega
   ·obtain⟨q,rfl⟩:∃q,k=q+1:=⟨k-1,by omega⟩
    have c1:=hc q _ (bL (l:=l) (i:=q) (by rw[HL.out];omega));have h3:l.getD q 0<l.getD (q+1) 0:=(by have:=h2.resolve_left (by omega);simpa using this);have h3I:¬((l.getD (q+1) 0:Nat):Int)<=((l.getD q 0:Nat):Int):=(by omega);have HQ:=ae hk0;clear hc h1 h2 h3 hk0;generalize l.getD (q+1) 0=x at*;generalize l.getD q 0=y at*;go_wp2_with fail;refine CW.out.mono ?_;rintro e w1 ⟨rfl,rfl⟩;go_wp2_with fail;go_roundw
    case rel=>(try((repeat apply Exists.intro);refine⟨?_,rfl⟩));exact⟨q+2,by omega,by go_num,trivial⟩
    case measure=>simp[intOf];omega
  ·obtain rfl:k=n:=by omega
   go_wp2_with fail;go_ret;exact⟨rfl,rfl⟩
def okC(c:Nat):Prop:=(97<=c/\c<=122)\/(48<=c/\c<=57)\/c=45
instance(c:Nat):Decidable (okC c):=by unfold okC;infer_instance
def kP(s:ByteArray):Prop:=1<=s.size/\s.size<=12/\∀i,i<s.size->okC (s.data.toList.getD i 0).toNat
theorem Ab(w:World)(e:TypeId)(s:ByteArray):Below w.heap.size w (Lib.bytesWorld w e s):=⟨rfl,rfl,rfl,by rw[Lib.bytesWorld_size];omega,fun k hk=>Lib.bytesWorld_at_old w e s k hk⟩
theorem Cn(w:World)(s:ByteArray):(convert 9 30 (.string s)).run prog w=.ok (slice (some ⟨w.heap.size,0,none⟩) s.size (grownCap w s.size 0 5)) (Lib.bytesWorld w 5 s):=
 Lib.run_convert_string_bytes w _ _ _ s underlying9 underlying30 underlying5
theorem xj(s:ByteArray)(w:World)(h:kP s):Calls prog 154 #[.string s] w fun e w'=>e=returned (bool true)/\Below w.heap.size w w':=by
 obtain⟨h1,h2,h3⟩:=h;have H3:=ae h3;have hcv:=Cn w s;have HB:=ae (Ab w 5 s);have HC:=ae fun j hj=>Lib.bytesWorld_cell w 5 s j hj;have h1I:(1:Int)<=(s.size:Int):=by omega
 have h2I:(s.size:Int)<=12:=by omega
 clear h3;generalize grownCap w s.size 0 5=cp at*;generalize Lib.bytesWorld w 5 s=w1 at*;generalize hG:w.heap.size=G at*;have HG:=ae hG;clear hG;go_enter func154,ntmps154
 go_wp2_with (simp only[hcv])
 generalize hn:s.size=n at*;have HN:=ae hn;clear hn hcv;go_loopw [8] (fun i wr=>∃k:Nat,k<=n/\i=int i64 k/\Hid (wr=w1)) (fun i _=>n-(intOf i).toNat)
 case atStart=>exact⟨0,by omega,rfl,ae rfl⟩
 case round=>
  obtain⟨k,hkn,rfl,HW⟩:=hrel;obtain rfl:=HW.out;by_cases hlt:k<n
  ·have hltI:(k:Int)<(n:Int):=by omega
   have c0:=HC.out k hlt;have hc:=H3.out k hlt;generalize (s.data.toList.getD k 0).toNat=c at*;rcases hc with⟨p1,p2⟩ | ⟨p1,p2⟩ | p1
   ·have q1:¬(c:Int)<97:=by omega
    have q2:¬(122:Int)<(c:Int):=(by omega);clear p1 p2;go_wp2_with fail;go_roundw
    case rel=>exact⟨k+1,by omega,by go_num,(by first | exact HW | exact trivial | exact ae trivial)⟩
    case measure=>simp[intOf];omega
   ·have q1:(c:Int)<97:=by omega
    have q2:¬(c:Int)<48:=(by omega);have q3:¬(57:Int)<(c:Int):=(by omega);clear p1 p2;go_wp2_with fail;go_roundw
    case rel=>exact⟨k+1,by omega,by go_num,(by first | exact HW | exact trivial | exact ae trivial)⟩
    case measure=>simp[intOf];omega
   ·subst p1
    go_wp2_with fail;go_roundw
    case rel=>exact⟨k+1,by omega,by go_num,(by first | exact HW | exact trivial | exact ae trivial)⟩
    case measure=>simp[intOf];omega
  ·obtain rfl:k=n:=by omega
   have e1:(1:Int)<=(s.size:Int):=(by rw[HN.out];exact h1I);have e2:(s.size:Int)<=12:=(by rw[HN.out];exact h2I);clear h1I h2I;go_wp2_with fail;go_ret;exact⟨by simp,HB.out⟩
def qD{α:Type}(p:α->Bool)(l:List α):Int:=if l.any p then (l.findIdx p:Nat) else-1
theorem qE{α:Type}{p:α->Bool}{l:List α}(h:∀x∈l,p x=false):qD p l= -1:=by
 unfold qD;rw[bg];intro h2;obtain⟨x,hx,hp⟩:=any_eq_true.1 h2;rw[h x hx] at hp;cases hp
theorem tj{α:Type}{p:α->Bool}{l:List α}{k:Nat}(hk:k<l.length)(hp:p l[k]=true)(h:∀i (hi:i<k),p (l[i]'(by omega))=false):qD p l=(k:Int):=by
 unfold qD;rw[bf (any_eq_true.2 ⟨_,aP hk,hp⟩)];congr 1;exact(findIdx_eq hk).2 ⟨hp,fun j hj=>h j hj⟩
theorem vu{α:Type}(p:α->Bool)(l:List α):decide (0<=qD p l)=l.any p:=by
 unfold qD;cases h:l.any p with
 | true=>rw[bf rfl];simp
 | false=>simp
theorem MQ(p:Nat->Bool)(g:FuncId)(cb:Array Value)(l:List Nat)(B:Nat)(a:Option Addr)(n c:Nat)(w:World)(hx:Rd w B a n (bG l))(hB:B<=w.heap.size)(hn:n<=1000000)
 (eg:∀args w,(callFunc g args).run prog w=.ok (.enter g args) w)(hp:∀x∈l,∀W,Below w.heap.size w W->Calls prog g (#[int i64 (x:Nat)]++cb) W fun e w'=>e=returned (bool (p x))/\Below W.heap.size W w'):
 Calls prog 123 #[slice a n c,.func (.func g) #[] cb] w fun e w'=>e=returned (int i64 (qD p l))/\Below w.heap.size w w':=by
 have hl:l.length=n:=by have:=hx.len;simpa[bG] using this
 have HX:=ae hx;have HL:=ae hl;have HP:=ae hp;have HB0:=ae (az w.heap.size w);clear hx hl hp;go_enter func123,ntmps123;go_wp2_with fail;go_loopw [8] (fun i wr=>∃k:Nat,k<=n/\i=int i64 k/\Hid (Below w.heap.size w wr)/\Hid (∀i,i<k->p (l.getD i 0)=false)) (fun i _=>n-(intOf i).toNat)
 case atStart=>exact⟨0,by omega,rfl,HB0,ae fun i h=>absurd h (Nat.not_lt_zero i)⟩
 case round=>
  clear HB0;obtain⟨k,hkn,rfl,HB,HN⟩:=hrel;by_cases hlt:k<n
  ·have hltI:(k:Int)<(n:Int):=by omega
   obtain⟨b,o,rfl,hb,hc⟩:=(HX.out.below HB.out hB).2 (by omega);have c0:=hc k _ (bL (l:=l) (i:=k) (by rw[HL.out];exact hlt));have CP:=ae (HP.out (l.getD k 0) (by rw[af,ag (by rw[HL.out];exact hlt)];exact aP _) wr HB.out);have HG:Hid (l.getD k 0=l[k]'(by rw[HL.out];exact hlt)):=ae (by rw[af,ag (by rw[HL.out];exact hlt)];rfl);clear hc;cases hq:p (l.getD k 0) with
   | true=>
     rw[hq] at CP;have HQ:=ae hq;clear hq;generalize l.getD k 0=x at*
     go_wp2_with (go_at_fn g;refine CP.out.mono ?_;rintro e w2 ⟨rfl,hb2⟩)
     go_ret
     have e:=tj (p:=p) (l:=l) (k:=k) (by rw[HL.out];exact hlt) (by rw[<-HG.out];exact HQ.out) fun i hi=>by
      have:=HN.out i hi
      rwa [af,ag (by rw[HL.out];omega)] at this
     rw[e];exact⟨rfl,HB.out.trans (hb2.mono HB.out.size)⟩
   | false=>
     rw[hq] at CP
     have HN2:Hid (∀i,i<k+1->p (l.getD i 0)=false):=ae fun i hi=>by
      rcases bq i k with h | h
      ·exact HN.out i h
      ·obtain rfl:i=k:=by omega
       exact hq
     clear hq HG;generalize l.getD k 0=x at*
     go_wp2_with (go_at_fn g;refine CP.out.mono ?_;rintro e w2 ⟨rfl,hb2⟩)
     have HB2:=ae (HB.out.trans (hb2.mono HB.out.size));clear hb2;go_roundw
     case rel=>exact⟨k+1,by omega,by go_num,HB2,HN2⟩
     case measure=>simp[intOf];omega
  ·obtain rfl:k=n:=by omega
   go_wp2_with fail;go_ret;refine⟨?_,HB.out⟩
   have e:=qE (p:=p) (l:=l) fun x hx=>by
    obtain⟨i,hi,rfl⟩:=bC hx;have:=HN.out i (by rw[<-HL.out];exact hi)
    rwa [af,ag hi] at this
   rw[e];rfl
theorem y9(p:Nat->Bool)(g:FuncId)(cb:Array Value)(l:List Nat)(B:Nat)(a:Option Addr)(n c:Nat)(w:World)(hx:Rd w B a n (bG l))(hB:B<=w.heap.size)(hn:n<=1000000)
 (eg:∀args w,(callFunc g args).run prog w=.ok (.enter g args) w)(hp:∀x∈l,∀W,Below w.heap.size w W->Calls prog g (#[int i64 (x:Nat)]++cb) W fun e w'=>e=returned (bool (p x))/\Below W.heap.size W w'):
 Calls prog 126 #[slice a n c,.func (.func g) #[] cb] w fun e w'=>e=returned (bool (l.any p))/\Below w.heap.size w w':=by
 have CI:=ae (MQ p g cb l B a n c w hx hB hn eg hp);rw[<-vu];clear hx hp;generalize qD p l=r at*;go_enter func126,ntmps126;go_wp2_with fail;refine CI.out.mono ?_;rintro e w1 ⟨rfl,hb⟩;have HB:=ae hb;clear hb CI;go_wp2_with fail;go_ret;exact⟨rfl,HB.out⟩
structure dN where
 name:ByteArray
 obj:Nat
 len:Nat
 tries:List Nat
structure cQ where
 seq:Nat
 next:Nat
 K:Nat
 H:Nat
 Z:Nat
 extra:Nat
 drives:List Nat
 objs:List dN
def cN(e:dN):Rp:=rP (rVs [.string e.name,int i64 e.obj,int i64 e.len]) (rI e.tries)
def gK(e:dN)(v:Value):Array Value:=#[.string e.name,int i64 e.obj,int i64 e.len,v]
def cH(m:cQ)(v1 v2:Value):Array Value:=#[int i64 m.seq,int i64 m.next,int i64 m.K,int i64 m.H,int i64 m.Z,int i64 m.extra,v1,v2]
def JF(m:cQ)(e:dN):Prop:=kP e.name/\e.obj<m.next/\e.len<=m.K*m.Z*8/\(∀t∈e.tries,t<=15)/\e.tries.length=iB (m.K*m.Z) e.len
theorem eY{w:World}{g:Nat}{t:TypeId}{a b c d:Value}(h:Blk w g t #[a,b,c,d]):w.cell? ⟨g,0,none⟩=some a/\w.cell? ⟨g,1,none⟩=some b/\w.cell? ⟨g,2,none⟩=some c/\w.cell? ⟨g,3,none⟩=some d:=⟨h.cell 0,h.cell 1,h.cell 2,h.cell 3⟩
theorem cZ{w:World}{g:Nat}{t:TypeId}{a b c d e f i j:Value}(h:Blk w g t #[a,b,c,d,e,f,i,j]):w.cell? ⟨g,0,none⟩=some a/\w.cell? ⟨g,1,none⟩=some b/\w.cell? ⟨g,2,none⟩=some c/\w.cell? ⟨g,3,none⟩=some d/\
 w.cell? ⟨g,4,none⟩=some e/\w.cell? ⟨g,5,none⟩=some f/\w.cell? ⟨g,6,none⟩=some i/\w.cell? ⟨g,7,none⟩=some j:=⟨h.cell 0,h.cell 1,h.cell 2,h.cell 3,h.cell 4,h.cell 5,h.cell 6,h.cell 7⟩
theorem Ad(x:Nat)(w:World)(hx:x<=15):Calls prog 209 (#[int i64 (x:Nat)]++#[]) w fun e w'=>e=returned (bool false)/\Below w.heap.size w w':=by
 have CW:=ae (gA (x:Nat) 0 15 w);rw[ba (show(0:Int)<=(x:Nat)/\((x:Nat):Int)<=15 by omega)] at CW;show Calls prog 209 #[int i64 (x:Nat)] w _;go_enter func209,ntmps209;go_wp2_with fail;refine CW.out.mono ?_;rintro e w1 ⟨rfl,rfl⟩;go_wp2_with fail;go_ret;exact⟨rfl,az _ _⟩
theorem Cr(m:cQ)(e:dN)(v1 v2:Value)(a:Option Addr)(n c:Nat)(F:Nat->Prop)(w:World)(hx:(rI e.tries).ok w F [slice a n c])(hn:e.tries.length=n)(hn8:n<=1000)(h:JF m e)(hk:eD m.K m.H m.Z=true)(hnext:m.next<=16777216)(h1:v1.oneCell'=true)(h2:v2.oneCell'=true):
 Calls prog 148 #[.agg (cH m v1 v2),.agg (gK e (slice a n c))] w fun e w'=>e=returned (bool true)/\Below w.heap.size w w':=by
 obtain⟨h3,h4,h5,h6,h7⟩:=h;have hok:=aZ hk;obtain⟨w0,hw0⟩:∃w0,w0=(w.alloc (cells (cH m v1 v2) 68)).alloc (cells (gK e (slice a n c)) 65):=⟨_,rfl⟩
 have S0:Hid (Sx w w0 [bQ (w.heap.size+1) 65 (gK e (slice a n c)),bQ w.heap.size 68 (cH m v1 v2),eR F (slice a n c) (rI e.tries)]):=by
  rw[hw0];have h1:=((((Sx.nil w).add (eR F (slice a n c) (rI e.tries)) hx).alloc (cells (cH m v1 v2) 68)).add (bQ w.heap.size _ _) (Blk.new w _ _)).alloc (cells (gK e (slice a n c)) 65);have h2:=h1.add (bQ _ _ _) (Blk.new (w.alloc (cells (cH m v1 v2) 68)) 65 (gK e (slice a n c)));have e:(w.alloc (cells (cH m v1 v2) 68)).heap.size=w.heap.size+1:=(by simp);rw[e] at h2;exact ae h2
 unfold cH gK at*;obtain⟨nm,ob,ln,tr⟩:=e;obtain⟨sq,nx,K,H,Z,ex,dr,os⟩:=m;simp only at*;have HN0:=ae h3;have HTR:=ae h6;obtain⟨kz,hkz⟩:∃kz,kz=K*Z:=⟨_,rfl⟩;have hmI:(K:Int)*(Z:Int)=((kz:Nat):Int):=by rw[<-Int.natCast_mul,hkz]
 have hq2:K*Z<=16*24:=bn (by omega) (by omega);rw[<-hkz] at h5 h7 hq2;have hkz3:kz<=384:=hq2;have CC:=ae fun w=>kN K H Z ln w hk (by omega);rw[<-hkz,<-h7,hn] at CC;have CA:=ae fun w (hx:(rI tr).ok w F [slice a n c])=>y9 (fun _=>false) 209 #[] tr w.heap.size a n c w (by obtain⟨a',c',e,hr,-⟩:=Ar hx;injection e with e1 e2 e3;subst e1 e3;rw[show(bG tr).length=n by simpa[bG] using hn] at hr;exact hr) (ah _) (by omega) (enters_of func209 (by kernel_rfl) rfl) (fun x hx W _=>Ad x W (HTR.out x hx));have ha0:tr.any (fun _=>false)=false:=by simp
 rw[ha0] at CA;have HHW:=ae hw0;have hG1:w.heap.size+1<w0.heap.size:=by rw[hw0];simp
 unfold cE at CC;clear hx hn h3 h6 h7 hk hok hkz hq2 ha0 hw0;go_enter func148,ntmps148;go_wp2_with fail;rw[<-HHW.out];generalize w.heap.size+1=G1 at*;generalize hG:w.heap.size=G at*;have HGE:=ae hG;clear hG HHW;refine(xj nm w0 HN0.out).mono ?_;rintro e w1 ⟨rfl,hb⟩;have S1:=ae (S0.out.step hb);clear hb S0 HN0;obtain⟨e0,e1,e2,e3⟩:=eY (S1.out.blk 0 rfl);obtain⟨m0,m1,m2,m3,m4,m5,m6,m7⟩:=cZ (S1.out.blk 1 rfl);have CW1:=ae (gA (ob:Nat) 0 ((nx:Int)-1) w1);rw[ba (show(0:Int)<=(ob:Nat)/\((ob:Nat):Int)<=(nx:Int)-1 by omega)] at CW1;have CW2:=ae (gA (ln:Nat) 0 ((kz:Int)*8) w1);rw[ba (show(0:Int)<=(ln:Nat)/\((ln:Nat):Int)<=(kz:Int)*8 by omega)] at CW2;go_wp2_with fail;refine CW1.out.mono ?_;rintro e w2 ⟨rfl,rfl⟩;clear CW1;go_wp2_with fail;refine CW2.out.mono ?_;rintro e w1 ⟨rfl,rfl⟩;clear CW2;go_wp2_with fail;refine(CA.out _ (S1.out.rep 2 rfl)).mono ?_;rintro e w3 ⟨rfl,hb⟩;have S3:=ae (S1.out.step hb);clear hb S1 CA e0 e1 e2 e3 m0 m1 m2 m3 m4 m5 m6 m7;obtain⟨e0,e1,e2,e3⟩:=eY (S3.out.blk 0 rfl);obtain⟨m0,m1,m2,m3,m4,m5,m6,m7⟩:=cZ (S3.out.blk 1 rfl);have CC2:=ae (CC.out w3.drew);clear e0 e1 m0 m1 m5 m6 m7;go_wp2_with fail
 go_region_law (go_simp
                go_at_call 103;refine CC2.out.mono ?_;rintro e w4 ⟨rfl,hb⟩;have S4:=ae (S3.out.step (bR hb));have e3':w4.cell? ⟨G1,3,none⟩=some (slice a n c):=(S4.out.blk 0 rfl).cell 3;clear hb)
 all_goals(
  go_simp;go_wp2_with fail;go_ret;exact⟨rfl,S4.out.1⟩)
section
variable {B:Nat}
def Mt(w:World)(b:Nat):Prop:=Ty 88 w b\/Ty 30 w b\/Ty 96 w b
theorem Mt.keep{w w':World}{b:Nat}(h:Mt w b)(hk:w'.heap[b]? =w.heap[b]?):Mt w' b:=h.elim (fun h=>.inl (h.keep hk)) fun h=>h.elim (fun h=>.inr (.inl (h.keep hk))) fun h=>.inr (.inr (h.keep hk))
theorem Mt.not{w:World}{b:Nat}{t:TypeId}(h:Ty t w b)(h1:t≠88)(h2:t≠30)(h3:t≠96):¬Mt w b:=fun hm=>by
 rcases hm with hm | hm | hm
 ·exact h.ne hm h1
 ·exact h.ne hm h2
 ·exact h.ne hm h3
abbrev ChgT(w w':World):Prop:=Chg (Mt w) w w'
theorem ChgT.trans{a b c:World}(h:ChgT a b)(k:ChgT b c):ChgT a c:=
 ⟨k.os.trans h.os,k.tape.trans h.tape,k.output.trans h.output,aO h.size k.size,fun i hi hM=>by
   have e:=h.block i hi hM;exact(k.block i (aU hi h.size) fun hm=>hM (hm.keep e.symm)).trans e⟩
theorem ChgT.below{a b:World}(h:Below a.heap.size a b):ChgT a b:=Chg.of h
def Fu(w:World)(b:Nat):Prop:=¬Mt w b
theorem Fu.keep{w w':World}{b:Nat}(h:Fu w b)(hk:w'.heap[b]? =w.heap[b]?):Fu w' b:=fun hm=>h (hm.keep hk.symm)
theorem Rp.chgT(R:Rp){w w':World}{us:List Value}(h:R.ok w (Fu w) us)(hc:ChgT w w'):R.ok w' (Fu w') us:=
 R.keep h fun b hb hl=>⟨hc.block b hl hb,hb.keep (hc.block b hl hb)⟩
theorem Rp.fu(R:Rp){w w':World}{us:List Value}(h:R.ok w (Fu w) us)(hb:Below w.heap.size w w'):R.ok w' (Fu w') us:=R.chgT h (ChgT.below hb)
theorem Blk.chgT{w w':World}{g:Nat}{t:TypeId}{cs:Array Value}(h:Blk w g t cs)(hc:ChgT w w')(hg:Fu w g):Blk w' g t cs:=h.chg hc hg
theorem OwnS.repU{w:World}{C:Nat}{e:TypeId}{k:Nat}{v:Value}{L:List Rp}(h:OwnS w C e k (Fu w) v L)(he:e≠88/\e≠30/\e≠96):(rS k L).ok w (Fu w) [v]:=by
 have hty:=h.ownTy;obtain⟨cs,h1,h2⟩:=h;obtain⟨a,c,rfl,r1,r2,r3,r4,r5⟩:=dB h1;refine⟨a,L.length,c,rfl,r2,r3,r1,rfl,cs,r4,fun hn=> ?_,fun i R hR=>R.more (h2 i R hR) fun b hb _=>hb.1⟩;obtain⟨b,o,e1,⟨hb,_⟩,hv,hc⟩:=r5 hn;exact⟨b,o,e1,Mt.not (hty b hv) he.1 he.2.1 he.2.2,hc⟩
theorem yE{w:World}{C:Nat}{v:Value}{l:List Nat}(h:OwnI w C v l):(rI l).ok w (Fu w) [v]:=by
 obtain⟨a,c,rfl,h1,h2,h3,h4,h5⟩:=dB (k:=1) h;rw[Nat.mul_one] at h4 h5;refine⟨a,l.length,c,rfl,h2,h3,h1,h4,fun hn=> ?_⟩;obtain⟨b,o,e1,⟨hb,_⟩,hv,hc⟩:=h5 hn;refine⟨b,o,e1,?_,hc⟩;rcases h.2 with⟨e,_⟩ | ⟨g,cap,cur,e,_,hh,_⟩
 ·rw[e] at hv;simp[Value.ownBlock] at hv
 ·rw[e] at hv;simp[Value.ownBlock] at hv
  subst hv;exact Mt.not (t:=3) ⟨_,_,hh⟩ (by decide) (by decide) (by decide)
theorem Mh{w:World}{C:Nat}{v:Value}{l:List Nat}(h:OwnB w C v l):(rB l).ok w (Fu w) [v]:=(rB l).more (qi h) fun b hb _=>Mt.not hb.1 (by decide) (by decide) (by decide)
def DrR(w:World)(g p room:Nat)(R:List (List Nat))(o:Option Nat):Prop:=∃v wait,DrB w g p room v wait/\OwnS w 0 30 1 (Ty 5 w) v (R.map rB)/\wait<=R.length/\v.ownBlock=o/\∀r∈R,r.length=64
theorem DrR.below{w w':World}{g p room:Nat}{R:List (List Nat)}{o:Option Nat}(h:DrR w g p room R o)(hb:Below w.heap.size w w'):DrR w' g p room R o:=by
 obtain⟨v,wt,h1,h2,h3⟩:=h;exact⟨v,wt,Blk.below h1 hb (Blk.lt h1),h2.chg (M:=fun _=>False) (Chg.of hb) (fun _ _ h=>h) (fun _ h=>h.elim),h3⟩
theorem OwnS.repAny{w:World}{C:Nat}{e:TypeId}{k:Nat}{F:Nat->Prop}{v:Value}{L:List Rp}(h:OwnS w C e k F v L):(rS k L).ok w Any [v]:=(rS k L).more h.rep fun _ _ _=>trivial
theorem DrR.ty{w:World}{g p room:Nat}{R:List (List Nat)}{o:Option Nat}(h:DrR w g p room R o):Ty 88 w g:=by obtain⟨v,wt,h1,_⟩:=h;exact Blk.ty h1
theorem DrR.oty{w:World}{g p room:Nat}{R:List (List Nat)}{o:Option Nat}(h:DrR w g p room R o):∀b,o=some b->Ty 30 w b:=by
 obtain⟨v,wt,h1,h2,h3,h4,_⟩:=h;intro b hb;exact h2.ownTy b (h4.trans hb)
end
def eT:dN:=⟨.empty,0,0,[]⟩
theorem uf{L:List dN}{w:World}{F:Nat->Prop}{a:Option Addr}{n c i:Nat}(h:(rS 4 (L.map cN)).ok w F [slice a n c])(hl:L.length=n)(hi:i<n):
 ∃b o a2 c2,a=some ⟨b,o,none⟩/\F b/\b<w.heap.size/\w.cell? ⟨b,o+i*4,none⟩=some (.string (L.getD i eT).name)/\w.cell? ⟨b,o+i*4+1,none⟩=some (int i64 (L.getD i eT).obj)/\w.cell? ⟨b,o+i*4+2,none⟩=some (int i64 (L.getD i eT).len)/\
  w.cell? ⟨b,o+i*4+3,none⟩=some (slice a2 (L.getD i eT).tries.length c2)/\(rI (L.getD i eT).tries).ok w F [slice a2 (L.getD i eT).tries.length c2]:=by
 have hiL:i<L.length:=by omega
 have hR:(L.map cN)[i]? =some (cN (L.getD i eT)):=by rw[List.getElem?_map,af,ag hiL];rfl
 obtain⟨b,o,ds,rfl,hF,hb,hok,hlen,hc⟩:=rY h (by decide) hi hR;obtain⟨x,y,rfl,h1,h2⟩:=hok;have hx:x=[.string (L.getD i eT).name,int i64 (L.getD i eT).obj,int i64 (L.getD i eT).len]:=h1.1;subst hx;have l2:=(rI (L.getD i eT).tries).len h2;obtain⟨u2,rfl⟩:=length_eq_one_iff.1 l2;obtain⟨a2,c2,e,-⟩:=Ar h2;rw[show(bG (L.getD i eT).tries).length=(L.getD i eT).tries.length by simp[bG]] at e;subst e;exact⟨b,o,a2,c2,rfl,hF,hb,hc 0 _ rfl,hc 1 _ rfl,hc 2 _ rfl,hc 3 _ rfl,h2⟩
theorem Em(p:dN->Bool)(g:FuncId)(cb:Array Value)(L:List dN)(F:Nat->Prop)(a:Option Addr)(n c:Nat)(w:World)(hx:(rS 4 (L.map cN)).ok w F [slice a n c])(hl:L.length=n)(hn:n<=1000000)
 (eg:∀args w,(callFunc g args).run prog w=.ok (.enter g args) w)(hp:∀x∈L,∀W,Below w.heap.size w W->∀a2 c2,(rI x.tries).ok W F [slice a2 x.tries.length c2]->Calls prog g (#[.agg (gK x (slice a2 x.tries.length c2))]++cb) W fun e w'=>e=returned (bool (p x))/\Below W.heap.size W w'):
 Calls prog 167 #[slice a n c,.func (.func g) #[] cb] w fun e w'=>e=returned (int i64 (qD p L))/\Below w.heap.size w w':=by
 have HX:=ae hx;have HL:=ae hl;have HP:=ae hp;have HB0:=ae (az w.heap.size w);clear hx hl hp;go_enter func167,ntmps167;go_wp2_with fail;go_loopw [8] (fun i wr=>∃k:Nat,k<=n/\i=int i64 k/\Hid (Below w.heap.size w wr)/\Hid (∀i,i<k->p (L.getD i eT)=false)) (fun i _=>n-(intOf i).toNat)
 case atStart=>exact⟨0,by omega,rfl,HB0,ae fun i h=>absurd h (Nat.not_lt_zero i)⟩
 case round=>
  clear HB0;obtain⟨k,hkn,rfl,HB,HN⟩:=hrel;by_cases hlt:k<n
  ·have hltI:(k:Int)<(n:Int):=by omega
   obtain⟨b,o,a2,c2,rfl,hF,hb,c0,c1,c3,c4,hr⟩:=uf ((rS 4 _).new HX.out HB.out) HL.out hlt;have hmem:L.getD k eT∈L:=(by rw[af,ag (by rw[HL.out];exact hlt)];exact aP _);have CP:=ae (HP.out (L.getD k eT) hmem wr HB.out a2 c2 hr);have HG:Hid (L.getD k eT=L[k]'(by rw[HL.out];exact hlt)):=ae (by rw[af,ag (by rw[HL.out];exact hlt)];rfl);unfold gK at CP;clear hr hmem hF;cases hq:p (L.getD k eT) with
   | true=>
     rw[hq] at CP;have HQ:=ae hq;clear hq;generalize L.getD k eT=x at*;obtain⟨nm,ob,ln,tr⟩:=x;simp only at*
     go_wp2_with (go_at_fn g;refine CP.out.mono ?_;rintro e w2 ⟨rfl,hb2⟩)
     go_ret
     have e:=tj (p:=p) (l:=L) (k:=k) (by rw[HL.out];exact hlt) (by rw[<-HG.out];exact HQ.out) fun i hi=>by
      have:=HN.out i hi
      rwa [af,ag (by rw[HL.out];omega)] at this
     rw[e];exact⟨rfl,HB.out.trans (hb2.mono HB.out.size)⟩
   | false=>
     rw[hq] at CP
     have HN2:Hid (∀i,i<k+1->p (L.getD i eT)=false):=ae fun i hi=>by
      rcases bq i k with h | h
      ·exact HN.out i h
      ·obtain rfl:i=k:=by omega
       exact hq
     clear hq HG;generalize L.getD k eT=x at*;obtain⟨nm,ob,ln,tr⟩:=x;simp only at*
     go_wp2_with (go_at_fn g;refine CP.out.mono ?_;rintro e w2 ⟨rfl,hb2⟩)
     have HB2:=ae (HB.out.trans (hb2.mono HB.out.size));clear hb2;go_roundw
     case rel=>exact⟨k+1,by omega,by go_num,HB2,HN2⟩
     case measure=>simp[intOf];omega
  ·obtain rfl:k=n:=by omega
   go_wp2_with fail;go_ret;refine⟨?_,HB.out⟩
   have e:=qE (p:=p) (l:=L) fun x hx=>by
    obtain⟨i,hi,rfl⟩:=bC hx;have:=HN.out i (by rw[<-HL.out];exact hi)
    rwa [af,ag hi] at this
   rw[e];rfl
theorem En(p:dN->Bool)(g:FuncId)(cb:Array Value)(L:List dN)(F:Nat->Prop)(a:Option Addr)(n c:Nat)(w:World)(hx:(rS 4 (L.map cN)).ok w F [slice a n c])(hl:L.length=n)(hn:n<=1000000)
 (eg:∀args w,(callFunc g args).run prog w=.ok (.enter g args) w)(hp:∀x∈L,∀W,Below w.heap.size w W->∀a2 c2,(rI x.tries).ok W F [slice a2 x.tries.length c2]->Calls prog g (#[.agg (gK x (slice a2 x.tries.length c2))]++cb) W fun e w'=>e=returned (bool (p x))/\Below W.heap.size W w'):
 Calls prog 149 #[slice a n c,.func (.func g) #[] cb] w fun e w'=>e=returned (bool (L.any p))/\Below w.heap.size w w':=by
 have CI:=ae (Em p g cb L F a n c w hx hl hn eg hp);rw[<-vu];clear hx hp;generalize qD p L=r at*;go_enter func149,ntmps149;go_wp2_with fail;refine CI.out.mono ?_;rintro e w1 ⟨rfl,hb⟩;have HB:=ae hb;clear hb CI;go_wp2_with fail;go_ret;exact⟨rfl,HB.out⟩
theorem bO{P:Program}{id:Nat}{Q:Exit->Act->World->Prop}{a:Act}{w:World}{l:List Oper}(hm:P.follows .mixedOrders=true)(hB:Region.lexB .any l.toArray=true)
 (h:wpQuiet P l.toArray (fun w'=>Below w.heap.size w w') (fun a'=>∀w',Below w.heap.size w w'->Q .normal a' w') l a):(Code.region id l.toArray true).wp P Q a w:=
 wp_region_quiet (C:=fun w'=>Below w.heap.size w w') hm hB ((az _ w).drew) (by simpa using h)
def Ov(m:cQ):Prop:=(∀e∈m.objs,JF m e)/\(∀i,i+1<m.objs.length->Op.bytesLess (m.objs.getD i eT).name.toList (m.objs.getD (i+1) eT).name.toList=true)/\(∀i j,i<j->j<m.objs.length->(m.objs.getD i eT).obj≠(m.objs.getD j eT).obj)
def lf(m:cQ):Prop:=(1<=m.seq/\m.seq<=2147483647)/\m.next<=16777216/\eD m.K m.H m.Z=true/\m.extra<=16/\(xL 63 m.drives=true/\m.drives.length<=64)/\m.objs.length<=12/\Ov m
theorem Ja{t:Nat}{L:List Rp}{w:World}{F:Nat->Prop}{a:Option Addr}{n c k:Nat}(ht:0<t)(h:(rS t L).ok w F [slice a n c])(hk:k<=n):(rS t (L.take k)).ok w F [slice a k c]:=by
 obtain⟨a',n',c',e,h1,h2,h3,h4,cs,h5,h6,h7⟩:=h;injection e with e _;injection e with e1 e2 e3;subst e1 e2 e3;have hkt:k*t<=n*t:=Nat.mul_le_mul_right _ hk;refine⟨a,k,c,rfl,by omega,h2,h3,by rw[aG];omega,cs.take (k*t),by rw[aG];omega,fun hn=> ?_,fun i R hR=> ?_⟩
 ·obtain⟨b',o',e,hF,hc⟩:=h6 (by omega)
  refine⟨b',o',e,hF,fun i u hu=>hc i u ?_⟩;rw[List.getElem?_take] at hu;split at hu
  ·exact hu
  ·cases hu
 ·rw[List.getElem?_take] at hR
  split at hR
  ·rename_i hi
   have h9:=h7 i R hR
   have h10:i*t+t<=k*t:=by
    have:=Nat.mul_le_mul_right t (show i+1<=k by omega)
    rwa [Nat.succ_mul] at this
   have e:((cs.take (k*t)).drop (i*t)).take t=(cs.drop (i*t)).take t:=by
    rw[drop_take,take_take];congr 1;omega
   rw[e];exact h9
  ·cases hR
theorem qX{m:cQ}{e:dN}(h:JF m e)(hk:eD m.K m.H m.Z=true):e.tries.length<=8:=by
 have hok:=aZ hk;have hq:1<=m.K*m.Z:=bn (show 1<=m.K by omega) (show 1<=m.Z by omega);rw[h.2.2.2.2];rcases bq 8 (iB (m.K*m.Z) e.len) with h1 | h1
 ·have h2:=cnt_lt hq h1
  have h3:=h.2.2.1;omega
 ·exact h1
section
variable {B:Nat}
end
end Go.Proofs.YtgccllbnfngpcaaGreatDoor
namespace Go.Proofs
open Go.Shelf
def Tryz.lays215_ren:Go.Shelf.Ren:=⟨fun | 215=>253 | n=>n,fun | 3=>3 | 4=>4 | n=>n,fun | n=>n⟩
open Go.RowKit in
def Tryz.lays122_ren:Go.Shelf.Ren:=⟨fun | 122=>225 | 215=>253 | n=>n,fun | 3=>3 | 4=>4 | n=>n,fun | n=>n⟩
theorem Tryz.lays122:Go.Proofs.Lays.n122 prog Tryz.lays122_ren:= {
 mixed:=by kernel_rfl
 f122:=func225.trans (congrArg some (by kernel_rfl))
 f215:=func253.trans (congrArg some (by kernel_rfl))
 t3:=underlying3
 a3:=Tryz.isAgg3
 z3:=Tryz.sizeOf3
 v3:=Tryz.zeroValue3
 t4:=underlying4
 a4:=Tryz.isAgg4
 z4:=Tryz.sizeOf4
 v4:=Tryz.zeroValue4 }
open Go.RowKit in
theorem Tryz.cmp_Compare_int(x y:Int)(w:World):
 Calls prog 225 #[.int .i64 x,.int .i64 y] w fun e w'=>e=.returned (.int .i64 (Lib.compareInt x y))/\w'=w:=Any.cmp_Compare_int Tryz.lays122 x y w
def Tryz.laysNm215_ren:Go.Shelf.Ren:=⟨fun | 15=>99 | n=>n,fun | 22=>22 | 3=>3 | 4=>4 | n=>n,fun | n=>n⟩
theorem Tryz.laysNm215:Go.Proofs.Lays2.n15 prog Tryz.laysNm215_ren:= {
 mixed:=by kernel_rfl
 f15:=func99.trans (congrArg some (by kernel_rfl))
 t3:=underlying3
 a3:=Tryz.isAgg3
 z3:=Tryz.sizeOf3
 v3:=Tryz.zeroValue3
 t4:=underlying4
 a4:=Tryz.isAgg4
 z4:=Tryz.sizeOf4
 v4:=Tryz.zeroValue4
 t22:=underlying22
 a22:=Tryz.isAgg22
 z22:=Tryz.sizeOf22
 v22:=Tryz.zeroValue22
 i3:=by kernel_rfl }
open Go.RowKit Go.Lib in
theorem Tryz.slices_Clone_int(b off n c:Nat)(zs:List Int)(w:World)(hz:n<=zs.length)(hbig:n*8<=140737488355328)(hc:∀j,j<zs.length->w.cell? ⟨b,off+j,none⟩=some (.int .i64 (zs.getD j 0))):
 Calls prog 99 #[.slice (some ⟨b,off,none⟩) n c] w fun e w'=>∃v',e=.returned v'/\w'.ownsRow w.heap.size 3 1 v' n ((zs.take n).map (Value.int .i64))/\v'≠ .slice none 0 0/\Below w.heap.size w w':=Any.slices_Clone_int Tryz.laysNm215 b off n c zs w hz hbig hc
open Go.RowKit Go.Lib in
theorem Tryz.slices_Clone_int_nil(n c:Nat)(w:World):
 Calls prog 99 #[.slice none n c] w fun e w'=>e=.returned (.slice none 0 0)/\w'=w:=Any.slices_Clone_int_nil Tryz.laysNm215 n c w
open Go.RowKit Go.Lib in
theorem Tryz.slices_Clone_int_zero(a:Addr)(c:Nat)(w:World):
 Calls prog 99 #[.slice (some a) 0 c] w fun e w'=>∃v',e=.returned v'/\w'.ownsRow w.heap.size 3 1 v' 0 []/\v'≠ .slice none 0 0/\Below w.heap.size w w':=Any.slices_Clone_int_zero Tryz.laysNm215 a c w
def Tryz.laysNm220_ren:Go.Shelf.Ren:=⟨fun | 20=>203 | n=>n,fun | 22=>22 | 3=>3 | 4=>4 | 0=>0 | n=>n,fun | n=>n⟩
theorem Tryz.laysNm220:Go.Proofs.Lays2.n20 prog Tryz.laysNm220_ren:= {
 mixed:=by kernel_rfl
 f20:=func203.trans (congrArg some (by kernel_rfl))
 t0:=underlying0
 a0:=Tryz.isAgg0
 z0:=Tryz.sizeOf0
 v0:=Tryz.zeroValue0
 t3:=underlying3
 a3:=Tryz.isAgg3
 z3:=Tryz.sizeOf3
 v3:=Tryz.zeroValue3
 t4:=underlying4
 a4:=Tryz.isAgg4
 z4:=Tryz.sizeOf4
 v4:=Tryz.zeroValue4
 t22:=underlying22
 a22:=Tryz.isAgg22
 z22:=Tryz.sizeOf22
 v22:=Tryz.zeroValue22
 i3:=by kernel_rfl }
open Go.RowKit Go.Lib Go.Sort in
open Go.RowKit Go.Lib Go.Sort in
open Go.RowKit Go.Lib Go.Sort in
open Go.RowKit Go.Lib Go.Sort in
theorem Tryz.slices_Compact_int_cells(b off n c:Nat)(zs:List Int)(w:World)(hz:n<=zs.length)(hbig:n<=9223372036854775807)(hcap:n<=c)(hc:∀j,j<zs.length->w.cell? ⟨b,off+j,none⟩=some (.int .i64 (zs.getD j 0)))(hf:∀j,j<n->w.frozen? ⟨b,off+j,none⟩=false):
 Calls prog 203 #[.slice (some ⟨b,off,none⟩) n c] w fun e w'=>e=.returned (.slice (some ⟨b,off,none⟩) (Lib.compact (zs.take n)).length c)/\∃q,w'=(w.drewN q).setCells b off ((Lib.compact (zs.take n)++List.replicate (n-(Lib.compact (zs.take n)).length) 0).map (Value.int .i64)):=Any.slices_Compact_int_cells Tryz.laysNm220 b off n c zs w hz hbig hcap hc hf
end Go.Proofs
namespace Go.Proofs.YtgccllbnfngpcaaGreatDoor
open Go.RowKit _root_.Go.Proofs.Tryz List
open Value (int slice pointer bool)
open IntKind (i64)
open Ending (returned)
open Obj (cells)
section
open Go.RowKit Go.Sort
theorem oU(L:List Nat):(L.map fun x:Nat=>(x:Int)).map (Value.int .i64)=bG L:=by simp[bG]
theorem OwnI.ty{w:World}{C:Nat}{v:Value}{l:List Nat}(h:OwnI w C v l):∀b,v.ownBlock=some b->Ty 3 w b:=by
 intro b hb;rcases h.2 with⟨e,_⟩ | ⟨g,cap,cur,e,_,hh,_⟩
 ·rw[e] at hb;simp[Value.ownBlock] at hb
 ·rw[e] at hb;simp[Value.ownBlock] at hb
  subst hb;exact⟨_,_,hh⟩
theorem Ty.setCell{t:TypeId}{w:World}{b:Nat}(h:Ty t w b)(p:Addr)(v:Value):Ty t (w.setCell p v) b:=by
 by_cases e:b=p.block
 ·obtain⟨cs,fr,h⟩:=h
  subst e;unfold World.setCell;simp only[Ty,Array.getElem?_modify,if_true,h,Option.map_some];exact⟨_,_,rfl⟩
 ·exact h.keep (bE w p v b e)
theorem Ty.setCells{t:TypeId}{b g:Nat}:∀(vs:List Value) (o:Nat) {w:World},Ty t w b->Ty t (w.setCells g o vs) b
 | [],_,_,h=>h
 | v :: r,o,_,h=>Ty.setCells r (o+1) (h.setCell _ v)
theorem l5{B g:Nat}{a:World}(hb:B<=g):∀(vs:List Value) (o:Nat) {w:World},Below B a w->Below B a (w.setCells g o vs)
 | [],_,_,h=>h
 | v :: r,o,_,h=>l5 hb r (o+1) (h.setCell (p:=⟨g,o,none⟩) hb v)
theorem lM(L:List Nat)(F:Nat->Prop)(a:Option Addr)(n c:Nat)(w:World)(hx:(rI L).ok w F [slice a n c])(hl:L.length=n)(hn:n<=100000):
 Calls prog 99 #[slice a n c] w fun e w'=>∃v,e=returned v/\OwnI w' w.heap.size v L/\Below w.heap.size w w':=by
 obtain⟨a',c',e,hr,hnil,hc1,hc2⟩:=dA hx hl;injection e with e1 e2 e3;subst e1 e3;cases a with
 | none=>
   obtain rfl:=hnil rfl;obtain rfl:n=0:=(by omega);obtain rfl:L=[]:=eq_nil_of_length_eq_zero hl;refine(Tryz.slices_Clone_int_nil 0 0 w).mono ?_;rintro e w' ⟨rfl,rfl⟩;exact⟨_,rfl,OwnI.nil _ _,az _ _⟩
 | some ad=>
   rcases Nat.eq_zero_or_pos n with h0 | h0
   ·subst h0
    obtain rfl:L=[]:=eq_nil_of_length_eq_zero hl;refine(Tryz.slices_Clone_int_zero ad c w).mono ?_;rintro e w' ⟨v,rfl,ho,-,hb⟩;exact⟨_,rfl,ho,hb⟩
   ·obtain⟨b,o,e,hb,hcc⟩:=hr.2 h0
    injection e with e;subst e;refine(Tryz.slices_Clone_int b o n c (L.map fun x:Nat=>(x:Int)) w (by rw[aC];omega) (by omega) fun j hj=> ?_).mono ?_
    ·rw[aC] at hj
     rw[hcc j _ (bL hj)];congr 2;simp[ag hj]
    ·rintro e w' ⟨v,rfl,ho,-,hb⟩
     refine⟨_,rfl,?_,hb⟩;rw[aJ (by rw[aC];omega),oU] at ho;unfold OwnI;rw[hl];exact ho
theorem Gv(L:List Nat)(C n c:Nat)(a:Option Addr)(w:World)(ho:OwnI w C (slice a n c) L)(hC:C<=w.heap.size)(h0:0<n)(hn:n<=100000):
 Calls prog 63 #[slice a n c] w fun e w'=>e=returned (.tuple #[])/\OwnI w' C (slice a n c) (L.mergeSort leB)/\Below C w w':=by
 have hl:L.length=n:=by obtain⟨a',c',e⟩:=ho.lenA;injection e with e1 e2 e3;exact e2.symm
 obtain⟨g,cap,cur,e1,hg5,hblk5,hcap1,hcap2,hcsz,hct⟩:∃g cap cur,Value.slice a n c=slice (some ⟨g,0,none⟩) n cap/\C<=g/\w.heap[g]? =some (.cells cur 3 (0,0))/\n<=cap/\cap<=maxLen/\cur.size=cap*1/\cur.toList.take (n*1)=bG L:=by
  have ho':=ho;unfold OwnI at ho';rw[hl] at ho';rcases ho'.2 with⟨h,_⟩ | h
  ·injection h with _ h2 _;omega
  ·exact h
 injection e1 with e1 e2 e3;subst e1 e3;have hzl:(L.map fun x:Nat=>(x:Int)).length=n:=by rw[aC];exact hl
 have hH:=holds_of_blockI (ss:=L.map fun x:Nat=>(x:Int)) hblk5 (by rw[hzl,oU,<-Nat.mul_one n];exact hct);have cS:=Tryz.slices_Sort_int g 0 c (L.map fun x:Nat=>(x:Int)) w hH (Array.getElem?_eq_some_iff.1 hblk5).1 (by rw[hzl];omega);rw[hzl] at cS
 have hms:(L.map fun x:Nat=>(x:Int)).mergeSort (fun x y=>decide (x<=y))=(L.mergeSort leB).map fun x:Nat=>(x:Int):=by
  refine(map_mergeSort ?_).symm;intro a _ b _;simp[leB]
 rw[hms] at cS;have hfin:=fun n os=>ownsRow_sortedI (n:=n) (os:=os) (ts:=(L.mergeSort leB).map fun x:Nat=>(x:Int)) (ss:=L.map fun x:Nat=>(x:Int)) (by rw[aC,(fA L).length_eq,aC]) hg5 hblk5 (by rw[hzl];exact hcap1) hcap2 hcsz;rw[hzl] at hfin;refine cS.mono ?_;rintro e w6 ⟨rfl,n6,os,rfl⟩;refine⟨rfl,?_,(az C w).grown (grownBy_sortedI (w:=w) (g:=g) (n:=n6) (os:=os) ((L.mergeSort leB).map fun x:Nat=>(x:Int)).toArray) hC (fun g' hg'=>by cases hg';exact hg5)⟩;have h:=hfin n6 os;rw[oU] at h;unfold OwnI;rw[(fA L).length_eq,hl];exact h
theorem rW{α:Type}[Inhabited α][DecidableEq α](zs:List α):∀x∈Lib.compact zs,x∈zs:=by
 have h:∀k,k<=zs.length->∀x∈Lib.compactUpTo zs.toArray k,x∈zs:=by
  intro k
  induction k with
  | zero=>intro _ x hx;simp[Lib.compactUpTo] at hx
  | succ k ih=>
    intro hk x hx;rw[Lib.compactUpTo_succ] at hx;rcases bz.1 hx with h | h
    ·exact ih (by omega) x h
    ·split at h
     ·rw[mem_singleton] at h
      rw[h];have:k<zs.toArray.size:=(by simp;omega);rw[getElem!_pos zs.toArray k this];simp
     ·simp at h
 exact h zs.length (ah _)
theorem yH{α:Type}[Inhabited α][DecidableEq α](zs:List α):∀x∈zs,x∈Lib.compact zs:=by
 have h:∀k,k<=zs.length->∀i,i<k->zs.toArray[i]! ∈Lib.compactUpTo zs.toArray k:=by
  intro k
  induction k with
  | zero=>intro _ i hi;omega
  | succ k ih=>
    intro hk i hi;rw[Lib.compactUpTo_succ];by_cases e:i=k
    ·subst e
     by_cases hkp:Lib.keeps zs.toArray i=true
     ·rw[bf hkp];simp
     ·rw[bg hkp,append_nil]
      have h2:i≠0/\zs.toArray[i]! =zs.toArray[i-1]! :=by
       unfold Lib.keeps at hkp;simpa using hkp
      rw[h2.2];exact ih (by omega) (i-1) (by omega)
    ·exact mem_append_left _ (ih (by omega) i (by omega))
 intro x hx;obtain⟨i,hi,rfl⟩:=bC hx;have h1:=h zs.length (ah _) i hi;rw[getElem!_pos zs.toArray i (by simpa using hi),getElem_toArray] at h1;exact h1
theorem yI(L:List Nat)(C n c:Nat)(a:Option Addr)(w:World)(ho:OwnI w C (slice a n c) L)(hC:C<=w.heap.size)(h0:0<n)(hn:n<=100000):
 Calls prog 203 #[slice a n c] w fun e w'=>∃L' m,e=returned (slice a m c)/\L'.length=m/\m<=n/\(∀x∈L',x∈L)/\(∀x∈L,x∈L')/\(rI L').ok w' (Ty 3 w') [slice a m c]/\Below C w w':=by
 have hl:L.length=n:=by obtain⟨a',c',e⟩:=ho.lenA;injection e with e1 e2 e3;exact e2.symm
 obtain⟨g,rfl,hg,hglt⟩:=ho.formA hl h0
 have hcap:n<=c:=by
  have:=dB ho;obtain⟨a',c',e,_,h2,_⟩:=this;injection e with _ e2 e3;omega
 refine(Tryz.slices_Compact_int_cells g 0 n c (L.map fun x:Nat=>(x:Int)) w (by rw[aC];omega) (by omega) hcap (fun j hj=> ?_) (fun j hj=> ?_)).mono ?_
 ·rw[aC] at hj
  rw[Nat.zero_add,(ho.cellA hl (by omega)).1];congr 2;simp[ag hj]
 ·rw[Nat.zero_add];exact(ho.cellA hl hj).2
 ·rintro e w' ⟨rfl,q,rfl⟩
  rw[aJ (by rw[aC];omega)]
  obtain⟨L',hL'⟩:∃L':List Nat,Lib.compact (L.map fun x:Nat=>(x:Int))=L'.map fun x:Nat=>(x:Int):=by
   refine⟨(Lib.compact (L.map fun x:Nat=>(x:Int))).map Int.toNat,?_⟩;rw[map_map];refine(map_id _).symm.trans (map_congr_left fun x hx=> ?_);obtain⟨y,_,rfl⟩:=aW.1 (rW _ x hx);simp
  have hcl:=Lib.compact_length_le (L.map fun x:Nat=>(x:Int));rw[hL',aC,aC] at hcl
  have hmem:∀x∈L',x∈L:=fun x hx=>by
   have h1:((x:Nat):Int)∈Lib.compact (L.map fun x:Nat=>(x:Int)):=(by rw[hL'];exact mem_map_of_mem hx);obtain⟨y,hy,e⟩:=aW.1 (rW _ _ h1);have:y=x:=by omega
   rwa [<-this]
  have hmem2:∀x∈L,x∈L':=fun x hx=>by
   have h1:=yH (L.map fun x:Nat=>(x:Int)) (x:Int) (mem_map_of_mem hx);rw[hL'] at h1;obtain⟨y,hy,e⟩:=aW.1 h1;have:y=x:=by omega
   rwa [<-this]
  have hlen:((Lib.compact (L.map fun x:Nat=>(x:Int))++replicate (n-(Lib.compact (L.map fun x:Nat=>(x:Int))).length) 0).map (Value.int .i64)).length=n:=by
   rw[hL',aC,aH,aC,aI];omega
  have hty:=Ty.setCells (g:=g) ((Lib.compact (L.map fun x:Nat=>(x:Int))++replicate (n-(Lib.compact (L.map fun x:Nat=>(x:Int))).length) 0).map (Value.int .i64)) 0 (w:=w.drewN q) (ho.ty g rfl);have hcm:c<=maxLen:=(by obtain⟨a',c',e,_,_,h3,_⟩:=dB ho;injection e with _ _ e3;omega);refine⟨L',L'.length,by rw[hL',aC],rfl,by omega,hmem,hmem2,⟨_,L'.length,c,rfl,by omega,hcm,fun e=>(by cases e),by simp[bG],fun h1=>⟨g,0,rfl,hty,fun i u hu=> ?_⟩⟩,?_⟩
  ·have hi:i<L'.length:=by have:=(List.getElem?_eq_some_iff.1 hu).1;simpa[bG] using this
   rw[Nat.zero_add]
   have h2:=World.cell?_setCells_in g ((Lib.compact (L.map fun x:Nat=>(x:Int))++replicate (n-(Lib.compact (L.map fun x:Nat=>(x:Int))).length) 0).map (Value.int .i64)) 0 (w.drewN q) (fun j hj=>by
    rw[hlen] at hj;rw[Nat.zero_add];have:=(ho.cellA hl hj).1;rw[show(w.drewN q).cell? ⟨g,j,none⟩=w.cell? ⟨g,j,none⟩ from rfl,this];rfl) i (by rw[hlen];omega)
   rw[Nat.zero_add] at h2;rw[h2];rw[bL hi] at hu;rw[<-hu];congr 1;simp only[hL',getElem_map];rw[getElem_append_left (by rw[aC];exact hi),getElem_map,af,ag hi];rfl
  ·exact(l5 hg _ 0 (below_drewN (az C w) q))
end
section
variable {B:Nat}
def Md(w:World)(b:Nat):Prop:=Ty 88 w b\/Ty 30 w b
theorem Md.keep{w w':World}{b:Nat}(h:Md w b)(hk:w'.heap[b]? =w.heap[b]?):Md w' b:=h.elim (fun h=>.inl (h.keep hk)) fun h=>.inr (h.keep hk)
theorem Md.not{w:World}{b:Nat}{t:TypeId}(h:Ty t w b)(h1:t≠88)(h2:t≠30):¬Md w b:=fun hm=>by
 rcases hm with hm | hm
 ·exact h.ne hm h1
 ·exact h.ne hm h2
abbrev ChgD(B:Nat)(w w':World):Prop:=Chg (fun b=>B<=b/\Md w b) w w'
theorem ChgD.trans{a b c:World}(h:ChgD B a b)(k:ChgD B b c):ChgD B a c:=
 ⟨k.os.trans h.os,k.tape.trans h.tape,k.output.trans h.output,aO h.size k.size,fun i hi hM=>by
   have e:=h.block i hi hM;exact(k.block i (aU hi h.size) fun hm=>hM ⟨hm.1,hm.2.keep e.symm⟩).trans e⟩
theorem ChgD.below{a b:World}(h:Below a.heap.size a b):ChgD B a b:=Chg.of h
theorem ChgD.toT{a b:World}(h:ChgD B a b):ChgT a b:=Chg.mono h fun k _ hk=>hk.2.elim .inl fun h=>.inr (.inl h)
theorem ChgD.lo{a b:World}(h:ChgD B a b)(hB:B<=a.heap.size):Below B a b:=Chg.below h hB fun k hk=>hk.1
end
def qd(K H Z:Nat)(s:Int)(m:List (List Nat))(k:Nat):List Nat:=(range k).flatMap fun i=>gY K H Z s m i
theorem Gd(K H Z:Nat)(s:Int)(m:List (List Nat)):qd K H Z s m 0=[]:=rfl
theorem xh(K H Z:Nat)(s:Int)(m:List (List Nat))(k:Nat):qd K H Z s m (k+1)=qd K H Z s m k++gY K H Z s m k:=by
 unfold qd;rw[range_succ,flatMap_append];simp
theorem Jt{K H Z:Nat}{s:Int}{m:List (List Nat)}(hk:eD K H Z=true)(h:MidOK K H Z s m)(k:Nat):(qd K H Z s m k).length=k*Z:=by
 induction k with
 | zero=>rw[Gd];simp
 | succ k ih=>rw[xh,aH,ih,jX hk h,Nat.succ_mul]
theorem L9(Z:Nat)(x:List Nat):∀k,k*Z<=x.length->((range k).flatMap fun i=>(x.drop (i*Z)).take Z)=x.take (k*Z):=by
 intro k
 induction k with
 | zero=>intro _;simp
 | succ k ih=>
   intro h;rw[Nat.succ_mul] at h;rw[range_succ,flatMap_append,ih (by omega),Nat.succ_mul,take_add];simp
theorem Ju{K H Z:Nat}{s:Int}{x:List Nat}(hk:eD K H Z=true)(hx:By x)(hl:x.length=K*Z)(hf:dc K H Z s (range K)=true):qd K H Z s (wK K H Z s x) K=x:=by
 obtain⟨-,-,h⟩:=mO hk hx hl hf
 have e:qd K H Z s (wK K H Z s x) K=(range K).flatMap fun i=>(x.drop (i*Z)).take Z:=by
  unfold qd;rw[flatMap_def,flatMap_def];congr 1;refine map_congr_left fun i hi=> ?_;have hi:=bA.1 hi;rw[h i hi];unfold jG;rw[af,List.getElem?_map,List.getElem?_range hi];rfl
 rw[e,L9 Z x K (by omega),aJ (by omega)]
theorem Jd{w:World}{g:Nat}{t:TypeId}{a0 a1 a2 a3 a4 a5 a6 a7 b0 b1 b2 b3 b4 b5 b6 b7:Value}(h:Blk w g t #[a0,a1,a2,a3,a4,a5,a6,a7]):
 Blk ((((((((w.setCell ⟨g,0,none⟩ b0).setCell ⟨g,1,none⟩ b1).setCell ⟨g,2,none⟩ b2).setCell ⟨g,3,none⟩ b3).setCell ⟨g,4,none⟩ b4).setCell ⟨g,5,none⟩ b5).setCell ⟨g,6,none⟩ b6).setCell ⟨g,7,none⟩ b7) g t #[b0,b1,b2,b3,b4,b5,b6,b7]:=by
 have:=(((((((h.set 0 b0).set 1 b1).set 2 b2).set 3 b3).set 4 b4).set 5 b5).set 6 b6).set 7 b7;simpa using this
theorem oP{w a:World}{B g:Nat}{b0 b1 b2 b3 b4 b5 b6 b7:Value}(h:Below B a w)(hg:B<=g):
 Below B a ((((((((w.setCell ⟨g,0,none⟩ b0).setCell ⟨g,1,none⟩ b1).setCell ⟨g,2,none⟩ b2).setCell ⟨g,3,none⟩ b3).setCell ⟨g,4,none⟩ b4).setCell ⟨g,5,none⟩ b5).setCell ⟨g,6,none⟩ b6).setCell ⟨g,7,none⟩ b7):=
 (((((((h.setCell (p:=⟨g,0,none⟩) hg b0).setCell (p:=⟨g,1,none⟩) hg b1).setCell (p:=⟨g,2,none⟩) hg b2).setCell (p:=⟨g,3,none⟩) hg b3).setCell (p:=⟨g,4,none⟩) hg b4).setCell (p:=⟨g,5,none⟩) hg b5).setCell (p:=⟨g,6,none⟩) hg b6).setCell (p:=⟨g,7,none⟩) hg b7
theorem Je{w:World}{g:Nat}{t:TypeId}{a0 a1 a2 a3 a4 a5 a6 a7 b3 b4 b5:Value}(h:Blk w g t #[a0,a1,a2,a3,a4,a5,a6,a7]):
 Blk (((w.setCell ⟨g,3,none⟩ b3).setCell ⟨g,4,none⟩ b4).setCell ⟨g,5,none⟩ b5) g t #[a0,a1,a2,b3,b4,b5,a6,a7]:=by
 have:=((h.set 3 b3).set 4 b4).set 5 b5;simpa using this
theorem F3(bd:List Nat)(g o k c n:Nat)(w:World)(h:Rd w w.heap.size (some ⟨g,0,none⟩) 55 (bF bd))(hb:By bd)(hk0:0<k)(hk4:k<=4)(hok:o+k<=55)(hn:eu ((bd.drop o).take k)=n):
 Calls prog 245 #[slice (some ⟨g,o,none⟩) k c] w fun e w'=>e=returned (int i64 n)/\∃j,w'=w.drewN j:=by
 obtain⟨b,p,e1,_,h2⟩:=qG h hk0 hok;injection e1 with e1;injection e1 with e1 e2 _;subst e1 e2;rw[Nat.zero_add] at h2;have:=Au ((bd.drop o).take k) _ (some ⟨g,o,none⟩) k c w h2 (fun x hx=>hb x (mem_of_mem_drop (bD hx))) hk4;rw[hn] at this;exact this
theorem zX(obj blk id K H Z seed:Nat)(d bs:List Nat)(a:Option Addr)(c:Nat)(w:World)(ho:obj<=16777215)(h8:blk<8)(hi:id<=65535)(hk:eD K H Z=true)(hs:seed<4294967296)
 (hdl:d.length=Z)(hby:By d)(hbs:bs=cellL 1 (jH obj blk id K H Z seed d))(hx:Rd w w.heap.size a 64 (bF bs))(hb:By bs)(hc:64<=c/\c<=maxLen):
 Calls prog 178 #[slice a 64 c] w fun e w'=>∃a' c',e=returned (.tuple #[wM obj blk id K H Z seed (slice a' Z c'),bool true])/\(rB d).ok w' (Fr w.heap.size) [slice a' Z c']/\Below w.heap.size w w':=by
 have hok:=aZ hk;have hrl:=kX obj blk id K H Z seed d;obtain⟨q1,q2,q3⟩:=cell_of (kind:=1) (body:=jH obj blk id K H Z seed d) (by omega) (by omega);rw[<-hbs] at q1 q2 q3;have CT:=ae fun w (h:Rd w w.heap.size a 64 (bF bs))=>(xE bs a c w h hb hc).mono fun e w' (h':_/\_/\_)=>(⟨h'.1 q1,h'.2.2⟩:(∃v,e=returned (.tuple #[int i64 (bs.getD 3 0:Nat),v,bool true])/\OwnB w' w.heap.size v ((bs.drop 4).take 55))/\Below w.heap.size w w');rw[q2,q3] at CT
 have S0:Hid (Sx w (w.alloc (.cells iG 178)) [bQ w.heap.size 178 iG,kT a 64 (bF bs)]):=
  ae (((((Sx.nil w).add (kT a 64 (bF bs)) hx).alloc _).add (bQ _ _ _) (Blk.new w 178 _)))
 have hZ:Z<=24:=by omega
 unfold iG at S0;obtain⟨bd,hbd⟩:∃bd,bd=jH obj blk id K H Z seed d++replicate (55-(jH obj blk id K H Z seed d).length) 0:=⟨_,rfl⟩;rw[<-hbd] at CT;have hbl:bd.length=55:=by rw[hbd,aH,aI,hrl,hdl];omega
 have hbb:By bd:=by
  rw[<-q3] at hbd;rw[hbd];exact fun x hx=>hb x (mem_of_mem_drop (bD hx))
 have HBB:=ae hbb;have HBL:=ae hbl;have HBD:=ae hbd
 have t1:eu ((bd.drop 0).take 3)=obj:=by
  have e:(bd.drop 0).take 3=bT obj 3:=(by rw[hbd];unfold jH;simp only[append_assoc];exact take_left' (cG _ _));rw[e];exact told3 (by omega)
 have t2:eu ((bd.drop 3).take 1)=blk:=by
  have e:(bd.drop 3).take 1=bT blk 1:=(by rw[hbd];rfl);rw[e];exact told1 (by omega)
 have t3:eu ((bd.drop 4).take 2)=id:=by
  have e:(bd.drop 4).take 2=bT id 2:=(by rw[hbd];rfl);rw[e];exact told2 (by omega)
 have t4:eu ((bd.drop 6).take 1)=K:=by
  have e:(bd.drop 6).take 1=[K]:=(by rw[hbd];rfl);rw[e];simp[eu]
 have t5:eu ((bd.drop 7).take 1)=H:=by
  have e:(bd.drop 7).take 1=[H]:=(by rw[hbd];rfl);rw[e];simp[eu]
 have t6:eu ((bd.drop 8).take 1)=Z:=by
  have e:(bd.drop 8).take 1=[Z]:=(by rw[hbd];rfl);rw[e];simp[eu]
 have t7:eu ((bd.drop 9).take 4)=seed:=by
  have e:(bd.drop 9).take 4=bT seed 4:=(by rw[hbd];rfl);rw[e];exact told4 hs
 have t8:(bd.drop 13).take Z=d:=by
  have e:bd.drop 13=d++replicate (55-(jH obj blk id K H Z seed d).length) 0:=(by rw[hbd];rfl);rw[e];exact take_left' hdl
 have CTo:Hid (∀(g:Nat) (w:World),Rd w w.heap.size (some ⟨g,0,none⟩) 55 (bF bd)->∀(o k c:Nat),0<k->k<=4->o+k<=55->Calls prog 245 #[slice (some ⟨g,o,none⟩) k c] w fun e w'=>e=returned (int i64 (eu ((bd.drop o).take k):Nat))/\∃i,w'=w.drewN i):=
  ae fun g w h o k c h1 h2 h3=>F3 bd g o k c _ w h HBB.out h1 h2 h3 rfl
 obtain⟨tn,htn⟩:∃tn:Nat->Nat->Nat,∀o k,eu ((bd.drop o).take k)=tn o k:=⟨_,fun _ _=>rfl⟩;simp only[htn] at CTo t1 t2 t3 t4 t5 t6 t7;clear htn;have CM:=ae fun w=>fS K H Z w;rw[hk] at CM;have CC:=ae fun (w1:World) (g cg:Nat) (h:Rd w1 w1.heap.size (some ⟨g,13,none⟩) Z (bF d))=>dP d _ (some ⟨g,13,none⟩) Z (cg-13) w1 h (ah _) (fun e=>by cases e) (by omega);have CP:=ae fun (a:Option Addr) (c:Nat) (w:World) (h1:Rd w w.heap.size a Z (bF d)) (h2:a=none->c=0)=>uN obj blk id K H Z seed d a c w ho h8 hi hk hs h1 hby h2;have HBSB:=ae hb;have HDL:=ae hdl;have HBS:=ae hbs;unfold cE at CM;unfold wM at CP ⊢;have hZ1:1<=Z:=by omega
 have hsm:(seed:Int)%4294967296=(seed:Int):=by omega
 clear hbd hbl hbb hb hc hx hbs q1 q2 q3;go_enter func178,ntmps178;go_wp2_with fail;generalize w.alloc (cells #[int i64 0,int i64 0,int i64 0,int i64 0,int i64 0,int i64 0,.int .u32 0,slice none 0 0] 178)=w0 at*;refine(CT.out _ (S0.out.rd 1 rfl)).mono ?_;rintro e w1 ⟨⟨v,rfl,hO⟩,hb1⟩;have S1:=ae (S0.out.step hb1)
 obtain⟨g,cg,rfl,hg⟩:∃g cg,v=slice (some ⟨g,0,none⟩) 55 cg/\55<=cg/\cg<=maxLen:=by
  have hO':OwnB w1 w0.heap.size v bd:=hO;obtain⟨g,cap,e,_⟩:=World.ownsRow.form hO' (by rw[HBL.out];omega);rw[HBL.out] at e;subst e;have:=hO'.caps;exact⟨g,cap,rfl,this.2⟩
 have hR1:=(j4 hO);rw[HBL.out] at hR1;obtain⟨aa,cc,e,hR1,-⟩:=hR1;injection e with e1 e2 e3;subst e1 e3;have HR1:=ae hR1;obtain⟨hg1,hg2⟩:=hg;have T:=ae (CTo.out g);have R1:Hid (∀n,Rd (w1.drewN n) (w1.drewN n).heap.size (some ⟨g,0,none⟩) 55 (bF bd)):=ae fun n=>hR1;have R2:Hid (∀n m,Rd (((w1.drewN n).alloc (.cells iG 178)).drewN m) (((w1.drewN n).alloc (.cells iG 178)).drewN m).heap.size (some ⟨g,0,none⟩) 55 (bF bd)):=ae fun n m=>(hR1.below (below_drewN ((below_drewN (az w1.heap.size w1) n).alloc (ah _) (.cells iG 178)) m) (ah _)).more (by simp);have hcI1:(1:Int)<=(cg:Int):=by omega
 have hcN1:¬cg=1:=by omega
 have hcI2:(2:Int)<=(cg:Int):=by omega
 have hcN2:¬cg=2:=by omega
 have hcI3:(3:Int)<=(cg:Int):=by omega
 have hcN3:¬cg=3:=by omega
 have hcI4:(4:Int)<=(cg:Int):=by omega
 have hcN4:¬cg=4:=by omega
 have hcI6:(6:Int)<=(cg:Int):=by omega
 have hcN6:¬cg=6:=by omega
 have hcI7:(7:Int)<=(cg:Int):=by omega
 have hcN7:¬cg=7:=by omega
 have hcI8:(8:Int)<=(cg:Int):=by omega
 have hcN8:¬cg=8:=by omega
 have hcI9:(9:Int)<=(cg:Int):=by omega
 have hcN9:¬cg=9:=by omega
 have hcI13:(13:Int)<=(cg:Int):=by omega
 have hcN13:¬cg=13:=by omega
 clear CTo CT hb1 hO e2;have fz:∀n m i,(((w1.drewN n).alloc (.cells iG 178)).drewN m).frozen? ⟨w1.heap.size,i,none⟩=false:=fun n m i=>(Blk.new (w1.drewN n) _ _).frozen i;have cz:∀n m i,(((w1.drewN n).alloc (.cells iG 178)).drewN m).cell? ⟨w1.heap.size,i,none⟩=iG[i]? :=fun n m i=>(Blk.new (w1.drewN n) _ _).cell i;have fz0:∀n i,((w1.drewN n).alloc (.cells iG 178)).frozen? ⟨w1.heap.size,i,none⟩=false:=fun n i=>(Blk.new (w1.drewN n) _ _).frozen i;have cz0:∀n i,((w1.drewN n).alloc (.cells iG 178)).cell? ⟨w1.heap.size,i,none⟩=iG[i]? :=fun n i=>(Blk.new (w1.drewN n) _ _).cell i;unfold iG at fz cz R2 fz0 cz0;go_upto_region 4 with fail;go_cut [7] (fun v wx=>v=pointer (some ⟨w1.heap.size,0,none⟩)/\Hid (Blk wx w1.heap.size 178 #[int i64 obj,int i64 blk,int i64 id,int i64 0,int i64 0,int i64 0,.int .u32 0,slice none 0 0])/\Hid (Below w1.heap.size w1 wx))
 case first=>
  go_region_with (first
   | (go_at_call 245
      refine(T.out _ (by first | exact R1.out _ | exact R2.out _ 0 | exact R2.out _ _) _ _ _ (by decide) (by decide) (by decide)).mono ?_;rintro e wA ⟨rfl,j1,rfl⟩))
  all_goals(
   go_wp2_with fail;go_meet;refine⟨rfl,ae ?_,ae ?_⟩
   ·exact Jd (Blk.new (w1.drewN 1) _ _)
   ·first
    | exact oP ((below_drewN (az w1.heap.size w1) _).alloc (ah _) _) (ah _)
    | exact oP (below_drewN ((below_drewN (az w1.heap.size w1) _).alloc (ah _) _) _) (ah _)
    | exact oP (below_drewN ((az w1.heap.size w1).alloc (ah _) _) _) (ah _))
 case rest=>
  obtain⟨rfl,HBk,HBw⟩:=hcut;have hsw:=HBw.out.size;have hlt:=HBk.out.lt;have hRc:∀n,Rd (wc.drewN n) (wc.drewN n).heap.size (some ⟨g,0,none⟩) 55 (bF bd):=fun n=>(hR1.below HBw.out (ah _)).more hsw;have RC:=ae hRc;have fz2:∀n i,(wc.drewN n).frozen? ⟨w1.heap.size,i,none⟩=false:=fun n i=>HBk.out.frozen i;obtain⟨k0,k1,k2,k3,k4,k5,k6,k7⟩:=sH HBk.out;have kc3:∀n,(wc.drewN n).cell? ⟨w1.heap.size,3,none⟩=some (int i64 0):=fun n=>k3;have kc4:∀n,(wc.drewN n).cell? ⟨w1.heap.size,4,none⟩=some (int i64 0):=fun n=>k4;have kc5:∀n,(wc.drewN n).cell? ⟨w1.heap.size,5,none⟩=some (int i64 0):=fun n=>k5;clear hRc k0 k1 k2 k3 k4 k5 k6 k7 R1 R2 fz cz fz0 cz0;go_upto_region 5 with fail;go_cut [] (fun wx=>Hid (Blk wx w1.heap.size 178 #[int i64 obj,int i64 blk,int i64 id,int i64 K,int i64 H,int i64 Z,.int .u32 0,slice none 0 0])/\Hid (Below w1.heap.size w1 wx))
  case first=>
   go_region_with (first
    | (go_at_call 245
       refine(T.out _ (by first | exact RC.out _ | exact RC.out 1) _ _ _ (by decide) (by decide) (by decide)).mono ?_;rintro e wA ⟨rfl,j1,rfl⟩))
   all_goals(
    go_wp2_with fail;go_meet;refine⟨ae ?_,ae ?_⟩
    ·exact Je (HBk.out.drewN _)
    ·exact(((below_drewN HBw.out _).setCell (p:=⟨w1.heap.size,3,none⟩) (ah _) _).setCell (p:=⟨w1.heap.size,4,none⟩) (ah _) _).setCell (p:=⟨w1.heap.size,5,none⟩) (ah _) _)
  case rest=>
   clear HBk HBw RC fz2 kc3 kc4 kc5 hlt hsw;obtain⟨HBk,HBw⟩:=hcut;have hsw:=HBw.out.size;have hlt:=HBk.out.lt;have hRc:Rd wc wc.heap.size (some ⟨g,0,none⟩) 55 (bF bd):=(hR1.below HBw.out (ah _)).more hsw;have RC:=ae hRc;clear hRc;go_wp2_with fail;refine(T.out _ RC.out _ _ _ (by decide) (by decide) (by decide)).mono ?_;rintro e w3 ⟨rfl,j3,rfl⟩;have HBk3:=ae (HBk.out.drewN j3);have HBw3:=ae (below_drewN HBw.out j3);have hsw3:w1.heap.size<=(wc.drewN j3).heap.size:=hsw;clear HBk HBw RC hsw hlt T;generalize wc.drewN j3=w4 at*;obtain⟨k0,k1,k2,k3,k4,k5,k6,k7⟩:=sH HBk3.out;have f6:=HBk3.out.frozen 6;have hset:=HBk3.out.set 6 (.int .u32 seed);have HS:Hid (Blk (w4.setCell ⟨w1.heap.size,6,none⟩ (.int .u32 seed)) w1.heap.size 178 #[int i64 obj,int i64 blk,int i64 id,int i64 K,int i64 H,int i64 Z,.int .u32 seed,slice none 0 0]):=ae (by simpa using hset);have HW:Hid (Below w1.heap.size w1 (w4.setCell ⟨w1.heap.size,6,none⟩ (.int .u32 seed))):=ae (HBw3.out.setCell (p:=⟨w1.heap.size,6,none⟩) (ah _) _);clear hset HBk3 HBw3;go_wp2_with fail;clear k0 k1 k2 k3 k4 k5 k6 k7 f6;generalize w4.setCell ⟨w1.heap.size,6,none⟩ (.int .u32 seed)=w5 at*;refine(CM.out _).mono ?_;rintro e w6 ⟨rfl,hb⟩;have HS6:=ae (HS.out.below hb HS.out.lt);have HW6:=ae (HW.out.trans (hb.mono HW.out.size));clear hb HS HW;obtain⟨k0,k1,k2,k3,k4,k5,k6,k7⟩:=sH HS6.out
   have hRd:Rd w6 w6.heap.size (some ⟨g,13,none⟩) Z (bF d):=by
    have h1:Rd w6 w6.heap.size (some ⟨g,0,none⟩) 55 (bF bd):=(hR1.below HW6.out (ah _)).more HW6.out.size;obtain⟨b,p,e1,_,h2⟩:=qG h1 (o:=13) (k:=Z) (by omega) (by omega);injection e1 with e1;injection e1 with e1 e2 _;subst e1 e2;rw[Nat.zero_add,t8] at h2;exact h2
   have CC1:=ae (CC.out w6 g cg hRd);have hz13:(13:Int)+(Z:Int)<=(cg:Int):=(by omega);have hz14:(13:Int)<=13+(Z:Int):=(by omega);have hsub:((13:Int)+(Z:Int)).toNat-13=Z:=(by omega);clear CC hRd;go_wp2_with fail;refine CC1.out.mono ?_;rintro e w7 ⟨v,rfl,hO,hb⟩;obtain⟨a',c',rfl,hrd,hnil⟩:=hO.rd2 HDL.out;have hlt6:=HS6.out.lt;have HR7:=ae (fL hO);have HS7:=ae (HS6.out.below hb HS6.out.lt);have HW7:=ae (HW6.out.trans (hb.mono HW6.out.size));clear k0 k1 k2 k3 k4 k5 k6 k7 hrd hO hb CC1 HS6 HW6;have f7:=HS7.out.frozen 7;have k7:=HS7.out.cell 7;have hset:=HS7.out.set 7 (slice a' Z c');have HS8:Hid (Blk (w7.setCell ⟨w1.heap.size,7,none⟩ (slice a' Z c')) w1.heap.size 178 #[int i64 obj,int i64 blk,int i64 id,int i64 K,int i64 H,int i64 Z,.int .u32 seed,slice a' Z c']):=ae (by simpa using hset);have HW8:Hid (Below w1.heap.size w1 (w7.setCell ⟨w1.heap.size,7,none⟩ (slice a' Z c'))):=ae (HW7.out.setCell (p:=⟨w1.heap.size,7,none⟩) (ah _) _);have HR8:Hid ((rB d).ok (w7.setCell ⟨w1.heap.size,7,none⟩ (slice a' Z c')) (Fr w6.heap.size) [slice a' Z c']):=ae ((rB d).keep HR7.out fun k hF _=>⟨bE _ _ _ _ (by show k≠w1.heap.size;have:w6.heap.size<=k:=hF;omega),hF⟩);obtain⟨k0',k1',k2',k3',k4',k5',k6',k7'⟩:=sH HS8.out;clear hset HR7 HS7 HW7;go_wp2_with fail;clear k7 f7 k0' k1' k2' k3' k4' k5' k6' k7';generalize w7.setCell ⟨w1.heap.size,7,none⟩ (slice a' Z c')=w8 at*;obtain⟨a2,c2,e2,hr8,-⟩:=gP HR8.out HDL.out;injection e2 with e3 _ e4;subst e3 e4;refine(CP.out _ _ w8 hr8 hnil).mono ?_;rintro e w9 ⟨gc,rfl,hgc,hK,hb⟩;have HS9:=ae (HS8.out.below hb HS8.out.lt);have HW9:=ae (HW8.out.trans (hb.mono HW8.out.size));have HR9:=ae ((rB d).new HR8.out hb);have S9:=ae (S1.out.step HW9.out);have hcl:(cellL 1 (jH obj blk id K H Z seed d)).length=64:=je (by rw[kX];have:=HDL.out;omega);have hrc:=nk hK;rw[hcl] at hrc;have CE:=ae (kJ bs (cellL 1 (jH obj blk id K H Z seed d)) w9.heap.size w9.heap.size a (some ⟨gc,0,none⟩) 64 64 c 64 w9 (S9.out.rd 1 rfl) hrc HBSB.out (by rw[<-HBS.out];exact HBSB.out));rw[ba HBS.out] at CE;clear hr8 hK hb HS8 HW8 HR8 CP hcl hrc hgc;go_wp2_with fail;refine CE.out.mono ?_;rintro e w10 ⟨rfl,rfl⟩;have HSB:=ae (S9.out.blk 0 rfl);have HB9:=ae S9.out.1;have h6:w.heap.size<w6.heap.size:=(by have:=S1.out.1.size;omega);obtain⟨k0,k1,k2,k3,k4,k5,k6,k7⟩:=sH HS9.out;clear CE S9
   go_wp2_with (change wpList _ _ _ (Oper.mk none (Op.store 178 _ _) _ _ _ _ :: _) _ _;refine wpList_store_row rfl 178 _ _ rfl w.heap.size (ru obj blk id K H Z seed (slice a' Z c')) rfl rfl 178 _ HSB.out (by kernel_rfl) rfl (JP _ _ _ _ _ _ _ _ _ _) ?_)
   clear k0 k1 k2 k3 k4 k5 k6 k7;have HRR:=ae (HSB.out.row (ru obj blk id K H Z seed (slice a' Z c')));have HB10:=ae (bW HB9.out (ah _) (ru obj blk id K H Z seed (slice a' Z c')));have HR10:Hid ((rB d).ok (w9.setRow w.heap.size (ru obj blk id K H Z seed (slice a' Z c'))) (Fr w.heap.size) [slice a' Z c']):=ae ((rB d).keep HR9.out fun k hF _=>⟨setRow_other w9 w.heap.size k _ (by have:w6.heap.size<=k:=hF;omega),by have:w6.heap.size<=k:=hF;show w.heap.size<=k;omega⟩);generalize w9.setRow w.heap.size (ru obj blk id K H Z seed (slice a' Z c'))=w11 at*;go_wp2_with fail
   (try simp only[Exit.inBlock,Exit.then])
   refine bodyPost_ret (eH rfl _ _ w.heap.size 178 (ru obj blk id K H Z seed (slice a' Z c')) (0,0) _ rfl HRR.out underlying178 rfl (by kernel_rfl)) rfl ?_;exact⟨_,_,rfl,HR10.out,HB10.out⟩
