import Derived.Test.YtofgapdnadbgkaaGreatDoorW33
import Derived.Laws.StructEq
import Derived.Shelf.Small.Wraps
import Derived.Shelf.Slices.Clone
import Derived.Shelf.Slices.CompactI
import Derived.Shelf.Slices.Cells
set_option linter.unusedVariables false
set_option maxRecDepth 100000
set_option maxHeartbeats 400000000
namespace Go.Proofs.YtofgapdnadbgkaaGreatDoor
open Go.RowKit _root_.Go.Proofs.Tryz
structure dM where
 name:ByteArray
 obj:Nat
 len:Nat
 tries:List Nat
structure dC where
 seq:Nat
 next:Nat
 K:Nat
 H:Nat
 Z:Nat
 extra:Nat
 drives:List Nat
 objs:List dM
def bZ(e:dM):Rp:=rP (rVs [.string e.name,.int .i64 e.obj,.int .i64 e.len]) (rI e.tries)
def fQ(e:dM)(v:Value):Array Value:=#[.string e.name,.int .i64 e.obj,.int .i64 e.len,v]
def bF(m:dC)(v1 v2:Value):Array Value:=#[.int .i64 m.seq,.int .i64 m.next,.int .i64 m.K,.int .i64 m.H,.int .i64 m.Z,.int .i64 m.extra,v1,v2]
def Jd(m:dC)(e:dM):Prop:=uT e.name∧e.obj<m.next∧e.len≤m.K*m.Z*8∧(∀t∈e.tries,t≤15)∧e.tries.length=iB (m.K*m.Z) e.len
theorem fB{w:World}{g:Nat}{t:TypeId}{a b c d:Value}(h:Blk w g t #[a,b,c,d]):w.cell? ⟨g,0,none⟩=some a∧w.cell? ⟨g,1,none⟩=some b∧w.cell? ⟨g,2,none⟩=some c∧w.cell? ⟨g,3,none⟩=some d:=⟨h.cell 0,h.cell 1,h.cell 2,h.cell 3⟩
theorem dc{w:World}{g:Nat}{t:TypeId}{a b c d e f i j:Value}(h:Blk w g t #[a,b,c,d,e,f,i,j]):w.cell? ⟨g,0,none⟩=some a∧w.cell? ⟨g,1,none⟩=some b∧w.cell? ⟨g,2,none⟩=some c∧w.cell? ⟨g,3,none⟩=some d∧
 w.cell? ⟨g,4,none⟩=some e∧w.cell? ⟨g,5,none⟩=some f∧w.cell? ⟨g,6,none⟩=some i∧w.cell? ⟨g,7,none⟩=some j:=⟨h.cell 0,h.cell 1,h.cell 2,h.cell 3,h.cell 4,h.cell 5,h.cell 6,h.cell 7⟩
theorem Ac(x:Nat)(w:World)(hx:x≤15):Calls prog 306 (#[.int .i64 (x:Nat)]++#[]) w fun e w'=>e=.returned (.bool false)∧Below w.heap.size w w':=by
 have CW:=ae (fG (x:Nat) 0 15 w);rw[decide_eq_true (show(0:Int)≤(x:Nat)∧((x:Nat):Int)≤15 by omega)] at CW;show Calls prog 306 #[.int .i64 (x:Nat)] w _;go_enter func306,ntmps306;go_wp2_with fail;refine CW.out.mono ?_;rintro e w1 ⟨rfl,rfl⟩;go_wp2_with fail;go_ret;exact⟨rfl,az _ _⟩
theorem Cg(m:dC)(e:dM)(v1 v2:Value)(a:Option Addr)(n c:Nat)(F:Nat→Prop)(w:World)(hx:(rI e.tries).ok w F [.slice a n c])(hn:e.tries.length=n)(hn8:n≤1000)(h:Jd m e)(hk:ed m.K m.H m.Z=true)(hnext:m.next≤16777216)(h1:v1.oneCell'=true)(h2:v2.oneCell'=true):
 Calls prog 265 #[.agg (bF m v1 v2),.agg (fQ e (.slice a n c))] w fun e w'=>e=.returned (.bool true)∧Below w.heap.size w w':=by
 obtain⟨h3,h4,h5,h6,h7⟩:=h;have hok:=of_decide_eq_true hk;obtain⟨w0,hw0⟩:∃w0,w0=(w.alloc (.cells (bF m v1 v2) 154)).alloc (.cells (fQ e (.slice a n c)) 190):=⟨_,rfl⟩
 have S0:Hid (Sx w w0 [bu (w.heap.size+1) 190 (fQ e (.slice a n c)),bu w.heap.size 154 (bF m v1 v2),eR F (.slice a n c) (rI e.tries)]):=by
  rw[hw0];have h1:=((((Sx.nil w).add (eR F (.slice a n c) (rI e.tries)) hx).alloc (.cells (bF m v1 v2) 154)).add (bu w.heap.size _ _) (Blk.new w _ _)).alloc (.cells (fQ e (.slice a n c)) 190);have h2:=h1.add (bu _ _ _) (Blk.new (w.alloc (.cells (bF m v1 v2) 154)) 190 (fQ e (.slice a n c)));have e:(w.alloc (.cells (bF m v1 v2) 154)).heap.size=w.heap.size+1:=(by simp);rw[e] at h2;exact ae h2
 unfold bF fQ at*;obtain⟨nm,ob,ln,tr⟩:=e;obtain⟨sq,nx,K,H,Z,ex,dr,os⟩:=m;simp only at*;have HN0:=ae h3;have HTR:=ae h6;obtain⟨kz,hkz⟩:∃kz,kz=K*Z:=⟨_,rfl⟩;have hmI:(K:Int)*(Z:Int)=((kz:Nat):Int):=by rw[←Int.natCast_mul,hkz]
 have hq2:K*Z≤16*24:=Nat.mul_le_mul (by omega) (by omega);rw[←hkz] at h5 h7 hq2;have hkz3:kz≤384:=hq2;have CC:=ae fun w=>ja K H Z ln w hk (by omega);rw[←hkz,←h7,hn] at CC;have CA:=ae fun w (hx:(rI tr).ok w F [.slice a n c])=>xC (fun _=>false) 306 #[] tr w.heap.size a n c w (by obtain⟨a',c',e,hr,-⟩:=Ak hx;injection e with e1 e2 e3;subst e1 e3;rw[show(bf tr).length=n by simpa[bf] using hn] at hr;exact hr) (ah _) (by omega) (enters_of func306 (by kernel_rfl) rfl) (fun x hx W _=>Ac x W (HTR.out x hx));have ha0:tr.any (fun _=>false)=false:=by simp
 rw[ha0] at CA;have HHW:=ae hw0;have hG1:w.heap.size+1<w0.heap.size:=by rw[hw0];simp
 unfold bL at CC;clear hx hn h3 h6 h7 hk hok hkz hq2 ha0 hw0;go_enter func265,ntmps265;go_wp2_with fail;rw[←HHW.out];generalize w.heap.size+1=G1 at*;generalize hG:w.heap.size=G at*;have HGE:=ae hG;clear hG HHW;refine(xh nm w0 HN0.out).mono ?_;rintro e w1 ⟨rfl,hb⟩;have S1:=ae (S0.out.step hb);clear hb S0 HN0;obtain⟨e0,e1,e2,e3⟩:=fB (S1.out.blk 0 rfl);obtain⟨m0,m1,m2,m3,m4,m5,m6,m7⟩:=dc (S1.out.blk 1 rfl);have CW1:=ae (fG (ob:Nat) 0 ((nx:Int)-1) w1);rw[decide_eq_true (show(0:Int)≤(ob:Nat)∧((ob:Nat):Int)≤(nx:Int)-1 by omega)] at CW1;have CW2:=ae (fG (ln:Nat) 0 ((kz:Int)*8) w1);rw[decide_eq_true (show(0:Int)≤(ln:Nat)∧((ln:Nat):Int)≤(kz:Int)*8 by omega)] at CW2;go_wp2_with fail;refine CW1.out.mono ?_;rintro e w2 ⟨rfl,rfl⟩;clear CW1;go_wp2_with fail;refine CW2.out.mono ?_;rintro e w1 ⟨rfl,rfl⟩;clear CW2;go_wp2_with fail;refine(CA.out _ (S1.out.rep 2 rfl)).mono ?_;rintro e w3 ⟨rfl,hb⟩;have S3:=ae (S1.out.step hb);clear hb S1 CA e0 e1 e2 e3 m0 m1 m2 m3 m4 m5 m6 m7;obtain⟨e0,e1,e2,e3⟩:=fB (S3.out.blk 0 rfl);obtain⟨m0,m1,m2,m3,m4,m5,m6,m7⟩:=dc (S3.out.blk 1 rfl);have CC2:=ae (CC.out w3.drew);clear e0 e1 m0 m1 m5 m6 m7;go_wp2_with fail
 go_region_law (go_simp
                go_at_call 24;refine CC2.out.mono ?_;rintro e w4 ⟨rfl,hb⟩;have S4:=ae (S3.out.step (bA hb));have e3':w4.cell? ⟨G1,3,none⟩=some (.slice a n c):=(S4.out.blk 0 rfl).cell 3;clear hb)
 all_goals(
  go_simp;go_wp2_with fail;go_ret;exact⟨rfl,S4.out.1⟩)
section
variable {B:Nat}
def Mt(w:World)(b:Nat):Prop:=Ty 235 w b∨Ty 23 w b∨Ty 157 w b
theorem Mt.keep{w w':World}{b:Nat}(h:Mt w b)(hk:w'.heap[b]? =w.heap[b]?):Mt w' b:=h.elim (fun h=>.inl (h.keep hk)) fun h=>h.elim (fun h=>.inr (.inl (h.keep hk))) fun h=>.inr (.inr (h.keep hk))
theorem Mt.not{w:World}{b:Nat}{t:TypeId}(h:Ty t w b)(h1:t≠235)(h2:t≠23)(h3:t≠157):¬Mt w b:=fun hm=>by
 rcases hm with hm | hm | hm
 ·exact h.ne hm h1
 ·exact h.ne hm h2
 ·exact h.ne hm h3
abbrev ChgT(w w':World):Prop:=Chg (Mt w) w w'
theorem ChgT.trans{a b c:World}(h:ChgT a b)(k:ChgT b c):ChgT a c:=
 ⟨k.os.trans h.os,k.tape.trans h.tape,k.output.trans h.output,aQ h.size k.size,fun i hi hM=>by
   have e:=h.block i hi hM;exact(k.block i (aY hi h.size) fun hm=>hM (hm.keep e.symm)).trans e⟩
theorem ChgT.below{a b:World}(h:Below a.heap.size a b):ChgT a b:=Chg.of h
def Fu(w:World)(b:Nat):Prop:=¬Mt w b
theorem Fu.keep{w w':World}{b:Nat}(h:Fu w b)(hk:w'.heap[b]? =w.heap[b]?):Fu w' b:=fun hm=>h (hm.keep hk.symm)
theorem Rp.chgT(R:Rp){w w':World}{us:List Value}(h:R.ok w (Fu w) us)(hc:ChgT w w'):R.ok w' (Fu w') us:=
 R.keep h fun b hb hl=>⟨hc.block b hl hb,hb.keep (hc.block b hl hb)⟩
theorem Rp.fu(R:Rp){w w':World}{us:List Value}(h:R.ok w (Fu w) us)(hb:Below w.heap.size w w'):R.ok w' (Fu w') us:=R.chgT h (ChgT.below hb)
theorem Blk.chgT{w w':World}{g:Nat}{t:TypeId}{cs:Array Value}(h:Blk w g t cs)(hc:ChgT w w')(hg:Fu w g):Blk w' g t cs:=h.chg hc hg
theorem OwnS.repU{w:World}{C:Nat}{e:TypeId}{k:Nat}{v:Value}{L:List Rp}(h:OwnS w C e k (Fu w) v L)(he:e≠235∧e≠23∧e≠157):(rS k L).ok w (Fu w) [v]:=by
 have hty:=h.ownTy;obtain⟨cs,h1,h2⟩:=h;obtain⟨a,c,rfl,r1,r2,r3,r4,r5⟩:=bV h1;refine⟨a,L.length,c,rfl,r2,r3,r1,rfl,cs,r4,fun hn=> ?_,fun i R hR=>R.more (h2 i R hR) fun b hb _=>hb.1⟩;obtain⟨b,o,e1,⟨hb,_⟩,hv,hc⟩:=r5 hn;exact⟨b,o,e1,Mt.not (hty b hv) he.1 he.2.1 he.2.2,hc⟩
theorem yu{w:World}{C:Nat}{v:Value}{l:List Nat}(h:OwnI w C v l):(rI l).ok w (Fu w) [v]:=by
 obtain⟨a,c,rfl,h1,h2,h3,h4,h5⟩:=bV (k:=1) h;rw[Nat.mul_one] at h4 h5;refine⟨a,l.length,c,rfl,h2,h3,h1,h4,fun hn=> ?_⟩;obtain⟨b,o,e1,⟨hb,_⟩,hv,hc⟩:=h5 hn;refine⟨b,o,e1,?_,hc⟩;rcases h.2 with⟨e,_⟩ | ⟨g,cap,cur,e,_,hh,_⟩
 ·rw[e] at hv;simp[Value.ownBlock] at hv
 ·rw[e] at hv;simp[Value.ownBlock] at hv
  subst hv;exact Mt.not (t:=3) ⟨_,_,hh⟩ (by decide) (by decide) (by decide)
def DrR(w:World)(g p room:Nat)(R:List (List Nat))(o:Option Nat):Prop:=∃v wait,DrB w g p room v wait∧OwnS w 0 23 1 (Ty 5 w) v (R.map rB)∧wait≤R.length∧v.ownBlock=o∧∀r∈R,r.length=64
theorem DrR.below{w w':World}{g p room:Nat}{R:List (List Nat)}{o:Option Nat}(h:DrR w g p room R o)(hb:Below w.heap.size w w'):DrR w' g p room R o:=by
 obtain⟨v,wt,h1,h2,h3⟩:=h;exact⟨v,wt,Blk.below h1 hb (Blk.lt h1),h2.chg (M:=fun _=>False) (Chg.of hb) (fun _ _ h=>h) (fun _ h=>h.elim),h3⟩
theorem OwnS.repAny{w:World}{C:Nat}{e:TypeId}{k:Nat}{F:Nat→Prop}{v:Value}{L:List Rp}(h:OwnS w C e k F v L):(rS k L).ok w Any [v]:=(rS k L).more h.rep fun _ _ _=>trivial
theorem DrR.ty{w:World}{g p room:Nat}{R:List (List Nat)}{o:Option Nat}(h:DrR w g p room R o):Ty 235 w g:=by obtain⟨v,wt,h1,_⟩:=h;exact Blk.ty h1
theorem DrR.oty{w:World}{g p room:Nat}{R:List (List Nat)}{o:Option Nat}(h:DrR w g p room R o):∀b,o=some b→Ty 23 w b:=by
 obtain⟨v,wt,h1,h2,h3,h4,_⟩:=h;intro b hb;exact h2.ownTy b (h4.trans hb)
theorem DrR.chg{w w':World}{g p room:Nat}{R:List (List Nat)}{o:Option Nat}{M:Nat→Prop}(h:DrR w g p room R o)(hc:Chg M w w')(hg:¬M g)(ho:∀b,o=some b→¬M b)(hM:∀b,M b→¬Ty 5 w b):DrR w' g p room R o:=by
 obtain⟨v,wt,h1,h2,h3,h4,h5⟩:=h;exact⟨v,wt,Blk.chg h1 hc hg,h2.chg hc (fun b hb=>ho b (h4.symm.trans hb)) hM,h3,h4,h5⟩
def Ab(m:dC)(vd vo:Value)(p d0 d1:Nat):Array Value:=bF m vd vo++#[.pointer (some ⟨p,0,none⟩),.int .i64 0,.pointer (some ⟨d0,0,none⟩),.pointer (some ⟨d1,0,none⟩)]++Array.replicate 62 (.pointer none)
structure Drs (B:Nat) (w:World) (p d0 d1 room:Nat) (R0 R1:List (List Nat)):Prop where
 pw:PwS w p
 dr:∃o0 o1,DrR w d0 p room R0 o0∧DrR w d1 p room R1 o1∧(∀b,o0=some b→o1≠some b)∧∀b,(o0=some b∨o1=some b)→B≤b
 ne:d0≠d1
 lo:B≤d0∧B≤d1
theorem Drs.below{w w':World}{p d0 d1 room:Nat}{R0 R1:List (List Nat)}(h:Drs B w p d0 d1 room R0 R1)(hb:Below w.heap.size w w'):Drs B w' p d0 d1 room R0 R1:=by
 obtain⟨h1,⟨o0,o1,h2,h3,h4⟩,h5,h6⟩:=h;exact⟨Blk.below h1 hb (Blk.lt h1),⟨o0,o1,h2.below hb,h3.below hb,h4⟩,h5,h6⟩
structure Sto (B:Nat) (w:World) (g p d0 d1 room:Nat) (m:dC) (R0 R1:List (List Nat)):Prop where
 drs:Drs B w p d0 d1 room R0 R1
 st:∃vd vo,Blk w g 157 (Ab m vd vo p d0 d1)∧(rI m.drives).ok w (Fu w) [vd]∧(rS 4 (m.objs.map bZ)).ok w (Fu w) [vo]
theorem Sto.below{w w':World}{g p d0 d1 room:Nat}{m:dC}{R0 R1:List (List Nat)}(h:Sto B w g p d0 d1 room m R0 R1)(hb:Below w.heap.size w w'):Sto B w' g p d0 d1 room m R0 R1:=by
 obtain⟨h1,vd,vo,h2,h3,h4⟩:=h;exact⟨h1.below hb,vd,vo,Blk.below h2 hb (Blk.lt h2),(rI _).fu h3 hb,(rS 4 _).fu h4 hb⟩
theorem Sto.chgD{w w':World}{g p d0 d1 room:Nat}{m:dC}{R0 R1 Q0 Q1:List (List Nat)}(h:Sto B w g p d0 d1 room m R0 R1)(hc:Chg (fun b=>Ty 235 w b∨Ty 23 w b) w w')(hd:Drs B w' p d0 d1 room Q0 Q1):Sto B w' g p d0 d1 room m Q0 Q1:=by
 obtain⟨h1,vd,vo,h2,h3,h4⟩:=h;have hT:ChgT w w':=hc.mono fun k _ hk=>hk.elim .inl fun h=>.inr (.inl h);exact⟨hd,vd,vo,Blk.chg h2 hc fun hm=>hm.elim (fun h=>(Blk.ty h2).ne h (by decide)) fun h=>(Blk.ty h2).ne h (by decide),(rI _).chgT h3 hT,(rS 4 _).chgT h4 hT⟩
end
def ek:dM:=⟨.empty,0,0,[]⟩
theorem yA{L:List dM}{w:World}{F:Nat→Prop}{a:Option Addr}{n c i:Nat}(h:(rS 4 (L.map bZ)).ok w F [.slice a n c])(hl:L.length=n)(hi:i<n):
 ∃b o a2 c2,a=some ⟨b,o,none⟩∧F b∧b<w.heap.size∧w.cell? ⟨b,o+i*4,none⟩=some (.string (L.getD i ek).name)∧w.cell? ⟨b,o+i*4+1,none⟩=some (.int .i64 (L.getD i ek).obj)∧w.cell? ⟨b,o+i*4+2,none⟩=some (.int .i64 (L.getD i ek).len)∧
  w.cell? ⟨b,o+i*4+3,none⟩=some (.slice a2 (L.getD i ek).tries.length c2)∧(rI (L.getD i ek).tries).ok w F [.slice a2 (L.getD i ek).tries.length c2]:=by
 have hiL:i<L.length:=by omega
 have hR:(L.map bZ)[i]? =some (bZ (L.getD i ek)):=by rw[List.getElem?_map,af,ag hiL];rfl
 obtain⟨b,o,ds,rfl,hF,hb,hok,hlen,hc⟩:=uN h (by decide) hi hR;obtain⟨x,y,rfl,h1,h2⟩:=hok;have hx:x=[.string (L.getD i ek).name,.int .i64 (L.getD i ek).obj,.int .i64 (L.getD i ek).len]:=h1.1;subst hx;have l2:=(rI (L.getD i ek).tries).len h2;obtain⟨u2,rfl⟩:=List.length_eq_one_iff.1 l2;obtain⟨a2,c2,e,-⟩:=Ak h2;rw[show(bf (L.getD i ek).tries).length=(L.getD i ek).tries.length by simp[bf]] at e;subst e;exact⟨b,o,a2,c2,rfl,hF,hb,hc 0 _ rfl,hc 1 _ rfl,hc 2 _ rfl,hc 3 _ rfl,h2⟩
theorem Ea(p:dM→Bool)(g:FuncId)(cb:Array Value)(L:List dM)(F:Nat→Prop)(a:Option Addr)(n c:Nat)(w:World)(hx:(rS 4 (L.map bZ)).ok w F [.slice a n c])(hl:L.length=n)(hn:n≤1000000)
 (eg:∀args w,(callFunc g args).run prog w=.ok (.enter g args) w)(hp:∀x∈L,∀W,Below w.heap.size w W→∀a2 c2,(rI x.tries).ok W F [.slice a2 x.tries.length c2]→Calls prog g (#[.agg (fQ x (.slice a2 x.tries.length c2))]++cb) W fun e w'=>e=.returned (.bool (p x))∧Below W.heap.size W w'):
 Calls prog 241 #[.slice a n c,.func (.func g) #[] cb] w fun e w'=>e=.returned (.int .i64 (o6 p L))∧Below w.heap.size w w':=by
 have HX:=ae hx;have HL:=ae hl;have HP:=ae hp;have HB0:=ae (az w.heap.size w);clear hx hl hp;go_enter func241,ntmps241;go_wp2_with fail;go_loopw [8] (fun i wr=>∃k:Nat,k≤n∧i=.int .i64 k∧Hid (Below w.heap.size w wr)∧Hid (∀i,i<k→p (L.getD i ek)=false)) (fun i _=>n-(intOf i).toNat)
 case atStart=>exact⟨0,by omega,rfl,HB0,ae fun i h=>absurd h (Nat.not_lt_zero i)⟩
 case round=>
  clear HB0;obtain⟨k,hkn,rfl,HB,HN⟩:=hrel;by_cases hlt:k<n
  ·have hltI:(k:Int)<(n:Int):=by omega
   obtain⟨b,o,a2,c2,rfl,hF,hb,c0,c1,c3,c4,hr⟩:=yA ((rS 4 _).new HX.out HB.out) HL.out hlt;have hmem:L.getD k ek∈L:=(by rw[af,ag (by rw[HL.out];exact hlt)];exact aU _);have CP:=ae (HP.out (L.getD k ek) hmem wr HB.out a2 c2 hr);have HG:Hid (L.getD k ek=L[k]'(by rw[HL.out];exact hlt)):=ae (by rw[af,ag (by rw[HL.out];exact hlt)];rfl);unfold fQ at CP;clear hr hmem hF;cases hq:p (L.getD k ek) with
   | true=>
     rw[hq] at CP;have HQ:=ae hq;clear hq;generalize L.getD k ek=x at*;obtain⟨nm,ob,ln,tr⟩:=x;simp only at*
     go_wp2_with (go_at_fn g;refine CP.out.mono ?_;rintro e w2 ⟨rfl,hb2⟩)
     go_ret
     have e:=rL (p:=p) (l:=L) (k:=k) (by rw[HL.out];exact hlt) (by rw[←HG.out];exact HQ.out) fun i hi=>by
      have:=HN.out i hi
      rwa [af,ag (by rw[HL.out];omega)] at this
     rw[e];exact⟨rfl,HB.out.trans (hb2.mono HB.out.size)⟩
   | false=>
     rw[hq] at CP
     have HN2:Hid (∀i,i<k+1→p (L.getD i ek)=false):=ae fun i hi=>by
      rcases Nat.lt_or_ge i k with h | h
      ·exact HN.out i h
      ·obtain rfl:i=k:=by omega
       exact hq
     clear hq HG;generalize L.getD k ek=x at*;obtain⟨nm,ob,ln,tr⟩:=x;simp only at*
     go_wp2_with (go_at_fn g;refine CP.out.mono ?_;rintro e w2 ⟨rfl,hb2⟩)
     have HB2:=ae (HB.out.trans (hb2.mono HB.out.size));clear hb2;go_roundw
     case rel=>(try((repeat apply Exists.intro);refine⟨?_,rfl⟩));exact⟨k+1,by omega,by go_num,HB2,HN2⟩
     case measure=>simp[intOf];omega
  ·obtain rfl:k=n:=by omega
   go_wp2_with fail;go_ret;refine⟨?_,HB.out⟩
   have e:=o7 (p:=p) (l:=L) fun x hx=>by
    obtain⟨i,hi,rfl⟩:=List.getElem_of_mem hx;have:=HN.out i (by rw[←HL.out];exact hi)
    rwa [af,ag hi] at this
   rw[e];rfl
theorem Eb(p:dM→Bool)(g:FuncId)(cb:Array Value)(L:List dM)(F:Nat→Prop)(a:Option Addr)(n c:Nat)(w:World)(hx:(rS 4 (L.map bZ)).ok w F [.slice a n c])(hl:L.length=n)(hn:n≤1000000)
 (eg:∀args w,(callFunc g args).run prog w=.ok (.enter g args) w)(hp:∀x∈L,∀W,Below w.heap.size w W→∀a2 c2,(rI x.tries).ok W F [.slice a2 x.tries.length c2]→Calls prog g (#[.agg (fQ x (.slice a2 x.tries.length c2))]++cb) W fun e w'=>e=.returned (.bool (p x))∧Below W.heap.size W w'):
 Calls prog 266 #[.slice a n c,.func (.func g) #[] cb] w fun e w'=>e=.returned (.bool (L.any p))∧Below w.heap.size w w':=by
 have CI:=ae (Ea p g cb L F a n c w hx hl hn eg hp);rw[←tJ];clear hx hp;generalize o6 p L=r at*;go_enter func266,ntmps266;go_wp2_with fail;refine CI.out.mono ?_;rintro e w1 ⟨rfl,hb⟩;have HB:=ae hb;clear hb CI;go_wp2_with fail;go_ret;exact⟨rfl,HB.out⟩
theorem bE{P:Program}{id:Nat}{Q:Exit→Act→World→Prop}{a:Act}{w:World}{l:List Oper}(hm:P.follows .mixedOrders=true)(hB:Region.lexB .any l.toArray=true)
 (h:wpQuiet P l.toArray (fun w'=>Below w.heap.size w w') (fun a'=>∀w',Below w.heap.size w w'→Q .normal a' w') l a):(Code.region id l.toArray true).wp P Q a w:=
 wp_region_quiet (C:=fun w'=>Below w.heap.size w w') hm hB ((az _ w).drew) (by simpa using h)
def MW(m:dC):Prop:=(∀e∈m.objs,Jd m e)∧(∀i,i+1<m.objs.length→Op.bytesLess (m.objs.getD i ek).name.toList (m.objs.getD (i+1) ek).name.toList=true)∧(∀i j,i<j→j<m.objs.length→(m.objs.getD i ek).obj≠(m.objs.getD j ek).obj)
def lm(m:dC):Prop:=(1≤m.seq∧m.seq≤2147483647)∧m.next≤16777216∧ed m.K m.H m.Z=true∧m.extra≤16∧(zy 63 m.drives=true∧m.drives.length≤64)∧m.objs.length≤12∧MW m
theorem II{t:Nat}{L:List Rp}{w:World}{F:Nat→Prop}{a:Option Addr}{n c k:Nat}(ht:0<t)(h:(rS t L).ok w F [.slice a n c])(hk:k≤n):(rS t (L.take k)).ok w F [.slice a k c]:=by
 obtain⟨a',n',c',e,h1,h2,h3,h4,cs,h5,h6,h7⟩:=h;injection e with e _;injection e with e1 e2 e3;subst e1 e2 e3;have hkt:k*t≤n*t:=Nat.mul_le_mul_right _ hk;refine⟨a,k,c,rfl,by omega,h2,h3,by rw[aI];omega,cs.take (k*t),by rw[aI];omega,fun hn=> ?_,fun i R hR=> ?_⟩
 ·obtain⟨b',o',e,hF,hc⟩:=h6 (by omega)
  refine⟨b',o',e,hF,fun i u hu=>hc i u ?_⟩;rw[List.getElem?_take] at hu;split at hu
  ·exact hu
  ·cases hu
 ·rw[List.getElem?_take] at hR
  split at hR
  ·rename_i hi
   have h9:=h7 i R hR
   have h10:i*t+t≤k*t:=by
    have:=Nat.mul_le_mul_right t (show i+1≤k by omega)
    rwa [Nat.succ_mul] at this
   have e:((cs.take (k*t)).drop (i*t)).take t=(cs.drop (i*t)).take t:=by
    rw[List.drop_take,List.take_take];congr 1;omega
   rw[e];exact h9
  ·cases hR
theorem qC{m:dC}{e:dM}(h:Jd m e)(hk:ed m.K m.H m.Z=true):e.tries.length≤8:=by
 have hok:=of_decide_eq_true hk;have hq:1≤m.K*m.Z:=Nat.mul_le_mul (show 1≤m.K by omega) (show 1≤m.Z by omega);rw[h.2.2.2.2];rcases Nat.lt_or_ge 8 (iB (m.K*m.Z) e.len) with h1 | h1
 ·have h2:=cnt_lt hq h1
  have h3:=h.2.2.1;omega
 ·exact h1
section
variable {B:Nat}
theorem bP{w:World}{g p d0 d1:Nat}{m:dC}{vd vo:Value}(h:Blk w g 157 (Ab m vd vo p d0 d1)):
 w.cell? ⟨g,0,none⟩=some (.int .i64 m.seq)∧w.cell? ⟨g,1,none⟩=some (.int .i64 m.next)∧w.cell? ⟨g,2,none⟩=some (.int .i64 m.K)∧w.cell? ⟨g,3,none⟩=some (.int .i64 m.H)∧w.cell? ⟨g,4,none⟩=some (.int .i64 m.Z)∧w.cell? ⟨g,5,none⟩=some (.int .i64 m.extra)∧
 w.cell? ⟨g,6,none⟩=some vd∧w.cell? ⟨g,7,none⟩=some vo∧w.cell? ⟨g,8,none⟩=some (.pointer (some ⟨p,0,none⟩))∧w.cell? ⟨g,9,none⟩=some (.int .i64 0)∧w.cell? ⟨g,10,none⟩=some (.pointer (some ⟨d0,0,none⟩))∧w.cell? ⟨g,11,none⟩=some (.pointer (some ⟨d1,0,none⟩)):=
 ⟨(Blk.cell h 0).trans (by simp[Ab,bF]),(Blk.cell h 1).trans (by simp[Ab,bF]),(Blk.cell h 2).trans (by simp[Ab,bF]),(Blk.cell h 3).trans (by simp[Ab,bF]),(Blk.cell h 4).trans (by simp[Ab,bF]),(Blk.cell h 5).trans (by simp[Ab,bF]),
  (Blk.cell h 6).trans (by simp[Ab,bF]),(Blk.cell h 7).trans (by simp[Ab,bF]),(Blk.cell h 8).trans (by simp[Ab,bF]),(Blk.cell h 9).trans (by simp[Ab,bF]),(Blk.cell h 10).trans (by simp[Ab,bF]),(Blk.cell h 11).trans (by simp[Ab,bF])⟩
def rT(d0 d1 s:Nat):Nat:=if s=0 then d0 else d1
def kJ(B g p d0 d1 room:Nat)(m:dC)(R0 R1:List (List Nat)):vC:=⟨fun w=>Sto B w g p d0 d1 room m R0 R1,fun _ _ h hb=>h.below hb⟩
theorem Sx.sto{w0 w:World}{L:List vC}(h:Sx w0 w L)(i:Nat){g p d0 d1 room:Nat}{m:dC}{R0 R1:List (List Nat)}(hi:L[i]? =some (kJ B g p d0 d1 room m R0 R1)):Sto B w g p d0 d1 room m R0 R1:=h.get i hi
theorem mF(s g p d0 d1 room:Nat)(m:dC)(R0 R1:List (List Nat))(w:World)(h:Sto B w g p d0 d1 room m R0 R1)(hs:s≤1):Calls prog 92 #[.pointer (some ⟨g,0,none⟩),.int .i64 s] w fun e w'=>e=.returned (.pointer (some ⟨rT d0 d1 s,0,none⟩))∧w'=w:=by
 obtain⟨-,vd,vo,hb,-⟩:=h;obtain⟨k0,k1,k2,k3,k4,k5,k6,k7,k8,k9,k10,k11⟩:=bP hb;clear hb k0 k1 k2 k3 k4 k5 k6 k7 k8 k9;have hs2:s=0∨s=1:=by omega
 rcases hs2 with rfl | rfl
 ·unfold rT
  rw[if_pos rfl];go_enter func92,ntmps92;go_wp2_with fail;go_ret;exact⟨rfl,rfl⟩
 ·unfold rT
  rw[if_neg (by decide)];go_enter func92,ntmps92;go_wp2_with fail;go_ret;exact⟨rfl,rfl⟩
theorem IL(g p d0 d1 room:Nat)(m:dC)(R0 R1:List (List Nat))(w:World)(h:Sto B w g p d0 d1 room m R0 R1):Calls prog 98 #[.pointer (some ⟨g,0,none⟩)] w fun e w'=>e=.returned (.bool false)∧Below w.heap.size w w':=by
 obtain⟨hd,vd,vo,hb,-⟩:=h;obtain⟨k0,k1,k2,k3,k4,k5,k6,k7,k8,k9,k10,k11⟩:=bP hb;have HB:=ae hb;have HP:=ae hd.pw;clear hb k0 k1 k2 k3 k4 k5 k6 k7 k10 k11 hd;go_enter func98,ntmps98;go_upto_region 1 with fail;refine bE (by kernel_rfl) (by kernel_rfl) ?_
 iterate 23 (
  with_reducible refine wpQuiet_step (fun Kq hKq=> ?_)
  go_simp
  first
  | refine hKq _ ?_
  | refine⟨_,fun _ _=>rfl,hKq _ ?_⟩
  | (apply Exists.intro
     refine⟨fun w' hw'=> ?_,hKq _ ?_⟩
     ·obtain⟨k0',k1',k2',k3',k4',k5',k6',k7',k8',k9',k10',k11'⟩:=bP (HB.out.below hw' HB.out.lt)
      first
      | (go_simp
         first | exact rfl | exact⟨rfl,rfl⟩)
      | (go_at_call 121
         refine(Ek p w' (HP.out.below hw' (Blk.lt HP.out))).mono ?_;rintro e w5 ⟨rfl,rfl⟩;exact⟨rfl,hw'⟩)
      | (go_at_call 88
         refine(El p w' (HP.out.below hw' (Blk.lt HP.out))).mono ?_;rintro e w5 ⟨rfl,rfl⟩;exact⟨rfl,hw'⟩))
  clear hKq Kq)
 with_reducible refine wpQuiet_nil ?_
 intro w5 hw5;go_wp2_with fail;go_ret;exact⟨rfl,hw5⟩
theorem DX(g p d0 d1 room:Nat)(m:dC)(R0 R1:List (List Nat))(w:World)(h:Sto B w g p d0 d1 room m R0 R1):Calls prog 174 #[.pointer (some ⟨g,0,none⟩)] w fun e w'=>e=.returned (.bool false)∧Below w.heap.size w w':=by
 have CO:=ae (IL g p d0 d1 room m R0 R1 w h);clear h;go_enter func174,ntmps174;go_wp2_with fail;refine CO.out.mono ?_;rintro e w1 ⟨rfl,hb⟩;have HB:=ae hb;clear hb CO;go_wp2_with fail;go_ret;exact⟨rfl,HB.out⟩
theorem IM(L:List Nat)(F:Nat→Prop)(a:Option Addr)(n c:Nat)(g p d0 d1 room:Nat)(m:dC)(R0 R1:List (List Nat))(w:World)(h:Sto B w g p d0 d1 room m R0 R1)(hx:(rI L).ok w F [.slice a n c])(hl:L.length=n)(hn:n≤64)(hL:∀x∈L,x≤1):
 Calls prog 187 #[.func (.func 92) #[.pointer (some ⟨g,0,none⟩)] #[],.slice a n c] w fun e w'=>∃v,e=.returned v∧OwnI w' w.heap.size v L∧Below w.heap.size w w':=by
 have S0:Hid (Sx w w [kJ B g p d0 d1 room m R0 R1,eR F (.slice a n c) (rI L)]):=ae (((Sx.nil w).add (eR F (.slice a n c) (rI L)) hx).add (kJ B g p d0 d1 room m R0 R1) h);have HL:=ae hl;have HLE:=ae hL;have HO0:Hid (OwnI w w.heap.size (.slice none 0 0) (L.take 0)):=ae (OwnI.nil _ _);have HB0:=ae (az w.heap.size w);clear h hx hl hL;go_enter func187,ntmps187;go_wp2_with fail;go_loopw [5,11] (fun v i wr=>∃k:Nat,k≤n∧i=.int .i64 k∧Hid (OwnI wr w.heap.size v (L.take k))∧Hid (Below w.heap.size w wr)) (fun _ i _=>n-(intOf i).toNat)
 case atStart=>exact⟨0,by omega,rfl,HO0,HB0⟩
 case round=>
  clear HO0 HB0;obtain⟨k,hkn,rfl,HO,HB⟩:=hrel;have S1:=ae (S0.out.step HB.out);obtain⟨bv,nv,cv,rfl⟩:=HO.out.sl;by_cases hlt:k<n
  ·have hltI:(k:Int)<(n:Int):=by omega
   have hkl:k<L.length:=(by rw[HL.out];exact hlt);obtain⟨a',c',e,hrd,-⟩:=dB (S1.out.rep 1 rfl) HL.out;injection e with e1 e2 e3;subst e1 e3;obtain⟨b,o,rfl,hb,hcc⟩:=hrd.2 (by omega);have cq:=hcc k (.int .i64 (L.getD k 0:Nat)) (bM hkl);have hx1:=HLE.out (L.getD k 0) (by rw[af,ag hkl];exact aU hkl);have HT:Hid (L.take (k+1)=L.take k++[L.getD k 0]):=ae (by rw[aP hkl,af,ag hkl];rfl);have hml:(L.take k).length≤1000000:=(by rw[aI];omega);have hsz:=HB.out.size;generalize L.getD k 0=x at*;have CD:=ae (mF x g p d0 d1 room m R0 R1 wr (S1.out.sto 0 rfl) hx1)
   have CL:Hid (Calls prog 193 #[.pointer (some ⟨rT d0 d1 x,0,none⟩)] wr fun e w'=>e=.returned (.bool false)∧w'=wr):=ae (by
    obtain⟨⟨_,⟨o0,o1,⟨v0,t0,h0,_⟩,⟨v1,t1,h1,_⟩,_⟩,_⟩,_⟩:=S1.out.sto 0 rfl;unfold rT;split
    ·exact sw _ _ _ _ _ _ h0
    ·exact sw _ _ _ _ _ _ h1)
   generalize L.take k=LL at*;generalize rT d0 d1 x=dx at*;clear hcc hrd hx1 hkl;go_wp2_with fail;refine CD.out.mono ?_;rintro e wx ⟨rfl,rfl⟩;go_wp2_with fail;refine CL.out.mono ?_;rintro e wy ⟨rfl,rfl⟩;clear CD CL
   go_wp2_with (at_builtin;refine ky (w:=wy) (C:=w.heap.size) (y:=x) rfl _ _ rfl rfl HO.out hsz hml rfl rfl ?_)
   intro v2 w2 hO2 hb2;rw[←HT.out] at hO2;have HO2:=ae hO2;have HB2:=ae (HB.out.trans hb2);clear hO2 hb2 HO HB HT;go_wp2_with fail;go_roundw
   case rel=>(try((repeat apply Exists.intro);refine⟨?_,rfl⟩));exact⟨k+1,by omega,by go_num,HO2,HB2⟩
   case measure=>simp[intOf];omega
  ·obtain rfl:k=n:=by omega
   rw[aO (by rw[HL.out];exact ah _)] at HO;go_wp2_with fail;go_ret;exact⟨_,rfl,HO.out,HB.out⟩
theorem lH(g p d0 d1 room:Nat)(m:dC)(R0 R1:List (List Nat))(w:World)(h:Sto B w g p d0 d1 room m R0 R1)(hn:m.drives.length≤64)(hL:∀x∈m.drives,x≤1):
 Calls prog 110 #[.pointer (some ⟨g,0,none⟩)] w fun e w'=>∃v,e=.returned v∧OwnI w' w.heap.size v m.drives∧Below w.heap.size w w':=by
 obtain⟨hd,vd,vo,hb,h1,h2⟩:=h;obtain⟨k0,k1,k2,k3,k4,k5,k6,k7,k8,k9,k10,k11⟩:=bP hb;obtain⟨a,c,rfl,-⟩:=dB h1 rfl;have CL:=ae (IM m.drives (Fu w) a m.drives.length c g p d0 d1 room m R0 R1 w ⟨hd,_,vo,hb,h1,h2⟩ h1 rfl hn hL);clear hd hb h1 h2 k0 k1 k2 k3 k4 k5 k7 k8 k9 k10 k11;go_enter func110,ntmps110;go_wp2_with fail;refine CL.out.mono ?_;rintro e w1 ⟨v,rfl,ho,hb⟩;have HO:=ae ho;have HB:=ae hb;clear ho hb CL;go_wp2_with fail;go_ret;exact⟨_,rfl,HO.out,HB.out⟩
end
end Go.Proofs.YtofgapdnadbgkaaGreatDoor
namespace Go.Proofs
open Go.Shelf
def Tryz.lays215_ren:Go.Shelf.Ren:=⟨fun | 215=>305 | n=>n,fun | 3=>3 | 4=>4 | n=>n,fun | n=>n⟩
open Go.RowKit in
def Tryz.lays122_ren:Go.Shelf.Ren:=⟨fun | 122=>293 | 215=>305 | n=>n,fun | 3=>3 | 4=>4 | n=>n,fun | n=>n⟩
theorem Tryz.lays122:Go.Proofs.Lays.n122 prog Tryz.lays122_ren:= {
 mixed:=by kernel_rfl
 f122:=func293.trans (congrArg some (by kernel_rfl))
 f215:=func305.trans (congrArg some (by kernel_rfl))
 t3:=underlying3
 a3:=Tryz.isAgg3
 z3:=Tryz.sizeOf3
 v3:=Tryz.zeroValue3
 t4:=underlying4
 a4:=Tryz.isAgg4
 z4:=Tryz.sizeOf4
 v4:=Tryz.zeroValue4 }
open Go.RowKit in
theorem Tryz.cmp_Compare_int(x y:Int)(w:World):
 Calls prog 293 #[.int .i64 x,.int .i64 y] w fun e w'=>e=.returned (.int .i64 (Lib.compareInt x y))∧w'=w:=Any.cmp_Compare_int Tryz.lays122 x y w
def Tryz.laysNm215_ren:Go.Shelf.Ren:=⟨fun | 15=>156 | n=>n,fun | 22=>24 | 3=>3 | 4=>4 | n=>n,fun | n=>n⟩
theorem Tryz.laysNm215:Go.Proofs.Lays2.n15 prog Tryz.laysNm215_ren:= {
 mixed:=by kernel_rfl
 f15:=func156.trans (congrArg some (by kernel_rfl))
 t3:=underlying3
 a3:=Tryz.isAgg3
 z3:=Tryz.sizeOf3
 v3:=Tryz.zeroValue3
 t4:=underlying4
 a4:=Tryz.isAgg4
 z4:=Tryz.sizeOf4
 v4:=Tryz.zeroValue4
 t22:=underlying24
 a22:=Tryz.isAgg24
 z22:=Tryz.sizeOf24
 v22:=Tryz.zeroValue24
 i3:=by kernel_rfl }
open Go.RowKit Go.Lib in
theorem Tryz.slices_Clone_int(b off n c:Nat)(zs:List Int)(w:World)(hz:n≤zs.length)(hbig:n*8≤140737488355328)(hc:∀j,j<zs.length→w.cell? ⟨b,off+j,none⟩=some (.int .i64 (zs.getD j 0))):
 Calls prog 156 #[.slice (some ⟨b,off,none⟩) n c] w fun e w'=>∃v',e=.returned v'∧w'.ownsRow w.heap.size 3 1 v' n ((zs.take n).map (Value.int .i64))∧v'≠ .slice none 0 0∧Below w.heap.size w w':=Any.slices_Clone_int Tryz.laysNm215 b off n c zs w hz hbig hc
open Go.RowKit Go.Lib in
theorem Tryz.slices_Clone_int_nil(n c:Nat)(w:World):
 Calls prog 156 #[.slice none n c] w fun e w'=>e=.returned (.slice none 0 0)∧w'=w:=Any.slices_Clone_int_nil Tryz.laysNm215 n c w
open Go.RowKit Go.Lib in
theorem Tryz.slices_Clone_int_zero(a:Addr)(c:Nat)(w:World):
 Calls prog 156 #[.slice (some a) 0 c] w fun e w'=>∃v',e=.returned v'∧w'.ownsRow w.heap.size 3 1 v' 0 []∧v'≠ .slice none 0 0∧Below w.heap.size w w':=Any.slices_Clone_int_zero Tryz.laysNm215 a c w
def Tryz.laysNm220_ren:Go.Shelf.Ren:=⟨fun | 20=>231 | n=>n,fun | 22=>24 | 3=>3 | 4=>4 | 0=>0 | n=>n,fun | n=>n⟩
theorem Tryz.laysNm220:Go.Proofs.Lays2.n20 prog Tryz.laysNm220_ren:= {
 mixed:=by kernel_rfl
 f20:=func231.trans (congrArg some (by kernel_rfl))
 t0:=underlying0
 a0:=Tryz.isAgg0
 z0:=Tryz.sizeOf0
 v0:=Tryz.zeroValue0
 t3:=underlying3
 a3:=Tryz.isAgg3
 z3:=Tryz.sizeOf3
 v3:=Tryz.zeroValue3
 t4:=underlying4
 a4:=Tryz.isAgg4
 z4:=Tryz.sizeOf4
 v4:=Tryz.zeroValue4
 t22:=underlying24
 a22:=Tryz.isAgg24
 z22:=Tryz.sizeOf24
 v22:=Tryz.zeroValue24
 i3:=by kernel_rfl }
open Go.RowKit Go.Lib Go.Sort in
open Go.RowKit Go.Lib Go.Sort in
open Go.RowKit Go.Lib Go.Sort in
open Go.RowKit Go.Lib Go.Sort in
theorem Tryz.slices_Compact_int_cells(b off n c:Nat)(zs:List Int)(w:World)(hz:n≤zs.length)(hbig:n≤9223372036854775807)(hcap:n≤c)(hc:∀j,j<zs.length→w.cell? ⟨b,off+j,none⟩=some (.int .i64 (zs.getD j 0)))(hf:∀j,j<n→w.frozen? ⟨b,off+j,none⟩=false):
 Calls prog 231 #[.slice (some ⟨b,off,none⟩) n c] w fun e w'=>e=.returned (.slice (some ⟨b,off,none⟩) (Lib.compact (zs.take n)).length c)∧∃q,w'=(w.drewN q).setCells b off ((Lib.compact (zs.take n)++List.replicate (n-(Lib.compact (zs.take n)).length) 0).map (Value.int .i64)):=Any.slices_Compact_int_cells Tryz.laysNm220 b off n c zs w hz hbig hcap hc hf
end Go.Proofs
namespace Go.Proofs.YtofgapdnadbgkaaGreatDoor
open Go.RowKit _root_.Go.Proofs.Tryz
section
open Go.RowKit Go.Sort
theorem oH(L:List Nat):(L.map fun x:Nat=>(x:Int)).map (Value.int .i64)=bf L:=by simp[bf]
theorem OwnI.ty{w:World}{C:Nat}{v:Value}{l:List Nat}(h:OwnI w C v l):∀b,v.ownBlock=some b→Ty 3 w b:=by
 intro b hb;rcases h.2 with⟨e,_⟩ | ⟨g,cap,cur,e,_,hh,_⟩
 ·rw[e] at hb;simp[Value.ownBlock] at hb
 ·rw[e] at hb;simp[Value.ownBlock] at hb
  subst hb;exact⟨_,_,hh⟩
theorem Ty.setCell{t:TypeId}{w:World}{b:Nat}(h:Ty t w b)(p:Addr)(v:Value):Ty t (w.setCell p v) b:=by
 by_cases e:b=p.block
 ·obtain⟨cs,fr,h⟩:=h
  subst e;unfold World.setCell;simp only[Ty,Array.getElem?_modify,if_true,h,Option.map_some];exact⟨_,_,rfl⟩
 ·exact h.keep (aZ w p v b e)
theorem Ty.setCells{t:TypeId}{b g:Nat}:∀(vs:List Value) (o:Nat) {w:World},Ty t w b→Ty t (w.setCells g o vs) b
 | [],_,_,h=>h
 | v :: r,o,_,h=>Ty.setCells r (o+1) (h.setCell _ v)
theorem lu{B g:Nat}{a:World}(hb:B≤g):∀(vs:List Value) (o:Nat) {w:World},Below B a w→Below B a (w.setCells g o vs)
 | [],_,_,h=>h
 | v :: r,o,_,h=>lu hb r (o+1) (h.setCell (p:=⟨g,o,none⟩) hb v)
theorem kZ(L:List Nat)(F:Nat→Prop)(a:Option Addr)(n c:Nat)(w:World)(hx:(rI L).ok w F [.slice a n c])(hl:L.length=n)(hn:n≤100000):
 Calls prog 156 #[.slice a n c] w fun e w'=>∃v,e=.returned v∧OwnI w' w.heap.size v L∧Below w.heap.size w w':=by
 obtain⟨a',c',e,hr,hnil,hc1,hc2⟩:=dB hx hl;injection e with e1 e2 e3;subst e1 e3;cases a with
 | none=>
   obtain rfl:=hnil rfl;obtain rfl:n=0:=(by omega);obtain rfl:L=[]:=List.eq_nil_of_length_eq_zero hl;refine(Tryz.slices_Clone_int_nil 0 0 w).mono ?_;rintro e w' ⟨rfl,rfl⟩;exact⟨_,rfl,OwnI.nil _ _,az _ _⟩
 | some ad=>
   rcases Nat.eq_zero_or_pos n with h0 | h0
   ·subst h0
    obtain rfl:L=[]:=List.eq_nil_of_length_eq_zero hl;refine(Tryz.slices_Clone_int_zero ad c w).mono ?_;rintro e w' ⟨v,rfl,ho,-,hb⟩;exact⟨_,rfl,ho,hb⟩
   ·obtain⟨b,o,e,hb,hcc⟩:=hr.2 h0
    injection e with e;subst e;refine(Tryz.slices_Clone_int b o n c (L.map fun x:Nat=>(x:Int)) w (by rw[aG];omega) (by omega) fun j hj=> ?_).mono ?_
    ·rw[aG] at hj
     rw[hcc j _ (bM hj)];congr 2;simp[ag hj]
    ·rintro e w' ⟨v,rfl,ho,-,hb⟩
     refine⟨_,rfl,?_,hb⟩;rw[aO (by rw[aG];omega),oH] at ho;unfold OwnI;rw[hl];exact ho
theorem GD(L:List Nat)(C n c:Nat)(a:Option Addr)(w:World)(ho:OwnI w C (.slice a n c) L)(hC:C≤w.heap.size)(h0:0<n)(hn:n≤100000):
 Calls prog 106 #[.slice a n c] w fun e w'=>e=.returned (.tuple #[])∧OwnI w' C (.slice a n c) (L.mergeSort leB)∧Below C w w':=by
 have hl:L.length=n:=by obtain⟨a',c',e⟩:=ho.lenA;injection e with e1 e2 e3;exact e2.symm
 obtain⟨g,cap,cur,e1,hg5,hblk5,hcap1,hcap2,hcsz,hct⟩:∃g cap cur,Value.slice a n c=.slice (some ⟨g,0,none⟩) n cap∧C≤g∧w.heap[g]? =some (.cells cur 3 (0,0))∧n≤cap∧cap≤maxLen∧cur.size=cap*1∧cur.toList.take (n*1)=bf L:=by
  have ho':=ho;unfold OwnI at ho';rw[hl] at ho';rcases ho'.2 with⟨h,_⟩ | h
  ·injection h with _ h2 _;omega
  ·exact h
 injection e1 with e1 e2 e3;subst e1 e3;have hzl:(L.map fun x:Nat=>(x:Int)).length=n:=by rw[aG];exact hl
 have hH:=holds_of_blockI (ss:=L.map fun x:Nat=>(x:Int)) hblk5 (by rw[hzl,oH,←Nat.mul_one n];exact hct);have cS:=Tryz.slices_Sort_int g 0 c (L.map fun x:Nat=>(x:Int)) w hH (Array.getElem?_eq_some_iff.1 hblk5).1 (by rw[hzl];omega);rw[hzl] at cS
 have hms:(L.map fun x:Nat=>(x:Int)).mergeSort (fun x y=>decide (x≤y))=(L.mergeSort leB).map fun x:Nat=>(x:Int):=by
  refine(List.map_mergeSort ?_).symm;intro a _ b _;simp[leB]
 rw[hms] at cS;have hfin:=fun n os=>ownsRow_sortedI (n:=n) (os:=os) (ts:=(L.mergeSort leB).map fun x:Nat=>(x:Int)) (ss:=L.map fun x:Nat=>(x:Int)) (by rw[aG,(fO L).length_eq,aG]) hg5 hblk5 (by rw[hzl];exact hcap1) hcap2 hcsz;rw[hzl] at hfin;refine cS.mono ?_;rintro e w6 ⟨rfl,n6,os,rfl⟩;refine⟨rfl,?_,(az C w).grown (grownBy_sortedI (w:=w) (g:=g) (n:=n6) (os:=os) ((L.mergeSort leB).map fun x:Nat=>(x:Int)).toArray) hC (fun g' hg'=>by cases hg';exact hg5)⟩;have h:=hfin n6 os;rw[oH] at h;unfold OwnI;rw[(fO L).length_eq,hl];exact h
theorem rz{α:Type}[Inhabited α][DecidableEq α](zs:List α):∀x∈Lib.compact zs,x∈zs:=by
 have h:∀k,k≤zs.length→∀x∈Lib.compactUpTo zs.toArray k,x∈zs:=by
  intro k
  induction k with
  | zero=>intro _ x hx;simp[Lib.compactUpTo] at hx
  | succ k ih=>
    intro hk x hx;rw[Lib.compactUpTo_succ] at hx;rcases List.mem_append.1 hx with h | h
    ·exact ih (by omega) x h
    ·split at h
     ·rw[List.mem_singleton] at h
      rw[h];have:k<zs.toArray.size:=(by simp;omega);rw[getElem!_pos zs.toArray k this];simp
     ·simp at h
 exact h zs.length (ah _)
theorem yK(L:List Nat)(C n c:Nat)(a:Option Addr)(w:World)(ho:OwnI w C (.slice a n c) L)(hC:C≤w.heap.size)(h0:0<n)(hn:n≤100000):
 Calls prog 231 #[.slice a n c] w fun e w'=>∃L' m,e=.returned (.slice a m c)∧L'.length=m∧m≤n∧(∀x∈L',x∈L)∧(rI L').ok w' (Ty 3 w') [.slice a m c]∧Below C w w':=by
 have hl:L.length=n:=by obtain⟨a',c',e⟩:=ho.lenA;injection e with e1 e2 e3;exact e2.symm
 obtain⟨g,rfl,hg,hglt⟩:=ho.formA hl h0
 have hcap:n≤c:=by
  have:=bV ho;obtain⟨a',c',e,_,h2,_⟩:=this;injection e with _ e2 e3;omega
 refine(Tryz.slices_Compact_int_cells g 0 n c (L.map fun x:Nat=>(x:Int)) w (by rw[aG];omega) (by omega) hcap (fun j hj=> ?_) (fun j hj=> ?_)).mono ?_
 ·rw[aG] at hj
  rw[Nat.zero_add,(ho.cellA hl (by omega)).1];congr 2;simp[ag hj]
 ·rw[Nat.zero_add];exact(ho.cellA hl hj).2
 ·rintro e w' ⟨rfl,q,rfl⟩
  rw[aO (by rw[aG];omega)]
  obtain⟨L',hL'⟩:∃L':List Nat,Lib.compact (L.map fun x:Nat=>(x:Int))=L'.map fun x:Nat=>(x:Int):=by
   refine⟨(Lib.compact (L.map fun x:Nat=>(x:Int))).map Int.toNat,?_⟩;rw[List.map_map];refine(List.map_id _).symm.trans (List.map_congr_left fun x hx=> ?_);obtain⟨y,_,rfl⟩:=List.mem_map.1 (rz _ x hx);simp
  have hcl:=Lib.compact_length_le (L.map fun x:Nat=>(x:Int));rw[hL',aG,aG] at hcl
  have hmem:∀x∈L',x∈L:=fun x hx=>by
   have h1:((x:Nat):Int)∈Lib.compact (L.map fun x:Nat=>(x:Int)):=(by rw[hL'];exact List.mem_map_of_mem hx);obtain⟨y,hy,e⟩:=List.mem_map.1 (rz _ _ h1);have:y=x:=by omega
   rwa [←this]
  have hlen:((Lib.compact (L.map fun x:Nat=>(x:Int))++List.replicate (n-(Lib.compact (L.map fun x:Nat=>(x:Int))).length) 0).map (Value.int .i64)).length=n:=by
   rw[hL',aG,aJ,aG,aN];omega
  have hty:=Ty.setCells (g:=g) ((Lib.compact (L.map fun x:Nat=>(x:Int))++List.replicate (n-(Lib.compact (L.map fun x:Nat=>(x:Int))).length) 0).map (Value.int .i64)) 0 (w:=w.drewN q) (ho.ty g rfl);have hcm:c≤maxLen:=(by obtain⟨a',c',e,_,_,h3,_⟩:=bV ho;injection e with _ _ e3;omega);refine⟨L',L'.length,by rw[hL',aG],rfl,by omega,hmem,⟨_,L'.length,c,rfl,by omega,hcm,fun e=>(by cases e),by simp[bf],fun h1=>⟨g,0,rfl,hty,fun i u hu=> ?_⟩⟩,?_⟩
  ·have hi:i<L'.length:=by have:=(List.getElem?_eq_some_iff.1 hu).1;simpa[bf] using this
   rw[Nat.zero_add]
   have h2:=World.cell?_setCells_in g ((Lib.compact (L.map fun x:Nat=>(x:Int))++List.replicate (n-(Lib.compact (L.map fun x:Nat=>(x:Int))).length) 0).map (Value.int .i64)) 0 (w.drewN q) (fun j hj=>by
    rw[hlen] at hj;rw[Nat.zero_add];have:=(ho.cellA hl hj).1;rw[show(w.drewN q).cell? ⟨g,j,none⟩=w.cell? ⟨g,j,none⟩ from rfl,this];rfl) i (by rw[hlen];omega)
   rw[Nat.zero_add] at h2;rw[h2];rw[bM hi] at hu;rw[←hu];congr 1;simp only[hL',List.getElem_map];rw[List.getElem_append_left (by rw[aG];exact hi),List.getElem_map,af,ag hi];rfl
  ·exact(lu hg _ 0 (below_drewN (az C w) q))
end
end Go.Proofs.YtofgapdnadbgkaaGreatDoor
