import Derived.Test.YtofgapdnadbgkaaGreatDoorW44
set_option linter.unusedVariables false
set_option maxRecDepth 100000
set_option maxHeartbeats 400000000
namespace Go.Proofs.YtofgapdnadbgkaaGreatDoor
open Go.RowKit _root_.Go.Proofs.Tryz
theorem qX(g p room wait there n:Nat)(v:Value)(w:World)(h:DrB w g p room v wait)(hr:there+n≤room)(h5:room≤512):Calls prog 197 #[.pointer (some ⟨g,0,none⟩),.int .i64 there,.int .i64 n] w fun e w'=>e=.returned (.bool true)∧w'=w:=by
 have CR:=ae (LK g p room wait v w h);have h1:(if (n:Int)<0 then (0:Int) else n)=n:=by rw[if_neg (by omega)]
 have h2:(if (0:Int)<(n:Int) then (n:Int) else 0)=n:=by split <;> omega
 have h3:max (n:Int) 0=n:=by omega
 have h4:(n:Int)≤(room:Int)-(there:Int):=by omega
 go_enter func197,ntmps197;go_wp2_with fail;refine CR.out.mono ?_;rintro e w1 ⟨rfl,rfl⟩;go_wp2_with fail;go_ret;exact⟨rfl,rfl⟩
theorem wQ(g p room n:Nat)(R:List (List Nat))(o:Option Nat)(m:dC)(v1 v2:Value)(w:World)(h:DrR w g p room R o)(hr:R.length+n≤room)(h5:room≤512):Calls prog 196 #[.pointer (some ⟨g,0,none⟩),.agg (bF m v1 v2),.int .i64 n] w fun e w'=>e=.returned (.bool true)∧Below w.heap.size w w':=by
 have hba:=(az w.heap.size w).alloc (ah _) (.cells (bF m v1 v2) 154);obtain⟨v,wait,h1,h2,h3⟩:=h.below hba;obtain⟨a,c,rfl,-⟩:=h2.val;rw[aG] at h1;have HBA:=ae hba;have CL:=ae (sw g p room wait _ _ h1);have CN:=ae (JI g p room wait _ c a _ h1);have CB:=ae (qX g p room wait R.length n _ _ h1 hr h5);unfold bF at*;clear h h1 h2 h3 hba;go_enter func196,ntmps196;go_wp2_with fail;generalize w.alloc (.cells #[.int .i64 m.seq,.int .i64 m.next,.int .i64 m.K,.int .i64 m.H,.int .i64 m.Z,.int .i64 m.extra,v1,v2] 154)=w1 at*;refine CL.out.mono ?_;rintro e w2 ⟨rfl,rfl⟩;go_wp2_with fail;refine CN.out.mono ?_;rintro e w3 ⟨rfl,rfl⟩;go_wp2_with fail;refine CB.out.mono ?_;rintro e w3 ⟨rfl,rfl⟩;go_wp2_with fail;go_ret;exact⟨rfl,HBA.out⟩
theorem FD(g p room n:Nat)(R:List (List Nat))(o:Option Nat)(m:dC)(v1 v2:Value)(w:World)(h:DrR w g p room R o)(hr:R.length+n≤room)(h5:room≤512):Calls prog 114 #[.pointer (some ⟨g,0,none⟩),.agg (bF m v1 v2),.int .i64 n] w fun e w'=>e=.returned (.int .i64 0)∧Below w.heap.size w w':=by
 have hba:=(az w.heap.size w).alloc (ah _) (.cells (bF m v1 v2) 154);have HM:=ae (Blk.new w 154 (bF m v1 v2));have HD:=ae (h.below hba);have HBA:=ae hba;unfold bF at*;clear h hba;go_enter func114,ntmps114;go_wp2_with fail;generalize w.alloc (.cells #[.int .i64 m.seq,.int .i64 m.next,.int .i64 m.K,.int .i64 m.H,.int .i64 m.Z,.int .i64 m.extra,v1,v2] 154)=w1 at*
 have CL:Hid (Calls prog 193 #[.pointer (some ⟨g,0,none⟩)] w1 fun e w'=>e=.returned (.bool false)∧w'=w1):=ae (by
  obtain⟨v,wait,h1,-⟩:=HD.out;exact sw g p room wait v w1 h1)
 have CF:=ae (wQ g p room n R o m v1 v2 w1 HD.out hr h5);unfold bF at CF;refine CL.out.mono ?_;rintro e w2 ⟨rfl,rfl⟩;obtain⟨k0,k1,k2,k3,k4,k5,k6,k7⟩:=dc HM.out;go_wp2_with fail;refine CF.out.mono ?_;rintro e w3 ⟨rfl,hb⟩;obtain⟨v,wait,h1,h2,h3⟩:=HD.out.below hb;obtain⟨a,c,rfl,-⟩:=h2.val;rw[aG] at h1;have CN:=ae (JI g p room wait _ c a _ h1);have CB:=ae (qX g p room wait R.length n _ _ h1 hr h5);have HB3:=ae (HBA.out.trans (hb.mono HBA.out.size));clear h1 h2 h3 hb k0 k1 k2 k3 k4 k5 k6 k7 CL CF HD HM;go_wp2_with fail;refine CN.out.mono ?_;rintro e w4 ⟨rfl,rfl⟩;go_wp2_with fail;refine CB.out.mono ?_;rintro e w4 ⟨rfl,rfl⟩;go_wp2_with fail;go_ret;exact⟨rfl,HB3.out⟩
section
variable {B:Nat}
def jZ(P:List (Nat×List Nat))(x:Nat):Nat:=(P.filter fun y=>y.1 == x).length
theorem Jg(y:Nat×List Nat)(x:Nat):([y].filter fun z=>z.1 == x).length=if y.1=x then 1 else 0:=by
 by_cases e:y.1=x
 ·rw[if_pos e,List.filter_cons_of_pos (by simpa using e)];rfl
 ·rw[if_neg e,List.filter_cons_of_neg (by simpa using e)];rfl
theorem Jh(P:List (Nat×List Nat))(pg x gp gl n c:Nat)(a:Option Addr)(w:World)(hp:Blk w gp 3 #[.int .i64 pg])(hg:Blk w gl 162 #[.slice a n c])(hx:(rS 2 (P.map cJ)).ok w (Fu w) [.slice a n c])(hl:P.length=n)(hn:n≤1000)(hpg:pg≤1000):
 Calls prog 170 (#[.int .i64 x]++#[.pointer (some ⟨gp,0,none⟩),.pointer (some ⟨gl,0,none⟩)]) w fun e w'=>e=.returned (.int .i64 (pg+jZ P x:Nat))∧Below w.heap.size w w':=by
 show Calls prog 170 #[.int .i64 x,.pointer (some ⟨gp,0,none⟩),.pointer (some ⟨gl,0,none⟩)] w _;have S0:Hid (Sx w w [bu gp 3 #[.int .i64 pg],bu gl 162 #[.slice a n c],eR (Fu w) (.slice a n c) (rS 2 (P.map cJ))]):=ae ((((Sx.nil w).add (eR (Fu w) (.slice a n c) (rS 2 (P.map cJ))) hx).add (bu gl _ _) hg).add (bu gp _ _) hp);have HL:=ae hl;have p0:=hp.cell 0;have g0:=hg.cell 0;have HT0:Hid (pg+jZ (P.take 0) x=pg):=ae rfl;clear hp hg hx hl;go_enter func170,ntmps170;go_wp2_with fail;have HB0:=ae (az w.heap.size w);go_loopw [5,11] (fun v i wr=>∃k t:Nat,k≤n∧i=.int .i64 k∧v=.int .i64 t∧Hid (pg+jZ (P.take k) x=t)∧Hid (Below w.heap.size w wr)) (fun _ i _=>n-(intOf i).toNat)
 case atStart=>exact⟨0,pg,by omega,rfl,rfl,HT0,HB0⟩
 case round=>
  clear HT0 HB0;obtain⟨k,t,hkn,rfl,rfl,HT,HB⟩:=hrel;have S1:=ae (S0.out.step HB.out);by_cases hlt:k<n
  ·have hltI:(k:Int)<(n:Int):=by omega
   have hkl:k<P.length:=(by rw[HL.out];exact hlt);obtain⟨b,o,a2,c2,rfl,hF,hb,d0',d1',hr⟩:=zL (S1.out.rep 2 rfl) HL.out hlt;have HTK:P.take (k+1)=P.take k++[P.getD k lq]:=by rw[aP hkl,af,ag hkl];rfl
   have HG:Hid (pg+jZ (P.take (k+1)) x=t+(if (P.getD k lq).1=x then 1 else 0)):=ae (by
    rw[HTK];unfold jZ;rw[List.filter_append,aJ,←Nat.add_assoc];have h:=HT.out;unfold jZ at h;rw[h];rw[Jg])
   have htb:t≤2000:=(by have h:=HT.out;unfold jZ at h;have h1:=List.length_filter_le (fun y:Nat×List Nat=>y.1 == x) (P.take k);rw[aI] at h1;omega);clear hkl HTK hF hr;generalize P.getD k lq=y at*;obtain⟨s,r⟩:=y;simp only at*;have hba:=(az wr.heap.size wr).alloc (ah _) (.cells #[.int .i64 s,.slice a2 r.length c2] 238);have HX1:=ae (Blk.new wr 238 #[.int .i64 s,.slice a2 r.length c2]);have HB1:=ae (HB.out.trans (hba.mono HB.out.size));clear hba;go_upto_region 5 with fail;generalize wr.alloc (.cells #[.int .i64 s,.slice a2 r.length c2] 238)=w1 at*;have x0:=HX1.out.cell 0;clear d0' d1' HB S1;by_cases hsx:s=x
   ·subst hsx
    rw[if_pos rfl] at HG;go_wp2_with fail;go_roundw
    case rel=>(try((repeat apply Exists.intro);refine⟨?_,rfl⟩));exact⟨k+1,t+1,by omega,by go_num,by go_num,HG,HB1⟩
    case measure=>simp[intOf];omega
   ·rw[if_neg hsx,Nat.add_zero] at HG
    have hsI:¬(s:Int)=(x:Int):=(by omega);go_wp2_with fail;go_roundw
    case rel=>(try((repeat apply Exists.intro);refine⟨?_,rfl⟩));exact⟨k+1,t,by omega,by go_num,rfl,HG,HB1⟩
    case measure=>simp[intOf];omega
  ·obtain rfl:k=n:=by omega
   have HTE:Hid (pg+jZ P x=t):=ae (by rw[←HT.out,aO (by rw[HL.out];exact ah _)]);go_wp2_with fail;go_ret;refine⟨?_,HB.out⟩;rw[HTE.out];rfl
def Ls(w0:World)(fg:FuncId)(cb:Array Value)(cnt:Nat→Nat):Prop:=∀x,x≤1→∀W,Below w0.heap.size w0 W→Calls prog fg (#[.int .i64 x]++cb) W fun e w'=>e=.returned (.int .i64 (cnt x:Nat))∧Below W.heap.size W w'
theorem Gg(x g p d0 d1 room gs gn:Nat)(m:dC)(R0 R1:List (List Nat))(fg:FuncId)(cb:Array Value)(cnt:Nat→Nat)(w0 w:World)(hw:Below w0.heap.size w0 w)(h:Sto B w g p d0 d1 room m R0 R1)(hs:Blk w gs 96 #[.pointer (some ⟨g,0,none⟩)])(hn:Blk w gn 229 #[.func (.func fg) #[] cb])(hx:x≤1)
 (eg:∀args w,(callFunc fg args).run prog w=.ok (.enter fg args) w)(hp:Ls w0 fg cb cnt)(hr:R0.length+cnt x≤room∧R1.length+cnt x≤room)(h5:room≤512):
 Calls prog 240 (#[.int .i64 x]++#[.pointer (some ⟨gs,0,none⟩),.pointer (some ⟨gn,0,none⟩)]) w fun e w'=>e=.returned (.bool false)∧Below w.heap.size w w':=by
 show Calls prog 240 #[.int .i64 x,.pointer (some ⟨gs,0,none⟩),.pointer (some ⟨gn,0,none⟩)] w _;have S0:Hid (Sx w w [bu gs 96 #[.pointer (some ⟨g,0,none⟩)],bu gn 229 #[.func (.func fg) #[] cb],kJ B g p d0 d1 room m R0 R1]):=ae ((((Sx.nil w).add (kJ B g p d0 d1 room m R0 R1) h).add (bu gn _ _) hn).add (bu gs _ _) hs);have HP:=ae hp;have HW:=ae hw;have HR:=ae hr;have CF:=ae fun (R:List (List Nat)) (o:Option Nat) (dg:Nat) (v1 v2:Value) (w:World) (h:DrR w dg p room R o) (hr:R.length+cnt x≤room)=>wQ dg p room (cnt x) R o m v1 v2 w h hr h5;clear h hs hn hp hr hw;unfold bF at CF;go_enter func240,ntmps240;obtain⟨-,vd,vo,hst,-⟩:=S0.out.sto 2 rfl;have HST:=ae hst;clear hst
 have CG:Hid (∀W,Below w.heap.size w W→Calls prog 196 #[.pointer (some ⟨rT d0 d1 x,0,none⟩),.agg #[.int .i64 m.seq,.int .i64 m.next,.int .i64 m.K,.int .i64 m.H,.int .i64 m.Z,.int .i64 m.extra,vd,vo],.int .i64 (cnt x:Nat)] W fun e w'=>e=.returned (.bool true)∧Below W.heap.size W w'):=ae fun W hW=>by
  obtain⟨-,⟨o0,o1,h0,h1,-⟩,-,-⟩:=((S0.out.step hW).sto 2 rfl).drs;have hx2:x=0∨x=1:=(by omega);rcases hx2 with rfl | rfl
  ·exact CF.out R0 o0 d0 vd vo W h0 HR.out.1
  ·exact CF.out R1 o1 d1 vd vo W h1 HR.out.2
 clear CF;have hx2:x=0∨x=1:=by omega
 rcases hx2 with rfl | rfl;have CG0:=CG;clear CG;have CG:Hid (∀W,Below w.heap.size w W→Calls prog 196 #[.pointer (some ⟨d0,0,none⟩),.agg #[.int .i64 m.seq,.int .i64 m.next,.int .i64 m.K,.int .i64 m.H,.int .i64 m.Z,.int .i64 m.extra,vd,vo],.int .i64 (cnt 0:Nat)] W fun e w'=>e=.returned (.bool true)∧Below W.heap.size W w'):=CG0
 rotate_left
 have CG0:=CG;clear CG;have CG:Hid (∀W,Below w.heap.size w W→Calls prog 196 #[.pointer (some ⟨d1,0,none⟩),.agg #[.int .i64 m.seq,.int .i64 m.next,.int .i64 m.K,.int .i64 m.H,.int .i64 m.Z,.int .i64 m.extra,vd,vo],.int .i64 (cnt 1:Nat)] W fun e w'=>e=.returned (.bool true)∧Below W.heap.size W w'):=CG0
 all_goals(
  go_upto_region 1 with fail;refine bE (by kernel_rfl) (by kernel_rfl) ?_
  iterate 16 (
   with_reducible refine wpQuiet_step (fun Kq hKq=> ?_)
   go_simp
   first
   | refine hKq _ ?_
   | refine⟨_,fun _ _=>rfl,hKq _ ?_⟩
   | (apply Exists.intro
      refine⟨fun w' hw'=> ?_,hKq _ ?_⟩
      ·have s0':=((S0.out.step hw').blk 0 rfl).cell 0
       have n0':=((S0.out.step hw').blk 1 rfl).cell 0;obtain⟨k0',k1',k2',k3',k4',k5',k6',k7',-,-,k10',k11'⟩:=bP (Blk.below HST.out hw' (Blk.lt HST.out))
       first
       | (go_simp
          first | exact rfl | exact⟨rfl,rfl⟩)
       | (go_at_fn fg
          refine(HP.out _ hx w' (HW.out.trans (hw'.mono HW.out.size))).mono ?_;rintro r w5 ⟨rfl,hb5⟩;exact⟨rfl,hw'.trans (hb5.mono hw'.size)⟩)
       | (go_at_call 196
          refine(CG.out w' hw').mono ?_;rintro r w5 ⟨rfl,hb5⟩;exact⟨rfl,hw'.trans (hb5.mono hw'.size)⟩))
   clear hKq Kq)
  with_reducible refine wpQuiet_nil ?_
  intro w3 hw3;have HB:=ae hw3;clear hw3;go_wp2_with fail;go_ret;exact⟨rfl,HB.out⟩)
theorem Ji(L:List Nat)(F:Nat→Prop)(a:Option Addr)(n c g p d0 d1 room:Nat)(m:dC)(R0 R1:List (List Nat))(fg:FuncId)(cb:Array Value)(cnt:Nat→Nat)(w:World)(h:Sto B w g p d0 d1 room m R0 R1)(hx:(rI L).ok w F [.slice a n c])(hl:L.length=n)(hL:∀x∈L,x≤1)(hn:n≤1000)
 (eg:∀args w,(callFunc fg args).run prog w=.ok (.enter fg args) w)(hp:Ls w fg cb cnt)(hr:∀x,x≤1→R0.length+cnt x≤room∧R1.length+cnt x≤room)(h5:room≤512):
 Calls prog 171 #[.pointer (some ⟨g,0,none⟩),.slice a n c,.func (.func fg) #[] cb] w fun e w'=>e=.returned (.bool true)∧Below w.heap.size w w':=by
 have hb1:=(az w.heap.size w).alloc (ah _) (.cells #[.pointer (some ⟨g,0,none⟩)] 96);have hb2:=hb1.alloc hb1.size (.cells #[.func (.func fg) #[] cb] 229);obtain⟨a',c',e,hrd,-⟩:=dB ((rI L).new hx hb2) hl;injection e with e1 e2 e3;subst e1 e3;have hk1:=(Blk.new w 96 #[.pointer (some ⟨g,0,none⟩)]).alloc (.cells #[.func (.func fg) #[] cb] 229);have hk2:=Blk.new (w.alloc (.cells #[.pointer (some ⟨g,0,none⟩)] 96)) 229 #[.func (.func fg) #[] cb];rw[show(w.alloc (.cells #[.pointer (some ⟨g,0,none⟩)] 96)).heap.size=w.heap.size+1 by simp] at hk2;have hs2:=h.below hb2;have HB2:=ae hb2;generalize hw2:(w.alloc (.cells #[.pointer (some ⟨g,0,none⟩)] 96)).alloc (.cells #[.func (.func fg) #[] cb] 229)=w2 at*
 have CA:=ae (xC (fun _=>false) 240 #[.pointer (some ⟨w.heap.size,0,none⟩),.pointer (some ⟨w.heap.size+1,0,none⟩)] L w2.heap.size a n c w2 hrd (ah _) (by omega) (enters_of func240 (by kernel_rfl) rfl) (fun x hx W hW=>
  Gg x g p d0 d1 room w.heap.size (w.heap.size+1) m R0 R1 fg cb cnt w W (HB2.out.trans (hW.mono HB2.out.size)) (hs2.below hW) (hk1.below hW (Blk.lt hk1)) (hk2.below hW (Blk.lt hk2)) (hL x hx) eg hp (hr x (hL x hx)) h5))
 rw[show(L.any fun _=>false)=false by simp] at CA;have HW2:=ae hw2;clear h hx hl hL hp hr eg hb1 hb2 hk1 hk2 hs2 hrd hw2;go_enter func171,ntmps171;go_wp2_with fail;rw[HW2.out];refine CA.out.mono ?_;rintro e w3 ⟨rfl,hb⟩;have HB3:=ae (HB2.out.trans (hb.mono HB2.out.size));clear hb CA;go_wp2_with fail;go_ret;exact⟨rfl,HB3.out⟩
theorem Gh(L:List Nat)(F:Nat→Prop)(a:Option Addr)(n c g p d0 d1 room:Nat)(m:dC)(R0 R1:List (List Nat))(fg:FuncId)(cb:Array Value)(cnt:Nat→Nat)(w:World)(h:Sto B w g p d0 d1 room m R0 R1)(hx:(rI L).ok w F [.slice a n c])(hl:L.length=n)(hL:∀x∈L,x≤1)(hn:n≤1000)
 (eg:∀args w,(callFunc fg args).run prog w=.ok (.enter fg args) w)(hp:Ls w fg cb cnt)(hr:∀x,x≤1→R0.length+cnt x≤room∧R1.length+cnt x≤room)(h5:room≤512):
 Calls prog 172 #[.pointer (some ⟨g,0,none⟩),.slice a n c,.func (.func fg) #[] cb] w fun e w'=>e=.returned (.int .i64 0)∧Below w.heap.size w w':=by
 have S0:Hid (Sx w w [kJ B g p d0 d1 room m R0 R1,eR F (.slice a n c) (rI L)]):=ae (((Sx.nil w).add (eR F (.slice a n c) (rI L)) hx).add (kJ B g p d0 d1 room m R0 R1) h);have HL:=ae hl;have HLE:=ae hL;have HP:=ae hp;have HR:=ae hr;have HB0:=ae (az w.heap.size w);have CM:=ae fun (x:Nat) (R:List (List Nat)) (o:Option Nat) (dg:Nat) (v1 v2:Value) (w:World) (h:DrR w dg p room R o) (hr:R.length+cnt x≤room)=>FD dg p room (cnt x) R o m v1 v2 w h hr h5;unfold bF at CM;clear h hx hl hL hp hr;go_enter func172,ntmps172;go_wp2_with fail;go_loopw [12] (fun i wr=>∃k:Nat,k≤n∧i=.int .i64 k∧Hid (Below w.heap.size w wr)) (fun i _=>n-(intOf i).toNat)
 case atStart=>exact⟨0,by omega,rfl,HB0⟩
 case round=>
  clear HB0;obtain⟨k,hkn,rfl,HB⟩:=hrel;have S1:=ae (S0.out.step HB.out);by_cases hlt:k<n
  ·have hltI:(k:Int)<(n:Int):=by omega
   have hkl:k<L.length:=(by rw[HL.out];exact hlt);obtain⟨a',c',e,hrd,-⟩:=dB (S1.out.rep 1 rfl) HL.out;injection e with e1 e2 e3;subst e1 e3;obtain⟨b,o,rfl,hb,hcc⟩:=hrd.2 (by omega);have cq:=hcc k _ (bM hkl);have hx:=HLE.out (L.getD k 0) (by rw[af,ag hkl];exact aU hkl);obtain⟨-,vd,vo,hst,-⟩:=S1.out.sto 0 rfl;have HST:=ae hst;clear hst hrd hcc hb hkl;generalize L.getD k 0=x at*
   have CG:Hid (∀W,Below wr.heap.size wr W→Calls prog 114 #[.pointer (some ⟨rT d0 d1 x,0,none⟩),.agg #[.int .i64 m.seq,.int .i64 m.next,.int .i64 m.K,.int .i64 m.H,.int .i64 m.Z,.int .i64 m.extra,vd,vo],.int .i64 (cnt x:Nat)] W fun e w'=>e=.returned (.int .i64 0)∧Below W.heap.size W w'):=ae fun W hW=>by
    obtain⟨-,⟨o0,o1,h0,h1,-⟩,-,-⟩:=((S1.out.step hW).sto 0 rfl).drs;have hx2:x=0∨x=1:=(by omega);rcases hx2 with rfl | rfl
    ·exact CM.out 0 R0 o0 d0 vd vo W h0 (HR.out 0 hx).1
    ·exact CM.out 1 R1 o1 d1 vd vo W h1 (HR.out 1 hx).2
   clear CM S0;have hx2:x=0∨x=1:=(by omega);rcases hx2 with rfl | rfl;have CG0:=CG;clear CG;have CG:Hid (∀W,Below wr.heap.size wr W→Calls prog 114 #[.pointer (some ⟨d0,0,none⟩),.agg #[.int .i64 m.seq,.int .i64 m.next,.int .i64 m.K,.int .i64 m.H,.int .i64 m.Z,.int .i64 m.extra,vd,vo],.int .i64 (cnt 0:Nat)] W fun e w'=>e=.returned (.int .i64 0)∧Below W.heap.size W w'):=CG0
   rotate_left
   have CG0:=CG;clear CG;have CG:Hid (∀W,Below wr.heap.size wr W→Calls prog 114 #[.pointer (some ⟨d1,0,none⟩),.agg #[.int .i64 m.seq,.int .i64 m.next,.int .i64 m.K,.int .i64 m.H,.int .i64 m.Z,.int .i64 m.extra,vd,vo],.int .i64 (cnt 1:Nat)] W fun e w'=>e=.returned (.int .i64 0)∧Below W.heap.size W w'):=CG0
   all_goals(
    go_upto_region 4 with fail;refine bE (by kernel_rfl) (by kernel_rfl) ?_
    iterate 15 (
     with_reducible refine wpQuiet_step (fun Kq hKq=> ?_)
     go_simp
     first
     | refine hKq _ ?_
     | refine⟨_,fun _ _=>rfl,hKq _ ?_⟩
     | (apply Exists.intro
        refine⟨fun w' hw'=> ?_,hKq _ ?_⟩
        ·obtain⟨k0',k1',k2',k3',k4',k5',k6',k7',-,-,k10',k11'⟩:=bP (Blk.below HST.out hw' (Blk.lt HST.out))
         first
         | (go_simp
            first | exact rfl | exact⟨rfl,rfl⟩)
         | (go_at_fn fg
            refine(HP.out _ hx w' (HB.out.trans (hw'.mono HB.out.size))).mono ?_;rintro r w5 ⟨rfl,hb5⟩;exact⟨rfl,hw'.trans (hb5.mono hw'.size)⟩)
         | (go_at_call 114
            refine(CG.out w' hw').mono ?_;rintro r w5 ⟨rfl,hb5⟩;exact⟨rfl,hw'.trans (hb5.mono hw'.size)⟩))
     clear hKq Kq)
    with_reducible refine wpQuiet_nil ?_
    intro w3 hw3;have HB3:=ae (HB.out.trans (hw3.mono HB.out.size));clear hw3 HB CG CG0 S1 HST;go_wp2_with fail;go_roundw
    case rel=>(try((repeat apply Exists.intro);refine⟨?_,rfl⟩));exact⟨k+1,by omega,by go_num,HB3⟩
    case measure=>simp[intOf];omega)
  ·obtain rfl:k=n:=by omega
   go_wp2_with fail;go_ret;exact⟨rfl,HB.out⟩
end
section
variable {B:Nat}
theorem ChgT.ofD{w w':World}(h:ChgD B w w'):ChgT w w':=Chg.mono h fun _ _ hk=>hk.2.elim .inl fun h=>.inr (.inl h)
theorem E8(e:dM)(m m':dC)(g p d0 d1 room:Nat)(R0 R1:List (List Nat))(a1 a2:Option Addr)(n1 c1 c2:Nat)(L:List Nat)(a:Option Addr)(n c:Nat)(w:World)(h:Sto B w g p d0 d1 room m R0 R1)(hB:B≤g∧B≤w.heap.size)
 (hone:m'.objs=[e])(hd:(rI m'.drives).ok w (Fd w) [.slice a1 n1 c1])(hdl:m'.drives.length=n1)(ho:(rS 4 (m'.objs.map bZ)).ok w (Fd w) [.slice a2 1 c2])(hm:lm m')(hp:sK m')
 (hL:(rI L).ok w (Fd w) [.slice a n c])(hll:L.length=n)(h0:0<n)(hn:n≤64)(hL1:∀x∈L,x≤1)(hroom:R0.length+n≤room∧R1.length+n≤room)(hroom2:room≤512):
 Calls prog 173 #[.pointer (some ⟨g,0,none⟩),.agg (bF m' (.slice a1 n1 c1) (.slice a2 1 c2)),.slice a n c] w fun r w'=>r=.returned (.int .i64 0)∧Sto B w' g p d0 d1 room m' (jh (cN m' L) R0) (all1 (cN m' L) R1)∧Below B w w'∧ChgT w w':=by
 have htr8:=qC (hm.2.2.2.2.2.2.1 e (by rw[hone];simp)) hm.2.2.1;have hn64:n1≤64:=by rw[←hdl];exact hm.2.2.2.2.1.2
 have CP:=ae fun w (F:Nat→Prop) (hd:(rI m'.drives).ok w F [.slice a1 n1 c1]) (ho:(rS 4 (m'.objs.map bZ)).ok w F [.slice a2 1 c2]) (hL:(rI L).ok w F [.slice a n c])=>wL m' (by rw[hone];simp) a1 a2 n1 c1 1 c2 F w hd hdl ho (by rw[hone];rfl) hm _ rfl hp.1 hp.2.1 hp.2.2 L a n c hL hll hn;have CO:=ae fun w (hd:(rI m'.drives).ok w (Fd w) [.slice a1 n1 c1]) (ho:(rS 4 (m'.objs.map bZ)).ok w (Fd w) [.slice a2 1 c2])=>Fg m' e hone a1 a2 n1 c1 c2 (Fd w) w hd hdl (by omega) ho (by omega);have hba:=(az w.heap.size w).alloc (ah _) (.cells (bF m' (.slice a1 n1 c1) (.slice a2 1 c2)) 154);have HX0:=ae (Blk.new w 154 (bF m' (.slice a1 n1 c1) (.slice a2 1 c2)));have HS0:=ae (h.below hba);have HD0:=ae ((rI _).fd hd hba);have HO0:=ae ((rS 4 _).fd ho hba);have HL0:=ae ((rI _).fd hL hba);have HBA:=ae (hba.mono hB.2);have HT0:=ae (ChgT.below hba);have HG:=ae hB;have HP64:=ae (sM hp);have HLL:=ae hll;have HL1:=ae hL1;have HRM:=ae hroom;unfold bF at*;clear h hB hone hd hdl ho hm hp hL hll hL1 hroom hba htr8 hn64;go_enter func173,ntmps173;go_wp2_with fail;generalize w.alloc (.cells #[.int .i64 m'.seq,.int .i64 m'.next,.int .i64 m'.K,.int .i64 m'.H,.int .i64 m'.Z,.int .i64 m'.extra,.slice a1 n1 c1,.slice a2 1 c2] 154)=w0 at*;refine(CP.out w0 (Fd w0) HD0.out HO0.out HL0.out).mono ?_;rintro r w1 ⟨v1,rfl,hr1,hb1⟩;obtain⟨ap,np,cp,rfl⟩:=nK hr1
 have hnp:(cN m' L).length=np:=by
  obtain⟨a',n',c',e',_,_,_,h4,_⟩:=hr1;injection e' with e' _;injection e' with _ e2 _;rw[aG] at h4;omega
 have hpn:(cN m' L).length=n:=by unfold cN;rw[aG,HLL.out]
 have HS1:=ae (HS0.out.below hb1);have HX1:=ae (HX0.out.below hb1 HX0.out.lt);have HD1:=ae ((rI _).fd HD0.out hb1);have HO1:=ae ((rS 4 _).fd HO0.out hb1);have HB1:=ae (HBA.out.trans (hb1.mono (aQ HG.out.2 HBA.out.size)));have HT1:=ae (HT0.out.trans (ChgT.below hb1))
 have CA:=ae (lay_all (cN m' L) ap np cp g p d0 d1 room m R0 R1 w1 HS1.out ((rS 2 _).more hr1 fun b hb _=>hb.fd) hnp (by omega) (by omega) (fun x hx=>by
  obtain⟨s,hs,rfl⟩:=List.mem_map.1 hx;exact⟨HL1.out s hs,HP64.out⟩) (by have:=HRM.out;omega) hroom2)
 clear hr1 hb1 hnp hpn HS0 HX0 HD0 HO0 HL0 CP HP64 HLL HL1 HRM;go_wp2_with fail;refine CA.out.mono ?_;rintro r w2 ⟨rfl,hs2,hc2⟩;have HS2:=ae hs2;have HX2:=ae (HX1.out.chg hc2 fun hm=>Md.not (Blk.ty HX1.out) (by decide) (by decide) hm.2);have HD2:=ae ((rI _).chgD HD1.out hc2);have HO2:=ae ((rS 4 _).chgD HO1.out hc2);have HB2:=ae (HB1.out.trans (hc2.lo (aQ HG.out.2 HB1.out.size)));have HT2:=ae (HT1.out.trans (ChgT.ofD hc2));clear hs2 hc2 CA HS1 HX1 HD1 HO1;obtain⟨x0,x1,x2,x3,x4,x5,x6,x7⟩:=dc HX2.out;go_wp2_with fail;refine(CO.out w2 HD2.out HO2.out).mono ?_;rintro r w3 ⟨v3,a3,c3,rfl,ho3,hr3,hb3⟩;have HS3:=ae (HS2.out.below hb3);have HD3:=ae (yu ho3);have HO3:=ae ((rS 4 _).more hr3 fun b hb _=>hb.1);have HB3:=ae (HB2.out.trans (hb3.mono (aQ HG.out.2 HB2.out.size)));have HT3:=ae (HT2.out.trans (ChgT.below hb3));obtain⟨a4,n4,c4,rfl⟩:=ho3.sl;obtain⟨-,vd',vo',hst,-⟩:=id HS3.out;obtain⟨k0,k1,k2,k3,k4,k5,k6,k7,-⟩:=bP hst;have f0:=hst.frozen 0;have f1:=hst.frozen 1;have f2:=hst.frozen 2;have f3:=hst.frozen 3;have f4:=hst.frozen 4;have f5:=hst.frozen 5;have f6:=hst.frozen 6;have f7:=hst.frozen 7;have HST:=ae hst;clear ho3 hr3 hb3 HS2 HX2 HD2 HO2 HB2 CO x0 x1 x2 x3 x4 x5 x6 x7 hst
 have hk8:Blk ((((((((w3.setCell ⟨g,0,none⟩ (.int .i64 m'.seq)).setCell ⟨g,1,none⟩ (.int .i64 m'.next)).setCell ⟨g,2,none⟩ (.int .i64 m'.K)).setCell ⟨g,3,none⟩ (.int .i64 m'.H)).setCell ⟨g,4,none⟩ (.int .i64 m'.Z)).setCell ⟨g,5,none⟩ (.int .i64 m'.extra)).setCell ⟨g,6,none⟩ (.slice a4 n4 c4)).setCell ⟨g,7,none⟩ (.slice a3 1 c3)) g 157 (Ab m' (.slice a4 n4 c4) (.slice a3 1 c3) p d0 d1):=by
  have h:=((((((((HST.out.set 0 (.int .i64 m'.seq)).set 1 (.int .i64 m'.next)).set 2 (.int .i64 m'.K)).set 3 (.int .i64 m'.H)).set 4 (.int .i64 m'.Z)).set 5 (.int .i64 m'.extra)).set 6 (.slice a4 n4 c4)).set 7 (.slice a3 1 c3));unfold Ab bF at h ⊢;rw[Array.append_assoc,MC,←Array.append_assoc] at h;exact h
 have hc8:Chg (·=g) w3 ((((((((w3.setCell ⟨g,0,none⟩ (.int .i64 m'.seq)).setCell ⟨g,1,none⟩ (.int .i64 m'.next)).setCell ⟨g,2,none⟩ (.int .i64 m'.K)).setCell ⟨g,3,none⟩ (.int .i64 m'.H)).setCell ⟨g,4,none⟩ (.int .i64 m'.Z)).setCell ⟨g,5,none⟩ (.int .i64 m'.extra)).setCell ⟨g,6,none⟩ (.slice a4 n4 c4)).setCell ⟨g,7,none⟩ (.slice a3 1 c3)):=(((((((((Chg.refl (·=g) w3).set ⟨g,0,none⟩ (.int .i64 m'.seq) fun _=>rfl).set ⟨g,1,none⟩ (.int .i64 m'.next) fun _=>rfl).set ⟨g,2,none⟩ (.int .i64 m'.K) fun _=>rfl).set ⟨g,3,none⟩ (.int .i64 m'.H) fun _=>rfl).set ⟨g,4,none⟩ (.int .i64 m'.Z) fun _=>rfl).set ⟨g,5,none⟩ (.int .i64 m'.extra) fun _=>rfl).set ⟨g,6,none⟩ (.slice a4 n4 c4) fun _=>rfl).set ⟨g,7,none⟩ (.slice a3 1 c3) fun _=>rfl);have HS8:=ae (HS3.out.other hc8 hk8 HD3.out HO3.out);have HT8:=ae (HT3.out.trans (Chg.mono hc8 fun k _ e=>by subst e;exact .inr (.inr (Blk.ty HST.out))));have HB8:=ae (HB3.out.trans (hc8.below (aQ HG.out.2 HB3.out.size) fun k e=>by rw[e];exact HG.out.1));clear hk8 hc8 HS3 HD3 HO3 HB3 HST;go_wp2_with fail;go_ret;exact⟨rfl,HS8.out,HB8.out,HT8.out⟩
end
end Go.Proofs.YtofgapdnadbgkaaGreatDoor
