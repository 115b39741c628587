import Derived.Test.YtgccllbnfngpcaaGreatDoorW7
import Derived.Laws.Cover3
set_option linter.unusedVariables false
set_option maxRecDepth 100000
set_option maxHeartbeats 400000000
namespace Go.Proofs.YtgccllbnfngpcaaGreatDoor
open Go.RowKit _root_.Go.Proofs.Tryz List
open Value (int slice pointer bool)
open IntKind (i64)
open Ending (returned)
open Obj (cells)
def qV(l:List Nat):List Value:=l.map fun x:Nat=>Value.int .u8 x
def jb(l:List Nat):Array Value:=(qV l).toArray
theorem uw{l:List Nat}{i:Nat}(h:i<l.length):(qV l)[i]? =some (.int .u8 (l.getD i 0:Nat)):=by
 unfold qV;rw[List.getElem?_map,ag h,af,ag h];rfl
theorem zP(l:List Nat)(i x:Nat):(jb l).setIfInBounds i (.int .u8 (x:Nat))=jb (l.set i x):=by
 apply Array.ext';simp[jb,qV]
theorem Ot(n:Nat):madeCells #[Value.int .u8 0] n=jb (replicate n 0):=by
 apply Array.ext (by rw[size_madeCells];simp[jb,qV]);intro i h1 h2;rw[size_madeCells] at h1;simp[jb,qV,madeCells,Nat.mod_one]
theorem iU{w:World}{g:Nat}{t:TypeId}{x y z:Value}(h:Blk w g t #[x,y,z]):w.cell? ⟨g,0,none⟩=some x/\w.cell? ⟨g,1,none⟩=some y/\w.cell? ⟨g,2,none⟩=some z:=⟨h.cell 0,h.cell 1,h.cell 2⟩
theorem LU{K H S s id:Int}(h:¬(eD K H S/\0<=id/\id<=65535)):ib K H S s id=[]:=by unfold ib;rw[bg h]
theorem sM{K H S:Int}(h:eD K H S=true):∃n:Nat,iE K H S=(n:Int)/\K+H=(n:Int)/\2<=n/\n<=20:=by
 have h1:=aZ h;obtain⟨n,hn⟩:=Int.eq_ofNat_of_zero_le (a:=K+H) (by omega);exact⟨n,by unfold iE;rw[bf h];exact hn,hn,by omega,by omega⟩
theorem FR{K H S id:Int}(h:¬(eD K H S/\0<=id/\id<=65535)):eD K H S=false\/(eD K H S=true/\id<0)\/(eD K H S=true/\¬id<0/\65535<id):=by
 cases hk:eD K H S with
 | false=>exact .inl rfl
 | true=>
   right;by_cases h0:id<0
   ·exact .inl ⟨rfl,h0⟩
   ·exact .inr ⟨rfl,h0,by
     by_cases h1:65535<id
     ·exact h1
     ·exact absurd ⟨hk,by omega,by omega⟩ h⟩
theorem Cb(K H S s id:Int)(w:World)(h:¬(eD K H S/\0<=id/\id<=65535)):
 Calls prog 176 #[cE K H S,.int .u32 s,int i64 id] w fun e w'=>e=returned (slice none 0 0)/\Below w.heap.size w w':=by
 have CM:=ae fun w=>fS K H S w;have HB0:=ae ((az w.heap.size w).alloc (ah _) (cells #[int i64 K,int i64 H,int i64 S] 25));unfold cE at CM ⊢;rcases FR h with h1 | ⟨h1,h2⟩ | ⟨h1,h2,h3⟩
 all_goals(
  rw[h1] at CM;clear h h1;go_enter func176,ntmps176;go_wp2_with fail;generalize w.alloc (cells #[int i64 K,int i64 H,int i64 S] 25)=w0 at*;refine(CM.out _).mono ?_;rintro e w1 ⟨rfl,hb⟩;have HB:=ae (HB0.out.trans (hb.mono HB0.out.size));clear hb CM;go_wp2_with fail;go_ret;exact⟨rfl,HB.out⟩)
theorem qW(id:Int)(w:World):
 Calls prog 212 #[int i64 id] w fun e w'=>e=returned (bool (decide (0<=id/\id<=65535)))/\w=w':=by
 by_cases h1:0<=id
 ·by_cases h2:id<=65535
  ·have e:decide (0<=id/\id<=65535)=true:=ba ⟨h1,h2⟩
   rw[e];clear e;go_enter func212,ntmps212;go_wp2_with fail;go_ret;exact⟨rfl,rfl⟩
  ·have e:decide (0<=id/\id<=65535)=false:=decide_eq_false fun h=>h2 h.2
   rw[e];clear e;go_enter func212,ntmps212;go_wp2_with fail;go_ret;exact⟨rfl,rfl⟩
 ·have e:decide (0<=id/\id<=65535)=false:=decide_eq_false fun h=>h1 h.1
  rw[e];clear e;go_enter func212,ntmps212;go_wp2_with fail;go_ret;exact⟨rfl,rfl⟩
theorem zQ{w:World}{C n:Nat}{v:Value}(h:OwnI w C v (fe n))(h1:1<=n)(h2:n<=64):∃g c,v=slice (some ⟨g,0,none⟩) n c/\C<=g/\g<w.heap.size/\Rd w w.heap.size (some ⟨g,0,none⟩) n (bG (fe n))/\(fe n).length=n:=by
 have hl:(fe (n:Int)).length=n:=by rw[tz ⟨h1,h2⟩,eZ]
 obtain⟨a,c,rfl,hr⟩:=h.rd;rw[hl] at h hr ⊢;obtain⟨g,rfl,hg1,hg2⟩:=h.formA hl (by omega);exact⟨g,c,rfl,hg1,hg2,hr,rfl⟩
theorem rT(K H S s id:Int)(w:World)(hk:eD K H S=true)(h0:0<=id)(h1:id<=65535)(hs0:0<=s)(hs1:s<4294967296):
 Calls prog 176 #[cE K H S,.int .u32 s,int i64 id] w fun e w'=>∃v,e=returned v/\OwnI w' w.heap.size v (rE (K+H) (iH (jF s id)))/\Below w.heap.size w w':=by
 obtain⟨n,hn1,hn2,hn3,hn4⟩:=sM hk;have CM:=ae fun w=>fS K H S w;have HB0:=ae ((az w.heap.size w).alloc (ah _) (cells #[int i64 K,int i64 H,int i64 S] 25));have HX0:=ae (Blk.new w 25 #[int i64 K,int i64 H,int i64 S]);have CC:=ae fun w=>mE K H S w;rw[hk] at CM;rw[hn1] at CC;rw[hn2];have hbd:=Kc id hs0 hs1;have hid0:¬id<0:=by omega
 have hid1:¬65535<id:=by omega
 have hsd:bits .xor .u32 s (IntKind.u32.wrap (id%4294967296*2654435761))=jF s id:=rfl;have hsd2:bits .xor .u32 s (IntKind.u32.wrap (id*2654435761))=jF s id:=by unfold jF vh;rw[show id%4294967296=id by omega]
 have hsd3:bits .xor .u32 s (id*2654435761%4294967296)=jF s id:=by unfold jF vh;rw[show id%4294967296=id by omega,IntKind.wrap_u32]
 unfold cE at CM CC ⊢;unfold rE;have HBD:=ae hbd;have HN:=ae (And.intro hn3 hn4);have hn64:n<=64:=by omega
 clear hk hn1 hn2 hn3 hn4 hs0 hs1 hbd;generalize jF s id=sd at*;go_enter func176,ntmps176;go_wp2_with fail;generalize w.alloc (cells #[int i64 K,int i64 H,int i64 S] 25)=w0 at*;refine(CM.out _).mono ?_;rintro e w1 ⟨rfl,hb⟩;have HB1:=ae (HB0.out.trans (hb.mono HB0.out.size));have HX1:=ae (HX0.out.below hb HX0.out.lt);obtain⟨k0,k1,k2⟩:=iU HX1.out;clear hb CM HB0 HX0;go_wp2_with fail;refine(CC.out _).mono ?_;rintro e w2 ⟨rfl,hb⟩;have HB2:=ae (HB1.out.trans (hb.mono HB1.out.size));clear hb CC HB1;go_wp2_with fail;refine(JK sd w2 HBD.out.1 (by have:=HBD.out.2;omega)).mono ?_;rintro e w3 ⟨rfl,rfl⟩;have HA3:=ae (At.new w2 (.int .u64 sd) 371);have HB3:=ae (HB2.out.alloc HB2.out.size (cells #[.int .u64 sd] 371));have hB:w.heap.size<=w2.heap.size:=HB2.out.size;clear HB2;generalize w2.alloc (cells #[.int .u64 sd] 371)=w3 at*;generalize w2.heap.size=B at*;go_wp2_with fail;refine(xm sd ⟨B,0,none⟩ w3 HA3.out.1 HA3.out.2).mono ?_;rintro e w4 ⟨rfl,rfl⟩;have HA4:=ae (HA3.out.put (.int .u64 (iH sd)));have HB4:=ae (HB3.out.setCell (p:=⟨B,0,none⟩) hB (.int .u64 (iH sd)));clear HA3 HB3;generalize w3.setCell ⟨B,0,none⟩ (.int .u64 (iH sd))=w4 at*;have hBlt:B<w4.heap.size:=HA4.out.lt;go_wp2_with fail;refine(Hy n (by omega) w4).mono ?_;rintro e w5 ⟨v,rfl,hT,hb5⟩;obtain⟨g,c,rfl,hg1,hg2,hr,hl⟩:=zQ hT (by have:=HN.out;omega) (by have:=HN.out;omega);have HR:=ae hr;have HL:=ae hl;have HA5:=ae (HA4.out.below hb5 hBlt);have HB5:=ae (HB4.out.trans (hb5.mono HB4.out.size));have HSM:=ae (xk n);clear hT hr hl hb5 HA4 HB4 hg2;go_wp2_with fail;refine(JI (fe n) w5.heap.size (some ⟨g,0,none⟩) n c (iH sd) ⟨B,0,none⟩ w5 HR.out HL.out (by omega) HSM.out HA5.out.1 HA5.out.2 (.inr ⟨g,0,rfl,by show g≠B;omega⟩)).mono ?_;rintro e w6 ⟨rfl,rfl⟩;have HA6:=ae (HA5.out.put (.int .u64 (gN (fe n) (iH sd))));have HB6:=ae (HB5.out.setCell (p:=⟨B,0,none⟩) hB (.int .u64 (gN (fe n) (iH sd))));clear HA5 HB5 HR HL;generalize w5.setCell ⟨B,0,none⟩ (.int .u64 (gN (fe n) (iH sd)))=w6 at*;go_wp2_with fail;refine(Ml B 0 (gN (fe n) (iH sd)) n (kH (fe n) (iH sd)) w6 HA6.out).mono ?_;rintro e w7 ⟨v,rfl,hO,hb7⟩;obtain⟨a7,c7,rfl⟩:=hO.lenA;have HO:=ae hO;have HB7:=ae (Aft.below HA6.out hb7 HB6.out hB);have hsz:w.heap.size<=w6.heap.size:=HB6.out.size;clear hO hb7;go_wp2_with fail;go_ret;exact⟨_,rfl,HO.out.base hsz,HB7.out⟩
theorem Cc(K H S s id:Int)(w:World)(hk:eD K H S=true)(h0:0<=id)(h1:id<=65535)(hs0:0<=s)(hs1:s<4294967296):
 Calls prog 268 #[cE K H S,.int .u32 s,int i64 id] w fun e w'=>∃v,e=returned v/\OwnI w' w.heap.size v (rE (K+H) (iH (jF s id)))/\Below w.heap.size w w':=by
 obtain⟨n,hn1,hn2,hn3,hn4⟩:=sM hk;have CM:=ae fun w=>ni K H S w;have HB0:=ae ((az w.heap.size w).alloc (ah _) (cells #[int i64 K,int i64 H,int i64 S] 25));have HX0:=ae (Blk.new w 25 #[int i64 K,int i64 H,int i64 S]);have CC:=ae fun w=>uU K H S w;have CI:=ae fun w=>qW id w;rw[hk] at CM;rw[hn1] at CC;rw[hn2];rw[ba ⟨h0,h1⟩] at CI;have hbd:=Kc id hs0 hs1;have hsd:bits .xor .u32 s (IntKind.u32.wrap (id%4294967296*2654435761))=jF s id:=rfl;have hsd2:bits .xor .u32 s (IntKind.u32.wrap (id*2654435761))=jF s id:=by unfold jF vh;rw[show id%4294967296=id by omega]
 have hsd3:bits .xor .u32 s (id*2654435761%4294967296)=jF s id:=by unfold jF vh;rw[show id%4294967296=id by omega,IntKind.wrap_u32]
 have hw1:IntKind.u64.wrap (jF s id)=jF s id:=by rw[IntKind.wrap_u64];omega
 have hw2:jF s id%18446744073709551616=jF s id:=by omega
 unfold cE at CM CC ⊢;unfold rE;have HBD:=ae hbd;have HN:=ae (And.intro hn3 hn4);have hn64:n<=64:=by omega
 clear hk hn1 hn2 hn3 hn4 hs0 hs1 hbd;generalize jF s id=sd at*;go_enter func268,ntmps268;go_wp2_with fail;generalize w.alloc (cells #[int i64 K,int i64 H,int i64 S] 25)=w0 at*;refine(CM.out _).mono ?_;rintro e w1 ⟨rfl,hb⟩;have HB1:=ae (HB0.out.trans (hb.mono HB0.out.size));have HX1:=ae (HX0.out.below hb HX0.out.lt);obtain⟨k0,k1,k2⟩:=iU HX1.out;clear hb CM HB0 HX0;go_wp2_with fail;refine(CI.out _).mono ?_;rintro e w2 ⟨rfl,rfl⟩;clear CI;go_wp2_with fail;rename World=>w2;have HA3:=ae (At.new w2 (.int .u64 sd) 397);have HB3:=ae (HB1.out.alloc HB1.out.size (cells #[.int .u64 sd] 397));have hB:w.heap.size<=w2.heap.size:=HB1.out.size;have hPB:w.heap.size<w2.heap.size:=HX1.out.lt;have HX3:=ae (HX1.out.alloc (cells #[.int .u64 sd] 397));clear HB1 k0 k1 k2 HX1;generalize w2.alloc (cells #[.int .u64 sd] 397)=w3 at*;generalize w2.heap.size=B at*;refine(uJ sd ⟨B,0,none⟩ w3 HA3.out.1 HA3.out.2).mono ?_;rintro e w4 ⟨rfl,rfl⟩;have HA4:=ae (HA3.out.put (.int .u64 (iH sd)));have HB4:=ae (HB3.out.setCell (p:=⟨B,0,none⟩) hB (.int .u64 (iH sd)));have HX4:=ae (HX3.out.far (p:=⟨B,0,none⟩) (by show w.heap.size≠B;omega) (.int .u64 (iH sd)));clear HA3 HB3 HX3;generalize w3.setCell ⟨B,0,none⟩ (.int .u64 (iH sd))=w4 at*;have hBlt:B<w4.heap.size:=HA4.out.lt;obtain⟨k0,k1,k2⟩:=iU HX4.out;go_wp2_with fail;refine(CC.out _).mono ?_;rintro e w4b ⟨rfl,hb⟩;have HA4b:=ae (HA4.out.below hb hBlt);have HB4b:=ae (HB4.out.trans (hb.mono HB4.out.size));have hBlt:=HA4b.out.lt;have HX4b:=ae (HX4.out.below hb HX4.out.lt);clear HA4 HB4 hb HX4 k0 k1 k2;go_wp2_with fail;refine(FK n (by omega) w4b).mono ?_;rintro e w5 ⟨v,rfl,hT,hb5⟩;obtain⟨g,c,rfl,hg1,hg2,hr,hl⟩:=zQ hT (by have:=HN.out;omega) (by have:=HN.out;omega);have HR:=ae hr;have HL:=ae hl;have HA5:=ae (HA4b.out.below hb5 hBlt);have HB5:=ae (HB4b.out.trans (hb5.mono HB4b.out.size));have HSM:=ae (xk n);have HDT:=ae (JH n (iH sd));have HX5:=ae (HX4b.out.below hb5 HX4b.out.lt);clear hT hr hl hb5 HA4b HB4b hg2 HX4b;go_wp2_with fail;refine(uI (fe n) w5.heap.size (some ⟨g,0,none⟩) n c (iH sd) ⟨B,0,none⟩ w5 HR.out HL.out (by omega) HSM.out HA5.out.1 HA5.out.2 (.inr ⟨g,0,rfl,by show g≠B;omega⟩)).mono ?_;rintro e w6 ⟨rfl,rfl⟩;rw[<-HDT.out];have HA6:=ae (HA5.out.put (.int .u64 (gN (fe n) (iH sd))));have HB6:=ae (HB5.out.setCell (p:=⟨B,0,none⟩) hB (.int .u64 (gN (fe n) (iH sd))));have HX6:=ae (HX5.out.far (p:=⟨B,0,none⟩) (by show w.heap.size≠B;omega) (.int .u64 (gN (fe n) (iH sd))));obtain⟨k0,k1,k2⟩:=iU HX6.out;clear HA5 HB5 HR HL HX5;generalize w5.setCell ⟨B,0,none⟩ (.int .u64 (gN (fe n) (iH sd)))=w6 at*
 clear HDT HSM;go_wp2_with fail;refine(CC.out _).mono ?_;rintro e w6b ⟨rfl,hb⟩;have HA6b:=ae (HA6.out.below hb HA6.out.lt);have HB6b:=ae (HB6.out.trans (hb.mono HB6.out.size));clear HA6 HB6 hb;go_wp2_with fail;refine(Mm B 0 (gN (fe n) (iH sd)) n (kH (fe n) (iH sd)) w6b HA6b.out).mono ?_;rintro e w7 ⟨v,rfl,hO,hb7⟩;obtain⟨a7,c7,rfl⟩:=hO.lenA;have HO:=ae hO;have HB7:=ae (Aft.below HA6b.out hb7 HB6b.out hB);have hsz:w.heap.size<=w6b.heap.size:=HB6b.out.size;clear hO hb7;go_wp2_with fail;go_ret;exact⟨_,rfl,HO.out.base hsz,HB7.out⟩
theorem yu(K H S s id:Int)(w:World)(hs0:0<=s)(hs1:s<4294967296):
 Calls prog 176 #[cE K H S,.int .u32 s,int i64 id] w fun e w'=>∃v,e=returned v/\OwnI w' w.heap.size v (ib K H S s id)/\Below w.heap.size w w':=by
 by_cases h:eD K H S/\0<=id/\id<=65535
 ·have e:ib K H S s id=rE (K+H) (iH (jF s id)):=by unfold ib;rw[bf h]
  rw[e];exact rT K H S s id w h.1 h.2.1 h.2.2 hs0 hs1
 ·rw[LU h]
  exact(Cb K H S s id w h).mono fun e w' ⟨h1,h2⟩=>⟨_,h1,OwnI.nil _ _,h2⟩
theorem infoY:(prog.info? 5).map (fun i=>(i.zero,i.size,i.bytes))=some (some (.int .u8 0),1,1):=by kernel_rfl
theorem I8{n:Nat}(hn:n<=1000000)(w:World):(Instr.makeSlice 30 (int i64 (n:Int)) (int i64 (n:Int))).run prog w=.ok (slice (some ⟨w.heap.size,0,none⟩) n n) (w.alloc (cells (jb (replicate n 0)) 5)):=by
 obtain⟨i0,hi,hz0,hz1,hz2⟩:=info_parts infoY;have h:=run_make (P:=prog) w 30 5 i0 (.int .u8 0) underlying30 hi hz0 .i64 .i64 (n:Int) (n:Int) (by omega) (by omega) (by rw[hz2];omega) (by omega);rw[hz1,Nat.mul_one,Int.toNat_natCast] at h;rw[<-Ot];exact h
theorem OwnI.far{w:World}{C:Nat}{v:Value}{l:List Nat}(h:OwnI w C v l){B:Nat}(hB:B<C)(i:Nat)(u:Value):OwnI (w.setCell ⟨B,i,none⟩ u) C v l:=by
 have hg:w.grownBy (w.setCell ⟨B,i,none⟩ u) (some B):=⟨rfl,rfl,rfl,by simp,fun k _ hk=>heap_setCell_other w ⟨B,i,none⟩ k u (fun e=>hk (by rw[e]))⟩;refine World.ownsRow.kept h hg ?_;cases hv:v.ownBlock with
 | none=>exact .inl rfl
 | some b=>
   right;intro e;have:=(OwnI.ltA h b hv).1;injection e with e;omega
theorem Ce(K H S s id:Int)(w:World)(hk:eD K H S=true)(h0:0<=id)(h1:id<=65535)(hs0:0<=s)(hs1:s<4294967296):
 Calls prog 277 #[cE K H S,.int .u32 s,int i64 id] w fun e w'=>∃g n,e=returned (slice (some ⟨g,0,none⟩) n n)/\Blk w' g 5 (jb (pI (K+H).toNat (rE (K+H) (iH (jF s id)))))/\(K+H).toNat=n/\Below w.heap.size w w':=by
 obtain⟨n,hn1,hn2,hn3,hn4⟩:=sM hk;have CM:=ae fun w=>fS K H S w;have HB0:=ae ((az w.heap.size w).alloc (ah _) (cells #[int i64 K,int i64 H,int i64 S] 25));have HX0:=ae (Blk.new w 25 #[int i64 K,int i64 H,int i64 S]);have CC:=ae fun w=>mE K H S w;have CL:=ae fun w=>rT K H S s id w hk h0 h1 hs0 hs1;rw[hk] at CM;rw[hn1] at CC;rw[hn2] at CL ⊢;rw[Int.toNat_natCast];have hn64:n<=64:=by omega
 obtain⟨-,hlt,-⟩:=yY (n:=n) (by omega) hn64 (iH (jF s id));have hll:=yX n (iH (jF s id));have hid0:¬id<0:=by omega
 have hid1:¬65535<id:=by omega
 have hmk:=I8 (n:=n) (by omega);unfold cE at CM CC CL ⊢;have HLT:=ae hlt;clear hk hn1 hn2 hn3 hn4 hs0 hs1 hlt;generalize rE (n:Int) (iH (jF s id))=L at*;obtain⟨q,hq⟩:∃q,L.length=q:=⟨_,rfl⟩;have HQ:=ae hq;rw[hq] at hll;clear hq;go_enter func277,ntmps277;go_wp2_with fail;generalize w.alloc (cells #[int i64 K,int i64 H,int i64 S] 25)=w0 at*;refine(CM.out _).mono ?_;rintro e w1 ⟨rfl,hb⟩;have HB1:=ae (HB0.out.trans (hb.mono HB0.out.size));have HX1:=ae (HX0.out.below hb HX0.out.lt);obtain⟨k0,k1,k2⟩:=iU HX1.out;clear hb CM HB0 HX0;go_wp2_with fail;refine(CC.out _).mono ?_;rintro e w2 ⟨rfl,hb⟩;have HB2:=ae (HB1.out.trans (hb.mono HB1.out.size));have HX2:=ae (HX1.out.below hb HX1.out.lt);clear hb CC HB1 k0 k1 k2;obtain⟨k0,k1,k2⟩:=iU HX2.out;obtain⟨m0,m1,m2⟩:=iU (HX2.out.alloc (cells (jb (replicate n 0)) 5))
 go_wp2_with (simp only[])
 have HK3:Hid (Blk (w2.alloc (cells (jb (replicate n 0)) 5)) w2.heap.size 5 (jb (pI n (L.take 0)))):=ae (Blk.new w2 5 (jb (replicate n 0)));have HB3:=ae (HB2.out.alloc HB2.out.size (cells (jb (replicate n 0)) 5));have hB:w.heap.size<=w2.heap.size:=HB2.out.size;clear HB2 hmk k0 k1 k2 m0 m1 m2;generalize w2.alloc (cells (jb (replicate n 0)) 5)=w3 at*;generalize w2.heap.size=B at*;have hBlt:B<w3.heap.size:=HK3.out.lt;refine(CL.out w3).mono ?_;rintro e w4 ⟨v,rfl,hO,hb⟩;obtain⟨aL,cL,rfl⟩:=hO.lenA;rw[HQ.out] at hO ⊢;have HO4:=ae hO;have HK4:=ae (HK3.out.below hb hBlt);have HB4:=ae (HB3.out.trans (hb.mono HB3.out.size));generalize w3.heap.size=C at*;clear hO hb HK3 HB3 CL;generalize hG:w.heap.size=G at*;have HG:=ae hG;clear hG;go_wp2_with fail;go_loopw [29] (fun i wr=>∃k:Nat,k<=q/\i=int i64 k/\Hid (Blk wr B 5 (jb (pI n (L.take k))))/\Hid (OwnI wr C (slice aL q cL) L)/\Hid (Below G w wr)) (fun i _=>q-(intOf i).toNat)
 case atStart=>exact⟨0,by omega,rfl,HK4,HO4,HB4⟩
 case round=>
  clear HK4 HO4 HB4;obtain⟨k,hk,rfl,HK,HO,HB⟩:=hrel;by_cases hkq:k<q
  ·have hkqI:(k:Int)<(q:Int):=by omega
   have hkL:k<L.length:=(by rw[HQ.out];exact hkq);obtain⟨g,rfl,hg1,hg2⟩:=HO.out.formA HQ.out (by omega);obtain⟨hcx,-⟩:=HO.out.cellA HQ.out hkq;have hxn:L.getD k 0<n:=HLT.out _ (by rw[getD_at hkL];exact aP hkL);have HTK:Hid (pI n (L.take (k+1))=(pI n (L.take k)).set (L.getD k 0) 1):=ae (by rw[aN hkL,AP,getD_at hkL]);have hlen:=sW n (L.take k);generalize hX:L.getD k 0=x at*;clear hX
   have hcell:wr.cell? ⟨B,x,none⟩=some (.int .u8 ((pI n (L.take k)).getD x 0:Nat)):=by
    rw[HK.out.cell x];have:=uw (l:=pI n (L.take k)) (i:=x) (by rw[hlen];exact hxn);simpa[jb] using this
   have hfr:=HK.out.frozen x;have hst:=HK.out.set x (.int .u8 ((1:Nat):Int));rw[zP,<-HTK.out] at hst;have HK2:Hid (Blk (wr.setCell ⟨B,x,none⟩ (.int .u8 1)) B 5 (jb (pI n (L.take (k+1))))):=ae hst;have HO2:Hid (OwnI (wr.setCell ⟨B,x,none⟩ (.int .u8 1)) C (slice (some ⟨g,0,none⟩) q cL) L):=ae (HO.out.far hBlt x (.int .u8 1));have HB2:Hid (Below G w (wr.setCell ⟨B,x,none⟩ (.int .u8 1))):=ae (HB.out.setCell (p:=⟨B,x,none⟩) hB _);have hxnI:(x:Int)<(n:Int):=(by omega);clear hst HTK hlen HK HO HB hkL;generalize (pI n (L.take k)).getD x 0=y at*;go_wp2_with fail;go_roundw
   case rel=>exact⟨k+1,by omega,by go_num,HK2,HO2,HB2⟩
   case measure=>simp[intOf];omega
  ·obtain rfl:k=q:=by omega
   rw[aJ (by rw[HQ.out];exact ah _)] at HK;go_wp2_with fail;go_ret;exact⟨_,_,rfl,HK.out,rfl,by rw[HG.out];exact HB.out⟩
theorem zR(K H S s id:Int)(w:World)(hk:eD K H S=true)(h0:0<=id)(h1:id<=65535)(hs0:0<=s)(hs1:s<4294967296):
 Calls prog 213 #[cE K H S,.int .u32 s,int i64 id] w fun e w'=>∃g n,e=returned (slice (some ⟨g,0,none⟩) n n)/\Blk w' g 5 (jb (pI (K+H).toNat (rE (K+H) (iH (jF s id)))))/\(K+H).toNat=n/\Below w.heap.size w w':=by
 obtain⟨n,hn1,hn2,hn3,hn4⟩:=sM hk;have CM:=ae fun w=>ni K H S w;have HB0:=ae ((az w.heap.size w).alloc (ah _) (cells #[int i64 K,int i64 H,int i64 S] 25));have HX0:=ae (Blk.new w 25 #[int i64 K,int i64 H,int i64 S]);have CC:=ae fun w=>uU K H S w;have CL:=ae fun w=>Cc K H S s id w hk h0 h1 hs0 hs1;have CI:=ae fun w=>qW id w;rw[ba ⟨h0,h1⟩] at CI;rw[hk] at CM;rw[hn1] at CC;rw[hn2] at CL ⊢;rw[Int.toNat_natCast];have hn64:n<=64:=by omega
 obtain⟨-,hlt,-⟩:=yY (n:=n) (by omega) hn64 (iH (jF s id));have hll:=yX n (iH (jF s id));have hid0:¬id<0:=by omega
 have hid1:¬65535<id:=by omega
 have hmk:=I8 (n:=n) (by omega);unfold cE at CM CC CL ⊢;have HLT:=ae hlt;clear hk hn1 hn2 hn3 hn4 hs0 hs1 hlt;generalize rE (n:Int) (iH (jF s id))=L at*;obtain⟨q,hq⟩:∃q,L.length=q:=⟨_,rfl⟩;have HQ:=ae hq;rw[hq] at hll;clear hq;go_enter func213,ntmps213;go_wp2_with fail;generalize w.alloc (cells #[int i64 K,int i64 H,int i64 S] 25)=w0 at*;refine(CM.out _).mono ?_;rintro e w1 ⟨rfl,hb⟩;have HB1:=ae (HB0.out.trans (hb.mono HB0.out.size));have HX1:=ae (HX0.out.below hb HX0.out.lt);obtain⟨k0,k1,k2⟩:=iU HX1.out;clear hb CM HB0 HX0;go_wp2_with fail;refine(CI.out _).mono ?_;rintro e w1b ⟨rfl,rfl⟩;clear CI;go_wp2_with fail;refine(CC.out _).mono ?_;rintro e w2 ⟨rfl,hb⟩;have HB2:=ae (HB1.out.trans (hb.mono HB1.out.size));have HX2:=ae (HX1.out.below hb HX1.out.lt);clear hb CC HB1 k0 k1 k2;obtain⟨k0,k1,k2⟩:=iU HX2.out;obtain⟨m0,m1,m2⟩:=iU (HX2.out.alloc (cells (jb (replicate n 0)) 5))
 go_wp2_with (simp only[])
 have HK3:Hid (Blk (w2.alloc (cells (jb (replicate n 0)) 5)) w2.heap.size 5 (jb (pI n (L.take 0)))):=ae (Blk.new w2 5 (jb (replicate n 0)));have HB3:=ae (HB2.out.alloc HB2.out.size (cells (jb (replicate n 0)) 5));have hB:w.heap.size<=w2.heap.size:=HB2.out.size;clear HB2 hmk k0 k1 k2 m0 m1 m2;generalize w2.alloc (cells (jb (replicate n 0)) 5)=w3 at*;generalize w2.heap.size=B at*;have hBlt:B<w3.heap.size:=HK3.out.lt;refine(CL.out w3).mono ?_;rintro e w4 ⟨v,rfl,hO,hb⟩;obtain⟨aL,cL,rfl⟩:=hO.lenA;rw[HQ.out] at hO ⊢;have HO4:=ae hO;have HK4:=ae (HK3.out.below hb hBlt);have HB4:=ae (HB3.out.trans (hb.mono HB3.out.size));generalize w3.heap.size=C at*;clear hO hb HK3 HB3 CL;generalize hG:w.heap.size=G at*;have HG:=ae hG;clear hG;go_wp2_with fail;go_loopw [26] (fun i wr=>∃k:Nat,k<=q/\i=int i64 k/\Hid (Blk wr B 5 (jb (pI n (L.take k))))/\Hid (OwnI wr C (slice aL q cL) L)/\Hid (Below G w wr)) (fun i _=>q-(intOf i).toNat)
 case atStart=>exact⟨0,by omega,rfl,HK4,HO4,HB4⟩
 case round=>
  clear HK4 HO4 HB4;obtain⟨k,hk,rfl,HK,HO,HB⟩:=hrel;by_cases hkq:k<q
  ·have hkqI:(k:Int)<(q:Int):=by omega
   have hkL:k<L.length:=(by rw[HQ.out];exact hkq);obtain⟨g,rfl,hg1,hg2⟩:=HO.out.formA HQ.out (by omega);obtain⟨hcx,-⟩:=HO.out.cellA HQ.out hkq;have hxn:L.getD k 0<n:=HLT.out _ (by rw[getD_at hkL];exact aP hkL);have HTK:Hid (pI n (L.take (k+1))=(pI n (L.take k)).set (L.getD k 0) 1):=ae (by rw[aN hkL,AP,getD_at hkL]);have hlen:=sW n (L.take k);generalize hX:L.getD k 0=x at*;clear hX
   have hcell:wr.cell? ⟨B,x,none⟩=some (.int .u8 ((pI n (L.take k)).getD x 0:Nat)):=by
    rw[HK.out.cell x];have:=uw (l:=pI n (L.take k)) (i:=x) (by rw[hlen];exact hxn);simpa[jb] using this
   have hfr:=HK.out.frozen x;have hst:=HK.out.set x (.int .u8 ((1:Nat):Int));rw[zP,<-HTK.out] at hst;have HK2:Hid (Blk (wr.setCell ⟨B,x,none⟩ (.int .u8 1)) B 5 (jb (pI n (L.take (k+1))))):=ae hst;have HO2:Hid (OwnI (wr.setCell ⟨B,x,none⟩ (.int .u8 1)) C (slice (some ⟨g,0,none⟩) q cL) L):=ae (HO.out.far hBlt x (.int .u8 1));have HB2:Hid (Below G w (wr.setCell ⟨B,x,none⟩ (.int .u8 1))):=ae (HB.out.setCell (p:=⟨B,x,none⟩) hB _);have hxnI:(x:Int)<(n:Int):=(by omega);clear hst HTK hlen HK HO HB hkL;generalize (pI n (L.take k)).getD x 0=y at*;go_wp2_with fail;go_roundw
   case rel=>exact⟨k+1,by omega,by go_num,HK2,HO2,HB2⟩
   case measure=>simp[intOf];omega
  ·obtain rfl:k=q:=by omega
   rw[aJ (by rw[HQ.out];exact ah _)] at HK;go_wp2_with fail;go_ret;exact⟨_,_,rfl,HK.out,rfl,by rw[HG.out];exact HB.out⟩
theorem Bm(K H S:Int)(G:Nat)(cs:Array Value)(w:World)(hx:Blk w G 25 cs):
 Calls prog 96 #[.agg #[int i64 K,int i64 H,int i64 S]] w fun e w'=>e=returned (bool (eD K H S))/\Blk w' G 25 cs/\Below w.heap.size w w':=
 (ni K H S w).mono fun e w' ⟨h1,h2⟩=>⟨h1,hx.below h2 hx.lt,h2⟩
theorem wT(K H:Nat)(S:Int)(w:World)(hK:1<=K/\K<=16)(hH:1<=H/\H<=4)(hS:1<=S/\S<=24):
 Calls prog 211 #[cE K H S] w fun e w'=>∃v,e=returned v/\MOwn w' w.heap.size v (bS K H H)/\Below w.heap.size w w':=by
 have hb:=(az w.heap.size w).alloc (ah _) (cells #[int i64 K,int i64 H,int i64 S] 25);have hB:=Blk.new w 25 #[int i64 K,int i64 H,int i64 S];have hok:eD K H S=true:=qq (by omega);have HB:=ae hb;have HBX:=ae hB;have CM:=ae fun G cs w hx=>Bm K H S G cs w hx;rw[hok] at CM;clear hb hB hok;unfold cE;go_enter func211,ntmps211;go_wp2_with fail;generalize w.alloc (cells #[int i64 K,int i64 H,int i64 S] 25)=w1 at*;generalize hG:w.heap.size=G at*;have HG:=ae hG;clear hG;have HM0:Hid (MOwn w1 G (slice none 0 0) (bS K H 0)):=ae (MOwn.nil _ _);go_loopw [3,4,5,6] (fun o i _ _ wr=>∃r:Nat,r<=H/\i=int i64 r/\Hid (MOwn wr G o (bS K H r))/\Hid (Blk wr G 25 #[int i64 K,int i64 H,int i64 S])/\Hid (Below G w wr)) (fun _ i _ _ _=>H-(intOf i).toNat)
 case atStart=>exact⟨0,by omega,rfl,HM0,HBX,HB⟩
 case round=>
  clear HM0 HB HBX;obtain⟨r,hr,rfl,HM,HBX,HB⟩:=hrel;rename World=>wo;obtain⟨c0,c1,c2⟩:=kU HBX.out;by_cases hrm:r<H
  ·have hrmI:(r:Int)<(H:Int):=by omega
   obtain⟨N,hN⟩:∃N,K+H=N:=⟨_,rfl⟩;obtain⟨q,hq⟩:∃q,K+r=q:=⟨_,rfl⟩;have hNI:((K:Int)+(H:Int))=(N:Int):=(by omega);have hN2:N<=64:=(by omega);have hNw:IntKind.i64.wrap (N:Int)=(N:Int):=(by rw[IntKind.wrap_i64];omega);have hqI:((K:Int)+(r:Int))=(q:Int):=(by omega);have hq2:q<N:=(by omega);have hqw:IntKind.i64.wrap (q:Int)=(q:Int):=(by rw[IntKind.wrap_i64];omega);have hKq:K<=q:=(by omega);have HN:=ae hN;have HQ:=ae hq;have hmk:=dD (n:=N) (by omega);clear hN hq;generalize hD:wo.heap.size=D at*;have HD:=ae hD;clear hD;go_wp2_with fail;refine(CM.out _ _ _ HBX.out).mono ?_;rintro e w2 ⟨rfl,hx2,hb2⟩;obtain⟨k0,k1,k2⟩:=kU hx2;have HX2:=ae hx2;have HB2:=ae hb2;clear hx2 hb2
   go_wp2_with (simp only[])
   have hO0:OwnB (w2.alloc (cells (bJ (replicate N 0)) 5)) w2.heap.size (slice (some ⟨w2.heap.size,0,none⟩) N N) (nU N r 0):=by
    have:=lU (l:=replicate N 0) (Blk.new w2 5 (bJ (replicate N 0))) (ah _) (by rw[aI];omega)
    rwa [aI] at this
   have hDg:D<=w2.heap.size:=(by have h1:=HD.out;have h2:=HB2.out.size;omega);have HO0:Hid (OwnB (w2.alloc (cells (bJ (replicate N 0)) 5)) D (slice (some ⟨w2.heap.size,0,none⟩) N N) (nU N r 0)):=ae (OwnB.base hO0 hDg);have HBD0:Hid (Below D wo (w2.alloc (cells (bJ (replicate N 0)) 5))):=ae (by rw[<-HD.out];exact HB2.out.alloc HB2.out.size _);have HX3:Hid (Blk (w2.alloc (cells (bJ (replicate N 0)) 5)) G 25 #[int i64 K,int i64 H,int i64 S]):=ae (HX2.out.alloc _);have HTK:Hid (bS K H (r+1)=bS K H r++[(nU N r K).set q 1]):=ae (by rw[bS,HN.out,HQ.out,IJ _ _ _ _ hKq]);clear hO0 hmk HX2 HB2 k0 k1 k2 c0 c1 c2 hNI hNw;generalize w2.alloc (cells (bJ (replicate N 0)) 5)=w3 at*;generalize w2.heap.size=g3 at*;have hGD:G<D:=(by have h1:=Blk.lt HBX.out;have h2:=HD.out;omega);go_loopw [6] (fun i wq=>∃j:Nat,j<=K/\i=int i64 j/\Hid (OwnB wq D (slice (some ⟨g3,0,none⟩) N N) (nU N r j))/\Hid (Below D wo wq)) (fun i _=>K-(intOf i).toNat)
   case atStart=>exact⟨0,by omega,rfl,HO0,HBD0⟩
   case round=>
    clear HO0 HBD0 HX3;obtain⟨j,hj,rfl,HO,HBD⟩:=hrel;obtain⟨c0,c1,c2⟩:=kU (HBX.out.below HBD.out hGD);by_cases hjn:j<K
    ·have hjnI:(j:Int)<(K:Int):=by omega
     obtain⟨x,hx⟩:∃x,(r+1)*(j+1)=x:=⟨_,rfl⟩;have hx2:x<=64:=(by rw[<-hx];exact bn (show r+1<=4 by omega) (show j+1<=16 by omega));have hxI:((r:Int)+1)*((j:Int)+1)=(x:Int):=(by rw[<-hx];simp);have hx64:IntKind.i64.wrap (x:Int)=(x:Int):=(by rw[IntKind.wrap_i64];omega);have CE:=ae (NA x (by omega) wr);rw[Ei x (by omega)] at CE;have HST:Hid (nU N r (j+1)=(nU N r j).set j (ex x)):=ae (by rw[nU,hx]);have hjN:(j:Int)<(N:Int):=(by omega);clear hx;generalize ex x=y at*;go_wp2_with fail;refine CE.out.mono ?_;rintro e w5 ⟨rfl,rfl⟩;have hl:(nU N r j).length=N:=zC _ _ _;obtain⟨cc,cf⟩:=OwnB.cell HO.out hl (k:=j) (by omega);have HS:=ae (OwnB.stored HO.out hl j y);clear hl;go_wp2_with fail;have HO5:Hid (OwnB (wr.setCell ⟨g3,j,none⟩ (.int .u8 (y:Nat))) D (slice (some ⟨g3,0,none⟩) N N) (nU N r (j+1))):=ae (by rw[HST.out];exact HS.out.1);have HB5:Hid (Below D wo (wr.setCell ⟨g3,j,none⟩ (.int .u8 (y:Nat)))):=ae (Below.setCell HBD.out (p:=⟨g3,j,none⟩) hDg _);clear HS HST HO HBD CE cc cf c0 c1 c2;generalize wr.setCell ⟨g3,j,none⟩ (.int .u8 (y:Nat))=w5 at*;go_wp2_with fail;go_roundw
     case rel=>exact⟨j+1,by omega,by go_num,HO5,HB5⟩
     case measure=>simp[intOf];omega
    ·obtain rfl:j=K:=by omega
     have hqN:(q:Int)<(N:Int):=(by omega);have hl:(nU N r j).length=N:=zC _ _ _;obtain⟨cc,cf⟩:=OwnB.cell HO.out hl (k:=q) hq2;have HS:=ae (OwnB.stored HO.out hl q 1);clear hl;have hmt:(bS j H r).length<=1000000:=(by rw[dL];omega);have hGD2:G<=wo.heap.size:=(by rw[HD.out];omega);have HO2:Hid (OwnB (wr.setCell ⟨g3,q,none⟩ (.int .u8 1)) wo.heap.size (slice (some ⟨g3,0,none⟩) N N) ((nU N r j).set q 1)):=ae (by rw[HD.out];exact HS.out.1);have HBD2:Hid (Below wo.heap.size wo (wr.setCell ⟨g3,q,none⟩ (.int .u8 1))):=ae (by rw[HD.out];exact Below.setCell HBD.out (p:=⟨g3,q,none⟩) hDg _);have HX5:Hid (Blk (wr.setCell ⟨g3,q,none⟩ (.int .u8 1)) G 25 #[int i64 j,int i64 H,int i64 S]):=ae (HBX.out.below HBD2.out (Blk.lt HBX.out));have hsz:(wr.setCell ⟨g3,q,none⟩ (.int .u8 1)).heap.size=wr.heap.size:=by simp
     go_wp2_with (at_builtin;refine lm (w0:=wo) (w1:=wr.setCell ⟨g3,q,none⟩ (.int .u8 1)) rfl _ _ rfl HM.out HBD2.out HO2.out hGD2 hmt rfl (by rw[hsz];rfl) ?_)
     intro v' w6 hM6 hb6 hg6 hat6;rw[<-HTK.out] at hM6;have HM6:=ae hM6;have HB6:=ae (HB.out.trans hb6);obtain⟨vs,hMV⟩:=HM.out
     have HX6:Hid (Blk w6 G 25 #[int i64 j,int i64 H,int i64 S]):=ae (by
      refine Blk.grown (Blk.alloc HX5.out _) hg6 ?_;rcases hMV.hd.2 with⟨h1,_⟩ | ⟨g',cap,cur,h1,_,hb,_⟩
      ·rw[h1];simp[Value.ownBlock]
      ·rw[h1]
       have:G≠g':=Blk.ne (t:=25) (t':=30) HBX.out hb (by decide);simpa[Value.ownBlock] using this)
     clear hM6 hb6 hg6 hat6 HM HBD HBD2 HO HO2 HX5 HTK HB HBX hMV HS cc cf;go_wp2_with fail;go_roundw
     case rel=>exact⟨r+1,by omega,by go_num,HM6,HX6,HB6⟩
     case measure=>simp[intOf];omega
  ·obtain rfl:r=H:=by omega
   go_wp2_with fail;go_ret;exact⟨_,rfl,by rw[HG.out];exact HM.out,by rw[HG.out];exact HB.out⟩
theorem GD(M:List (List Nat))(col:Nat):∀(k i:Nat),gT M col i (k+1)=if 0<=gT M col i k then gT M col i k else if gt M (i+k) col≠0 then ((i+k:Nat):Int) else-1:=by
 intro k
 induction k with
 | zero=>
   intro i;rw[mQ,bg (by decide)];simp only[Nat.add_zero];by_cases h:gt M i col=0
   ·rw[mR h,mQ,bg (fun h2=>h2 h)]
   ·rw[pX h,bf h]
 | succ k ih=>
   intro i;by_cases h:gt M i col=0
   ·rw[mR h,ih (i+1),mR h,show i+1+k=i+(k+1) by omega]
   ·rw[pX h,pX h,bf (by omega)]
theorem J0(M:List (List Nat))(col:Nat)(k i:Nat):0<=gT M col i k\/gT M col i k= -1:=by
 unfold gT;split
 ·left;omega
 ·right;rfl
theorem J1{M:List (List Nat)}{i j:Nat}(hi:i<M.length)(hj:j<M.length):swp M i j=swp M j i:=by
 refine ext_getElem (by rw[ij,ij]) fun k h1 h2=> ?_;rw[ij] at h1;have e1:=lJ hi hj k;have e2:=lJ hj hi k
 have e:sg i j k=sg j i k:=by
  unfold sg;by_cases a:k=i
  ·by_cases b:k=j
   ·rw[bf a,bf b];omega
   ·rw[bf a,bg b,bf a]
  ·by_cases b:k=j
   ·rw[bg a,bf b,bf b]
   ·rw[bg a,bg b,bg b,bg a]
 rw[e,<-e2] at e1;rw[af,ag (by rw[ij];exact h1),af,ag (by rw[ij];exact h1)] at e1;exact e1
theorem J2{M:List (List Nat)}{i:Nat}(h:i<M.length):M.set i (M.getD i [])=M:=by
 refine ext_getElem? fun k=> ?_;rw[List.getElem?_set];by_cases e:i=k
 ·subst e
  rw[bf rfl,bf h,getD_some h]
 ·rw[bg e]
theorem Aw{n:Nat}{M:List (List Nat)}(hM:Wf n M){top col k:Nat}(hk:k<M.length)(ht:top<M.length)(h0:gt M k col=0):bU M top col (k+1)=bU M top col k:=by
 rw[jp hM hk];split
 ·rfl
 ·rw[h0,zN (by rw[(hM.get ht).1,(hM.get hk).1])]
  have e:(bU M top col k).getD k []=M.getD k []:=(by rw[fD top col k hk,bg (by omega)]);rw[<-e];exact J2 (by rw[eQ];exact hk)
theorem Db(n m:Nat)(M:List (List Nat))(B:Nat)(a:Option Addr)(c:Nat)(w:World)(h:RdM w B a m M)(hW:Wf n M)(hn:n<=64)(hm:m<=1000000):
 Calls prog 263 #[slice a m c] w fun e w'=>e=returned (bool true)/\∃j,w'=w.drewN j:=by
 have H:=ae h;have HW:=ae hW;clear h hW;go_enter func263,ntmps263;go_wp2_with fail;go_loopw [3,6] (fun _ i wr=>∃k:Nat,k<=m/\i=int i64 k/\Hid (∃j,wr=w.drewN j)) (fun _ i _=>m-(intOf i).toNat)
 case atStart=>exact⟨0,by omega,rfl,ae ⟨0,rfl⟩⟩
 case round=>
  obtain⟨k,hk,rfl,HJ⟩:=hrel;obtain⟨j,hj⟩:=HJ.out;clear HJ;by_cases hlt:k<m
  ·obtain⟨b,o,a0,c0,rfl,hb,hc0,_⟩:=H.out.at (show 0<m by omega)
   obtain⟨b',o',a1,c1,e,_,hc1,_⟩:=H.out.at hlt;injection e with e;injection e with e1 e2 e3;subst e1 e2;have l0:=(HW.out.get (i:=0) (by rw[H.out.len];omega)).1;have l1:=(HW.out.get (i:=k) (by rw[H.out.len];omega)).1;rw[l0,Nat.add_zero] at hc0;rw[l1] at hc1;have k0:wr.cell? ⟨b,o,none⟩=some (slice a0 n c0):=(by rw[hj];exact hc0);have k1:wr.cell? ⟨b,o+k,none⟩=some (slice a1 n c1):=(by rw[hj];exact hc1);have hnn:((n:Int) != (n:Int))=false:=(by simp);have hlt':(k:Int)<(m:Int):=(by omega);have hmp:(0:Int)<(m:Int):=(by omega);have hn':¬((n:Int)>64):=(by omega);have HJ:=ae hj;clear l0 l1 hc0 hc1 hj;go_wp2_with fail
   go_quiet (fail)
   go_wp2_with fail;go_roundw
   case rel=>(try((repeat apply Exists.intro);refine⟨?_,rfl⟩));exact⟨k+1,by omega,by go_num,ae ⟨j+nq,by rw[HJ.out,World.drewN_drewN]⟩⟩
   case measure=>simp[intOf];omega
  ·obtain rfl:k=m:=by omega
   go_wp2_with fail;go_ret
   first | exact⟨rfl,j,hj⟩ | exact⟨rfl,j,rfl⟩
theorem Dc(n m c:Nat)(M:List (List Nat))(a:Option Addr)(w:World)(h:RdM w w.heap.size a m M)(hW:Wf n M)(hn:n<=64)(hm:m<=1000000):
 Calls prog 210 #[slice a m c] w fun e w'=>∃v,e=returned v/\MOwn w' w.heap.size v (dE M)/\Below w.heap.size w w':=by
 have CM:=ae (Db n m M _ a c w h hW hn hm);have HM:=ae h;have HW:=ae hW;have HL:=ae h.len;clear h hW;go_enter func210,ntmps210;go_wp2_with fail;refine CM.out.mono ?_;rintro e w1 ⟨rfl,j0,rfl⟩;have HB1:Hid (Below w.heap.size w (w.drewN j0)):=ae (below_drewN (az _ _) j0);have hs1:(w.drewN j0).heap.size=w.heap.size:=rfl;clear CM;generalize w.drewN j0=w1 at*;generalize hG:w.heap.size=G at*;have HG:=ae hG;clear hG;have HO0:Hid (MOwn w1 G (slice none 0 0) (M.take 0)):=ae (by rw[take_zero];exact MOwn.nil _ _);go_wp2_with fail;go_loopw [3,4,15] (fun v _ i wr=>∃k:Nat,k<=m/\i=int i64 k/\Hid (MOwn wr G v (M.take k))/\Hid (Below G w wr)) (fun _ _ i _=>m-(intOf i).toNat)
 case atStart=>exact⟨0,by omega,rfl,HO0,HB1⟩
 case round=>
  clear HO0 HB1;obtain⟨k,hk,rfl,HO,HBL⟩:=hrel;have hGr:G<=wr.heap.size:=(by have:=HBL.out.size;have:=HG.out;omega);by_cases hlt:k<m
  ·have hltI:(k:Int)<(m:Int):=by omega
   have hkM:k<M.length:=(by rw[HL.out];exact hlt);obtain⟨bh,oh,ax,cx,rfl,hbh,hcell,hrd,hnil,hcx,-⟩:=HM.out.at hlt;have hg:=HW.out.get hkM;rw[hg.1] at hcell hrd hcx;have hcell':=(HBL.out.cell (p:=⟨bh,oh+k,none⟩) hbh).trans hcell;have HRD:=ae ((hrd.below HBL.out (ah _)).more hGr)
   have htk:M.take (k+1)=M.take k++[M.getD k []]:=by
    rw[aN hkM,af,ag hkM];rfl
   have HTK:=ae htk;have HLx:=ae hg.1;have hmt:(M.take k).length<=1000000:=(by rw[aG,HL.out];omega);clear hcell hrd hg htk;generalize M.getD k []=x at*
   go_wp2_with (at_builtin;refine vw _ rfl _ _ 30 rfl wr.heap.size 5 (.int .u8 0) 1 underlying30 iQ rfl (slice none 0 0) 0 [] rfl (World.ownsRow_nil _ _ _ _) _ ax n cx (bF x) rfl hnil HRD.out (iy x) (by omega) (by unfold maxLen;omega) (ah _) ?_)
   intro u w2 hown hg2 hat2;have hu:OwnB w2 wr.heap.size u x:=(by first | (rw[<-HLx.out] at hown;exact hown) | (rw[Nat.zero_add,nil_append,<-HLx.out] at hown;exact hown));have hb2:Below wr.heap.size wr w2:=⟨hg2.os,hg2.tape,hg2.output,hg2.size,fun k hk=>hg2.block k hk (by simp[Value.ownBlock])⟩;obtain⟨ua,uc,rfl,_⟩:=hu.rd;have HU:=ae hu;have HB2:=ae hb2;clear hown hg2 hat2 hu hb2
   go_wp2_with (at_builtin;refine lm (w0:=wr) (w1:=w2) rfl _ _ rfl HO.out HB2.out HU.out hGr hmt rfl rfl ?_)
   intro v' w3 hM3 hb3 hg3 hat;rw[<-HTK.out] at hM3;have HM3:=ae hM3;have HB3:=ae (HBL.out.trans hb3);clear hM3 hb3 hg3 hat HO HB2 HU HTK;go_wp2_with fail;go_roundw
   case rel=>(try((repeat apply Exists.intro);refine⟨?_,rfl⟩));exact⟨k+1,by omega,by go_num,HM3,HB3⟩
   case measure=>simp[intOf];omega
  ·obtain rfl:k=m:=by omega
   rename World=>wb;rw[aJ (by rw[HL.out];exact ah _)] at HO;obtain⟨av,cv,hv⟩:=HO.out.val;rw[HL.out] at hv;subst hv;have hcaps:=HO.out.caps;rcases Nat.eq_zero_or_pos k with h0 | h0
   ·subst h0
    have hM0:M=[]:=eq_nil_of_length_eq_zero HL.out;have hr0:dE M=[]:=(by rw[hM0];rfl);have hvn:Hid (MOwn wb G (slice av 0 cv) (dE M)):=ae (by rw[hr0];rw[hM0] at HO;exact HO.out);have hcI:(0:Int)<=(cv:Int):=(by omega);clear hM0 hr0 HM HW HL HO;go_wp2_with fail;go_loopw [5,6] (fun d i wq=>d=int i64 0/\i=int i64 0/\wb=wq) (fun _ _ _=>0)
    case atStart=>exact⟨rfl,rfl,rfl⟩
    case round=>
     obtain⟨rfl,rfl,rfl⟩:=hrel;go_wp2_with fail;go_ret;exact⟨_,rfl,by rw[HG.out];exact hvn.out,by rw[HG.out];exact HBL.out⟩
   ·obtain⟨g,rfl,hgC,hgs⟩:=HO.out.form h0
    have hMne:M≠[]:=fun e=>(by have:=HL.out;rw[e] at this;simp at this;omega);have hwid:wid M=n:=lK HW.out hMne;have HRR:Hid ((bV M n).1.take (bV M n).2=dE M):=ae (by unfold dE;rw[hwid]);have HO0:Hid (MOwn wb G (slice (some ⟨g,0,none⟩) k cv) (bV M 0).1):=ae HO.out;have h0I:(0:Int)<(k:Int):=(by omega);clear hMne hwid HM HO;have HBL0:=HBL;go_wp2_with fail;go_loopw [5,6] (fun d i wq=>∃t:Nat,t<=n/\i=int i64 t/\d=int i64 ((bV M t).2:Nat)/\Hid (MOwn wq G (slice (some ⟨g,0,none⟩) k cv) (bV M t).1)/\Hid (Below G w wq)) (fun _ i _=>n-(intOf i).toNat)
    case atStart=>exact⟨0,by omega,rfl,rfl,HO0,HBL0⟩
    case round=>
     clear HO0 HBL0 HBL;obtain⟨col,hcol,rfl,rfl,HM,HB⟩:=hrel;rename World=>wo;obtain⟨ls,hinv⟩:=iK HW.out col;have hw1:=hinv.wf;have hle:=hinv.le;rw[iL,HL.out] at hle;have hl1:(bV M col).1.length=k:=(by rw[iL];exact HL.out);have hst:bV M (col+1)=iV (bV M col).1 (bV M col).2 col:=rfl;have HST:=ae hst;obtain⟨a0,c0,hc0,-,-⟩:=HM.out.at2 h0 (hw1.get (i:=0) (by rw[hl1];exact h0)).1;by_cases hlt2:col<n
     ·have hlt2I:(col:Int)<(n:Int):=by omega
      clear hst hinv;generalize (bV M col).1=M1 at*;generalize (bV M col).2=t at*;have HW1:=ae hw1;have HL1:=ae hl1;clear hw1 hl1;go_wp2_with fail;clear hc0;go_loopw [7,8] (fun at_ i wq=>∃j:Nat,t<=j/\j<=k/\i=int i64 j/\at_=int i64 (gT M1 col t (j-t))/\wo=wq) (fun _ i _=>k-(intOf i).toNat)
      case atStart=>exact⟨t,ah _,hle,rfl,by rw[Nat.sub_self,mQ],rfl⟩
      case round=>
       obtain⟨j,hj1,hj2,rfl,rfl,rfl⟩:=hrel;by_cases hjk:j<k
       ·have hjkI:(j:Int)<(k:Int):=by omega
        obtain⟨aj,cj,hcj,-,hoj⟩:=HM.out.at2 hjk (HW1.out.get (i:=j) (by rw[HL1.out];exact hjk)).1;have hgj:=HW1.out.get (i:=j) (by rw[HL1.out];exact hjk);obtain⟨aj3,cj3,e3,hrj⟩:=hoj.rd;injection e3 with e3 e4 e5;subst e3 e5;clear e4;rw[hgj.1] at hrj;obtain⟨bj,oj,rfl,hbj,hcc⟩:=hrj.atB hlt2;have cx:=hcc col hlt2;have hgt:(M1.getD j []).getD col 0=gt M1 j col:=rfl;rw[hgt] at cx;have hsn:=GD M1 col (j-t) t;rw[show j-t+1=j+1-t by omega,show t+(j-t)=j by omega] at hsn;have HSN:=ae hsn;have hng:=J0 M1 col (j-t) t;clear hcc hrj hgj hoj hgt hsn;generalize gt M1 j col=y at*;generalize hbz:gT M1 col t (j-t)=z at*;have HBZ:=ae hbz;clear hbz;by_cases hy:y=0
        ·subst hy
         have HZ:Hid (gT M1 col t (j+1-t)=z):=ae (by
          rw[HSN.out];rcases hng with h | h
          ·rw[bf h]
          ·rw[h,bg (by decide),bg (by decide)])
         go_wp2_with fail;go_roundw
         case rel=>first | exact⟨j+1,by omega,by omega,by go_num,by rw[HZ.out],by first | trivial | rfl⟩ | exact⟨j+1,by omega,by omega,by go_num,by rw[HZ.out]⟩ | (trace_state;fail)
         case measure=>simp[intOf];omega
        ·have hyz:((y:Int) != 0)=true:=by simp;omega
         rcases hng with h | h
         ·have HZ:Hid (gT M1 col t (j+1-t)=z):=ae (by rw[HSN.out,bf h])
          have hz0:¬z<0:=(by omega);go_wp2_with fail;go_roundw
          case rel=>first | exact⟨j+1,by omega,by omega,by go_num,by rw[HZ.out],by first | trivial | rfl⟩ | exact⟨j+1,by omega,by omega,by go_num,by rw[HZ.out]⟩ | (trace_state;fail)
          case measure=>simp[intOf];omega
         ·have HZ:Hid (gT M1 col t (j+1-t)=(j:Int)):=ae (by rw[HSN.out,bg (by omega),bf hy])
          subst h;go_wp2_with fail;go_roundw
          case rel=>first | exact⟨j+1,by omega,by omega,by go_num,by rw[HZ.out],by first | trivial | rfl⟩ | exact⟨j+1,by omega,by omega,by go_num,by rw[HZ.out]⟩ | (trace_state;fail)
          case measure=>simp[intOf];omega
       ·obtain rfl:j=k:=by omega
        cases hf:ma M1 col t (j-t) with
        | none=>
          have e1:gT M1 col t (j-t)= -1:=(by unfold gT;rw[hf]);have e2:bV M (col+1)=(M1,t):=(by rw[HST.out];unfold iV;rw[HL1.out,hf]);have E2:=ae e2;rw[e1];clear e1 e2 hf HST;go_wp2_with fail;go_roundw
          case rel=>(try((repeat apply Exists.intro);refine⟨?_,rfl⟩));exact⟨col+1,by omega,by go_num,by rw[E2.out],by rw[E2.out];exact HM,HB⟩
          case measure=>simp[intOf];omega
        | some p=>
          obtain⟨p1,p2,p3,-⟩:=kY _ _ _ hf;have hpm:p<j:=(by omega);have htm:t<j:=(by omega);have e1:gT M1 col t (j-t)=p:=(by unfold gT;rw[hf]);have e2:bV M (col+1)=(bU (ja M1 t col p) t col j,t+1):=(by rw[HST.out];unfold iV;rw[HL1.out,hf]);have E2:=ae e2;rw[e1];clear e1 e2 hf HST;obtain⟨at_,ct,hct,hft,hot⟩:=HM.out.at2 htm (HW1.out.get (by rw[HL1.out];exact htm)).1;obtain⟨ap,cp,hcp,hfp,hop⟩:=HM.out.at2 hpm (HW1.out.get (by rw[HL1.out];exact hpm)).1;have hsw:=HM.out.swap hpm htm hcp hct;rw[J1 (by rw[HL1.out];exact hpm) (by rw[HL1.out];exact htm)] at hsw;have HS:=ae hsw;have hp0:¬((p:Int)<0):=(by omega);have htI:(t:Int)<(j:Int):=(by omega);have hpI:(p:Int)<(j:Int):=(by omega);obtain⟨N,hN⟩:∃N,N=swp M1 t p:=⟨_,rfl⟩;have e3:ja M1 t col p=N.set t (jS (fi (gt N t col)) (N.getD t [])):=(by rw[hN];rfl);have hNl:N.length=j:=by rw[hN,ij];exact HL1.out
          have hNw:Wf n N:=by
           rw[hN];refine uq fun i hi=> ?_;rw[ij,HL1.out] at hi;rw[lJ (by rw[HL1.out];exact htm) (by rw[HL1.out];exact hpm)];exact HW1.out.get (by rw[HL1.out];exact ut htm hpm hi)
          rw[e3] at E2;rw[<-hN] at HS;have HNL:=ae hNl;have HNW:=ae hNw
          have hgs:g<wo.heap.size:=by
           obtain⟨vs,hMV⟩:=HM.out;exact(hMV.hd.lt g rfl).2
          clear e3 hN hNl hNw p3 hsw;go_wp2_with fail;go_cut [] (fun wx=>Hid (Below G w wx)/\g<wx.heap.size/\Hid (MOwn wx G (slice (some ⟨g,0,none⟩) j cv) N))
          case first=>
           by_cases htp:t=p
           ·subst htp
            rw[hct] at hcp;obtain⟨rfl,rfl⟩:at_=ap/\ct=cp:=(by simpa using hcp);clear hcp hfp hop hot;go_region;have HB2:Hid (Below G w ((wo.setCell ⟨g,t,none⟩ (Value.slice at_ n ct)).setCell ⟨g,t,none⟩ (Value.slice at_ n ct)).drew):=ae (((HB.out.setCell (p:=⟨g,t,none⟩) hgC _).setCell (p:=⟨g,t,none⟩) hgC _).drew);have hgs2:g<((wo.setCell ⟨g,t,none⟩ (Value.slice at_ n ct)).setCell ⟨g,t,none⟩ (Value.slice at_ n ct)).drew.heap.size:=(by simpa[World.setCell] using hgs);have HS3:Hid (MOwn ((wo.setCell ⟨g,t,none⟩ (Value.slice at_ n ct)).setCell ⟨g,t,none⟩ (Value.slice at_ n ct)).drew G (Value.slice (some ⟨g,0,none⟩) j cv) N):=ae (HS.out.drewN 1);go_wp2_with fail;go_meet;exact⟨HB2,hgs2,HS3⟩
           ·have htp':¬((t:Int)=(p:Int)):=by omega
            clear hop hot;go_region;have HB2:Hid (Below G w ((wo.setCell ⟨g,p,none⟩ (Value.slice at_ n ct)).setCell ⟨g,t,none⟩ (Value.slice ap n cp)).drew):=ae (((HB.out.setCell (p:=⟨g,p,none⟩) hgC _).setCell (p:=⟨g,t,none⟩) hgC _).drew);have hgs2:g<((wo.setCell ⟨g,p,none⟩ (Value.slice at_ n ct)).setCell ⟨g,t,none⟩ (Value.slice ap n cp)).drew.heap.size:=(by simpa[World.setCell] using hgs);have HS3:Hid (MOwn ((wo.setCell ⟨g,p,none⟩ (Value.slice at_ n ct)).setCell ⟨g,t,none⟩ (Value.slice ap n cp)).drew G (Value.slice (some ⟨g,0,none⟩) j cv) N):=ae (HS.out.drewN 1);go_wp2_with fail;go_meet;exact⟨HB2,hgs2,HS3⟩
          case rest=>
          obtain⟨HB2,hgs2,HS3⟩:=hcut;clear hgs HW1 HL1 HS hct hft hcp hfp hop hot HM HB;obtain⟨at2,ct2,hct,hft,hot⟩:=HS3.out.at2 htm (HNW.out.get (by rw[HNL.out];exact htm)).1;have hotb:=(HNW.out.get (i:=t) (by rw[HNL.out];exact htm)).2;have hotl:=(HNW.out.get (i:=t) (by rw[HNL.out];exact htm)).1;obtain⟨at3,ct3,e3,hrt⟩:=hot.rd;injection e3 with e3 e4 e5;subst e3 e5;clear e4;rw[hotl] at hrt;obtain⟨bt,ot,rfl,hbt,hcc⟩:=hrt.atB hlt2;have cx:=hcc col hlt2;have hgt:(N.getD t []).getD col 0=gt N t col:=rfl;rw[hgt] at cx;have hgb:=HNW.out.lt t col
          have HPW:Hid (Wf n (N.set t (jS (fi (gt N t col)) (N.getD t [])))):=ae (by
           intro r hr;rcases mem_or_eq_of_mem_set hr with h | h
           ·exact HNW.out r h
           ·rw[h];exact⟨by rw[lV];exact hotl,By.sc _ _⟩)
          have CI:=ae fun w=>Nz (gt N t col) hgb w;have CS:=ae (GA (fi (gt N t col)) (N.getD t []) _ (some ⟨bt,ot,none⟩) n ct2 (wc.drewN 1) (vI _) hrt (ah _) hotb (by omega));clear hcc hot hrt hotb hotl hgt;generalize hQ:N.set t (jS (fi (gt N t col)) (N.getD t []))=Q at*;have HQ:=ae hQ;clear hQ;generalize gt N t col=q at*;generalize fi q=fq at*;generalize jS fq (N.getD t [])=R at*;go_wp2_with fail;go_cut [] (fun wx=>Hid (Below G w wx)/\Hid (MOwn wx G (slice (some ⟨g,0,none⟩) j cv) Q))
          case first=>
           go_region_with (first
            | (go_at_call 265;refine(CI.out _).mono ?_;rintro e w4 ⟨rfl,rfl⟩)
            | (go_at_call 264;refine CS.out.mono ?_;rintro e w5 ⟨v5,rfl,ho5,hb5⟩;obtain⟨a5,c5,rfl,hr5⟩:=ho5.rd;clear hr5
               have hf5:=(hb5.frozen (p:=⟨g,t,none⟩) hgs2).trans hft;have hc5:=(hb5.cell (p:=⟨g,t,none⟩) hgs2).trans hct))
           all_goals(
            have hM5:=MOwn.put (w0:=wc.drewN 1) (HS3.out.drewN 1) hb5 htm ho5 (by have:=HB2.out.size;have:=HG.out;show G<=wc.heap.size;omega);rw[HQ.out] at hM5;have HB5:Hid (Below G w (w5.setCell ⟨g,t,none⟩ (Value.slice a5 R.length c5))):=ae (((below_drewN HB2.out 1).trans (hb5.mono (by have:=HB2.out.size;have:=HG.out;show G<=wc.heap.size;omega))).setCell (p:=⟨g,t,none⟩) hgC _);have HM5:=ae hM5;clear hM5 hb5 ho5;go_wp2_with fail;go_meet;exact⟨HB5,HM5⟩)
          case rest=>
          obtain⟨HB3,HM3⟩:=hcut;have HQL:Hid (Q.length=j):=ae (by rw[<-HQ.out,length_set];exact HNL.out);clear CI CS HB2 hgs2 HS3 hft hct hbt cx hgb HNL HNW HQ p1 p2 hpm hpI hp0;have HM4:Hid (MOwn wc G (slice (some ⟨g,0,none⟩) j cv) (bU Q t col 0)):=ae (by rw[rR];exact HM3.out);clear HM3;go_wp2_with fail;go_loopw [9,94] (fun _ i wq=>∃r:Nat,r<=j/\i=int i64 r/\Hid (MOwn wq G (slice (some ⟨g,0,none⟩) j cv) (bU Q t col r))/\Hid (Below G w wq)) (fun _ i _=>j-(intOf i).toNat)
          case atStart=>exact⟨0,by omega,rfl,HM4,HB3⟩
          case round=>
           clear HM4 HB3;obtain⟨r,hr,rfl,HM4,HB3⟩:=hrel;by_cases hrm:r<j
           ·have hrmI:(r:Int)<(j:Int):=by omega
            have hrQ:r<Q.length:=(by rw[HQL.out];exact hrm);have htQ:t<Q.length:=(by rw[HQL.out];exact htm);by_cases hrt:r=t
            ·have hrtI:((r:Int) != (t:Int))=false:=by simp[hrt]
             have HM5:Hid (MOwn wr G (slice (some ⟨g,0,none⟩) j cv) (bU Q t col (r+1))):=ae (by rw[jp HPW.out hrQ,bf hrt];exact HM4.out);clear hrt HM4;go_wp2_with fail;go_roundw
             case rel=>(try((repeat apply Exists.intro);refine⟨?_,rfl⟩));exact⟨r+1,by omega,by go_num,HM5,HB3⟩
             case measure=>simp[intOf];omega
            ·have hrtI:((r:Int) != (t:Int))=true:=by simp;omega
             have hwE:=mU HPW.out col r htQ;have hlE:(bU Q t col r).length=j:=(by rw[eQ];exact HQL.out);have hrw1:(bU Q t col r).getD r []=Q.getD r []:=(by rw[fD t col r hrQ,bg (by omega)]);have hrw2:(bU Q t col r).getD t []=Q.getD t []:=(by rw[fD t col r htQ,bg (by omega)]);obtain⟨ar,cr,hcr,hfr,hor⟩:=HM4.out.at2 hrm (hwE.get (i:=r) (by rw[hlE];exact hrm)).1;obtain⟨at4,ct4,hct4,-,hot4⟩:=HM4.out.at2 htm (hwE.get (i:=t) (by rw[hlE];exact htm)).1;rw[hrw1] at hor;rw[hrw2] at hot4;have hgr:=HPW.out.get hrQ;have hgt2:=HPW.out.get htQ;obtain⟨ar3,cr3,e3,hrr⟩:=hor.rd;injection e3 with e3 e4 e5;subst e3 e5;clear e4;rw[hgr.1] at hrr;obtain⟨at5,ct5,e3,hrt4⟩:=hot4.rd;injection e3 with e3 e4 e5;subst e3 e5;clear e4;rw[hgt2.1] at hrt4;have hrr2:=hrr;obtain⟨br,orr,rfl,hbr,hcc⟩:=hrr.atB hlt2;have cx:=hcc col hlt2;have hgt3:(Q.getD r []).getD col 0=gt Q r col:=rfl;rw[hgt3] at cx;by_cases hz:gt Q r col=0
             ·have HM5:Hid (MOwn wr G (slice (some ⟨g,0,none⟩) j cv) (bU Q t col (r+1))):=ae (by rw[Aw HPW.out hrQ htQ hz];exact HM4.out)
              rw[hz] at cx;clear hcc hrr hrr2 hgr hgt2 hot4 hor hrt4 hwE hlE hrw1 hrw2 HM4;go_wp2_with fail;go_roundw
              case rel=>(try((repeat apply Exists.intro);refine⟨?_,rfl⟩));exact⟨r+1,by omega,by go_num,HM5,HB3⟩
              case measure=>simp[intOf];omega
             ·have hstep:bU Q t col (r+1)=(bU Q t col r).set r (kS (gt Q r col) (Q.getD t []) (Q.getD r [])):=by rw[jp HPW.out hrQ,bg hrt]
              have HSTEP:=ae hstep;have hwrs:G<=wr.heap.size:=by have:=HB3.out.size;have:=HG.out;omega
              have hgs3:g<wr.heap.size:=by
               obtain⟨vs,hMV⟩:=HM4.out;exact(hMV.hd.lt g rfl).2
              have CA:=ae (Av (gt Q r col) (Q.getD t []) (Q.getD r []) _ at4 (some ⟨br,orr,none⟩) n ct4 cr (wr.drewN 1) (HPW.out.lt r col) hrt4 hrr2 (ah _) hgt2.2 hgr.2 (by omega));have hyz:((gt Q r col:Int) != 0)=true:=(by simp;omega);clear hcc hrr hrr2 hgr hgt2 hot4 hor hrt4 hwE hlE hrw1 hrw2 hstep hgt3;generalize kS (gt Q r col) (Q.getD t []) (Q.getD r [])=X at*;generalize gt Q r col=q at*;go_wp2_with fail
              go_region_with (first
               | (go_at_call 266;refine CA.out.mono ?_;rintro e w6 ⟨v6,rfl,ho6,hb6⟩;obtain⟨a6,c6,rfl,hr6⟩:=ho6.rd;clear hr6
                  have hf6:=(hb6.frozen (p:=⟨g,r,none⟩) hgs3).trans hfr;have hc6:=(hb6.cell (p:=⟨g,r,none⟩) hgs3).trans hcr))
              all_goals(
               have hM6:=MOwn.put (w0:=wr.drewN 1) (HM4.out.drewN 1) hb6 hrm ho6 hwrs;rw[<-HSTEP.out] at hM6;have HM6:=ae hM6;have HB6:Hid (Below G w (w6.setCell ⟨g,r,none⟩ (Value.slice a6 X.length c6))):=ae (((below_drewN HB3.out 1).trans (hb6.mono hwrs)).setCell (p:=⟨g,r,none⟩) hgC _);clear hM6 hb6 ho6 hf6 hc6;go_wp2_with fail;go_roundw
               case rel=>(try((repeat apply Exists.intro);refine⟨?_,rfl⟩));exact⟨r+1,by omega,by go_num,HM6,HB6⟩
               case measure=>simp[intOf];omega)
           ·obtain rfl:r=j:=by omega
            have HM7:Hid (MOwn wr G (slice (some ⟨g,0,none⟩) r cv) (bV M (col+1)).1):=ae (by rw[E2.out];exact HM4.out);have HT7:Hid (t+1=(bV M (col+1)).2):=ae (by rw[E2.out]);have ht1:(t:Int)+1=(((bV M (col+1)).2:Nat):Int):=(by rw[<-HT7.out];omega);have HT8:=ae ht1;clear ht1 HM4 E2;go_wp2_with fail;go_roundw
            case rel=>(try((repeat apply Exists.intro);refine⟨?_,rfl⟩));exact⟨col+1,by omega,by go_num,by rw[<-HT8.out],HM7,HB3⟩
            case measure=>simp[intOf];omega
     ·obtain rfl:col=n:=by omega
      have hkc:(bV M col).2<=cv:=(by have:=hcaps.2.1;omega);have hkcI:(((bV M col).2:Nat):Int)<=(cv:Int):=(by omega);have hFT:Hid (MOwn wo G (slice (some ⟨g,0,none⟩) (bV M col).2 cv) (dE M)):=ae (by rw[<-HRR.out];exact HM.out.take hle);clear hst HST hinv HM hw1 hl1 HRR;generalize (bV M col).2=t at*;go_wp2_with fail;go_ret;exact⟨_,rfl,by rw[HG.out];exact hFT.out,by rw[HG.out];exact HB.out⟩
theorem J3(n m c:Nat)(M:List (List Nat))(a:Option Addr)(w:World)(h:RdM w w.heap.size a m M)(hW:Wf n M)(hn:n<=64)(hm:m<=1000000):
 Calls prog 152 #[slice a m c] w fun e w'=>e=returned (int i64 ((dE M).length:Nat))/\Below w.heap.size w w':=by
 have CR:=ae (Dc n m c M a w h hW hn hm);clear h hW;go_enter func152,ntmps152;go_wp2_with fail;refine CR.out.mono ?_;rintro e w1 ⟨v,rfl,hM,hb⟩;obtain⟨a1,c1,rfl⟩:=hM.val;go_wp2_with fail;go_ret;exact⟨rfl,hb⟩
theorem xQ(K H Z:Nat)(s:Int){ids:List Nat}{k:Nat}(h:k<ids.length):(dV K H Z s (ids.take (k+1))).map rB=(dV K H Z s (ids.take k)).map rB++[rB (iO K H Z s (ids.getD k 0:Nat))]:=by
 unfold dV;rw[aN h,aQ (l:=ids.take k),<-append_assoc,aQ (k:=[ids[k]].map _),af,ag h];rfl
theorem EW{K H Z:Nat}{s id:Int}(hk:eD K H Z=true)(h0:0<=id)(h1:id<=65535):pI ((K:Int)+H).toNat (rE (K+H) (iH (jF s id)))=iO K H Z s id:=by unfold iO;rw[bf ⟨hk,h0,h1⟩]
theorem iz{w:World}{B:Nat}{a:Option Addr}{n:Nat}{l:List Nat}(h:Rd w B a n (bG l)){i:Nat}(hi:i<n):∃b o,a=some ⟨b,o,none⟩/\b<B/\w.cell? ⟨b,o+i,none⟩=some (int i64 (l.getD i 0:Nat)):=by
 have hl:l.length=n:=by have:=h.len;simpa[bG] using this
 obtain⟨b,o,e,hb,hc⟩:=h.2 (by omega);exact⟨b,o,e,hb,hc i _ (by unfold bG;rw[List.getElem?_map,af,ag (by omega)];rfl)⟩
theorem oG(K H Z:Nat)(s:Int)(ids:List Nat)(a:Option Addr)(n c:Nat)(w:World)(hk:eD K H Z=true)(hs0:0<=s)(hs1:s<4294967296)(hx:Rd w w.heap.size a n (bG ids))(hi:∀i∈ids,i<=65535)(hn:n<=1000):
 Calls prog 217 #[cE K H Z,.int .u32 s,slice a n c] w fun e w'=>∃v,e=returned v/\(rM (dV K H Z s ids)).ok w' Any [v]/\Below w.heap.size w w':=by
 have hok:=aZ hk;have hl:ids.length=n:=by have:=hx.len;simpa[bG] using this
 have CP:=ae fun w=>pJ K H Z w (by omega) (by omega) (by omega);have CR:=ae fun (id:Nat) (hid:id<=65535) w=>Ce K H Z s id w hk (by omega) (by omega) hs0 hs1;have HI:=ae hi;have HL:=ae hl;have HK:=ae hk;have HX:=ae hx
 have S0:Hid (Sx w (w.alloc (cells #[int i64 K,int i64 H,int i64 Z] 25)) [bQ w.heap.size 25 #[int i64 K,int i64 H,int i64 Z],kT a n (bG ids)]):=
  ae (((((Sx.nil w).add (kT a n (bG ids)) hx).alloc _).add (bQ _ _ _) (Blk.new w 25 #[int i64 K,int i64 H,int i64 Z])))
 have hH2:H<=4:=by omega
 have hK2:K<=16:=by omega
 clear hx hi hl hok hk;unfold cE at CP CR ⊢;go_enter func217,ntmps217;go_wp2_with fail;generalize w.alloc (cells #[int i64 K,int i64 H,int i64 Z] 25)=w0 at*;refine(CP.out _).mono ?_;rintro e w1 ⟨v1,rfl,hO,hb⟩;have HB1:=ae hb
 have HO:Hid (OwnS w1 w0.heap.size 30 1 Any v1 ((dV K H Z s (ids.take 0)).map rB)):=ae (by
  have:=(xA hO).base (ah _) (G:=Any) fun _ _=>trivial;unfold dV;rw[take_zero,map_nil,append_nil];exact this)
 obtain⟨b1,n1,cc1,rfl⟩:=HO.out.sl;generalize w.heap.size=P at*;clear hO hb CP;go_wp2_with fail;go_loopw [7,15] (fun v i wr=>∃k:Nat,k<=n/\i=int i64 k/\Hid (OwnS wr w0.heap.size 30 1 Any v ((dV K H Z s (ids.take k)).map rB))/\Hid (Below w0.heap.size w0 wr)) (fun _ i _=>n-(intOf i).toNat)
 case atStart=>exact⟨0,by omega,rfl,HO,HB1⟩
 case round=>
  clear HO HB1;obtain⟨k,hkn,rfl,HO,HB⟩:=hrel;have S1:=ae (S0.out.step HB.out);obtain⟨bv,nv,cv,rfl⟩:=HO.out.sl;by_cases hlt:k<n
  ·have hltI:(k:Int)<(n:Int):=by omega
   have hkl:k<ids.length:=(by rw[HL.out];exact hlt);obtain⟨b,o,rfl,hb,cq⟩:=iz (S1.out.rd 1 rfl) hlt;have hid:ids.getD k 0<=65535:=HI.out _ (by rw[getD_at hkl];exact aP hkl);have HSN:=ae (xQ K H Z s hkl);have hsl:((dV K H Z s (ids.take k)).map rB).length<=1000000:=(by rw[aC,ll,aG];omega);have HRE:=ae (EW (s:=s) (id:=(ids.getD k 0:Nat)) HK.out (by omega) (by omega));have HRL:=ae (ql (s:=s) (id:=(ids.getD k 0:Nat)) HK.out (by omega) (by omega));obtain⟨k0,k1,k2⟩:=iU (S1.out.blk 0 rfl);generalize ids.getD k 0=x at*;clear hkl;go_wp2_with fail;refine(CR.out x hid wr).mono ?_;rintro e w3 ⟨g,n3,rfl,hK,rfl,hb3⟩;rw[HRE.out] at hK;have HB3:=ae (HB.out.trans (hb3.mono HB.out.size));have HO3:=ae (HO.out.new hb3);have HK3:=ae hK;have hC3:=HB3.out.size;have hlen:(iO K H Z s x).length=((K:Int)+H).toNat:=(by rw[HRL.out.1];omega);have HNE:Hid (some g≠(Value.slice bv nv cv).ownBlock):=ae (HO3.out.ty hK (by decide));have HLN:=ae hlen;have hq:=fun W a l c=>run_neq_slice_nil (P:=prog) W 30 5 a l c underlying30;clear hK hb3 hlen cq k0 k1 k2 HO S1 HB;generalize ((K:Int)+H).toNat=N at*
   go_wp2_with (at_builtin;refine fF (w:=w3) rfl _ _ rfl underlying45 dI rfl (by decide) (by decide) HO3.out (az _ _) hC3 hsl (R:=rB (iO K H Z s x)) ?r1 rfl rfl rfl ?_)
   case r1=>
    have h1:(rB (iO K H Z s x)).ok w3 (fun b=>Any b/\some b≠(Value.slice bv nv cv).ownBlock) [slice (some ⟨g,0,none⟩) (iO K H Z s x).length (iO K H Z s x).length]:=lQ HK3.out ⟨trivial,HNE.out⟩ (by rw[HRL.out.1];unfold maxLen;omega);rw[HLN.out] at h1;exact h1
   intro v4 w4 hO4 hb4;rw[<-HSN.out] at hO4;have HO4:=ae hO4;have HB4:=ae (HB3.out.trans hb4);clear hO4 hb4 HO3 HK3 HB3 hC3;obtain⟨b4,n4,c4,rfl⟩:=HO4.out.sl;go_wp2_with fail;go_roundw
   case rel=>exact⟨k+1,by omega,by go_num,HO4,HB4⟩
   case measure=>simp[intOf];omega
  ·obtain rfl:k=n:=by omega
   rw[aJ (by rw[HL.out];exact ah _)] at HO;go_wp2_with fail;go_ret;exact⟨_,rfl,(rM _).any HO.out.rep,S1.out.1⟩
