import Derived.Test.YtofgapdnadbgkaaGreatDoorW11
set_option linter.unusedVariables false
set_option maxRecDepth 100000
set_option maxHeartbeats 400000000
namespace Go.Proofs.YtofgapdnadbgkaaGreatDoor
open Go.RowKit _root_.Go.Proofs.Tryz
def qI(l:List Nat):List Value:=l.map fun x:Nat=>Value.int .u8 x
def iJ(l:List Nat):Array Value:=(qI l).toArray
theorem uA{l:List Nat}{i:Nat}(h:i<l.length):(qI l)[i]? =some (.int .u8 (l.getD i 0:Nat)):=by
 unfold qI;rw[List.getElem?_map,ag h,af,ag h];rfl
theorem zX(l:List Nat)(i x:Nat):(iJ l).setIfInBounds i (.int .u8 (x:Nat))=iJ (l.set i x):=by
 apply Array.ext';simp[iJ,qI]
theorem Nn(n:Nat):madeCells #[Value.int .u8 0] n=iJ (List.replicate n 0):=by
 apply Array.ext (by rw[size_madeCells];simp[iJ,qI]);intro i h1 h2;rw[size_madeCells] at h1;simp[iJ,qI,madeCells,Nat.mod_one]
theorem iA{w:World}{g:Nat}{t:TypeId}{x y z:Value}(h:Blk w g t #[x,y,z]):w.cell? ⟨g,0,none⟩=some x∧w.cell? ⟨g,1,none⟩=some y∧w.cell? ⟨g,2,none⟩=some z:=⟨h.cell 0,h.cell 1,h.cell 2⟩
theorem Lm{K H S s id:Int}(h:¬(ed K H S∧0≤id∧id≤65535)):gq K H S s id=[]:=by unfold gq;rw[if_neg h]
theorem rY{K H S:Int}(h:ed K H S=true):∃n:Nat,gV K H S=(n:Int)∧K+H=(n:Int)∧2≤n∧n≤20:=by
 have h1:=of_decide_eq_true h;obtain⟨n,hn⟩:=Int.eq_ofNat_of_zero_le (a:=K+H) (by omega);exact⟨n,by unfold gV;rw[if_pos h];exact hn,hn,by omega,by omega⟩
theorem F8{K H S id:Int}(h:¬(ed K H S∧0≤id∧id≤65535)):ed K H S=false∨(ed K H S=true∧id<0)∨(ed K H S=true∧¬id<0∧65535<id):=by
 cases hk:ed K H S with
 | false=>exact .inl rfl
 | true=>
   right;by_cases h0:id<0
   ·exact .inl ⟨rfl,h0⟩
   ·exact .inr ⟨rfl,h0,by
     by_cases h1:65535<id
     ·exact h1
     ·exact absurd ⟨hk,by omega,by omega⟩ h⟩
theorem Cb(K H S s id:Int)(w:World)(h:¬(ed K H S∧0≤id∧id≤65535)):
 Calls prog 43 #[bL K H S,.int .u32 s,.int .i64 id] w fun e w'=>e=.returned (.slice none 0 0)∧Below w.heap.size w w':=by
 have CM:=ae fun w=>eP K H S w;have HB0:=ae ((az w.heap.size w).alloc (ah _) (.cells #[.int .i64 K,.int .i64 H,.int .i64 S] 26));unfold bL at CM ⊢;rcases F8 h with h1 | ⟨h1,h2⟩ | ⟨h1,h2,h3⟩
 all_goals(
  rw[h1] at CM;clear h h1;go_enter func43,ntmps43;go_wp2_with fail;generalize w.alloc (.cells #[.int .i64 K,.int .i64 H,.int .i64 S] 26)=w0 at*;refine(CM.out _).mono ?_;rintro e w1 ⟨rfl,hb⟩;have HB:=ae (HB0.out.trans (hb.mono HB0.out.size));clear hb CM;go_wp2_with fail;go_ret;exact⟨rfl,HB.out⟩)
theorem qJ(id:Int)(w:World):
 Calls prog 159 #[.int .i64 id] w fun e w'=>e=.returned (.bool (decide (0≤id∧id≤65535)))∧w=w':=by
 by_cases h1:0≤id
 ·by_cases h2:id≤65535
  ·have e:decide (0≤id∧id≤65535)=true:=decide_eq_true ⟨h1,h2⟩
   rw[e];clear e;go_enter func159,ntmps159;go_wp2_with fail;go_ret;exact⟨rfl,rfl⟩
  ·have e:decide (0≤id∧id≤65535)=false:=decide_eq_false fun h=>h2 h.2
   rw[e];clear e;go_enter func159,ntmps159;go_wp2_with fail;go_ret;exact⟨rfl,rfl⟩
 ·have e:decide (0≤id∧id≤65535)=false:=decide_eq_false fun h=>h1 h.1
  rw[e];clear e;go_enter func159,ntmps159;go_wp2_with fail;go_ret;exact⟨rfl,rfl⟩
theorem zY{w:World}{C n:Nat}{v:Value}(h:OwnI w C v (eD n))(h1:1≤n)(h2:n≤64):∃g c,v=.slice (some ⟨g,0,none⟩) n c∧C≤g∧g<w.heap.size∧Rd w w.heap.size (some ⟨g,0,none⟩) n (bf (eD n))∧(eD n).length=n:=by
 have hl:(eD (n:Int)).length=n:=by rw[sF ⟨h1,h2⟩,eC]
 obtain⟨a,c,rfl,hr⟩:=h.rd;rw[hl] at h hr ⊢;obtain⟨g,rfl,hg1,hg2⟩:=h.formA hl (by omega);exact⟨g,c,rfl,hg1,hg2,hr,rfl⟩
theorem rq(K H S s id:Int)(w:World)(hk:ed K H S=true)(h0:0≤id)(h1:id≤65535)(hs0:0≤s)(hs1:s<4294967296):
 Calls prog 43 #[bL K H S,.int .u32 s,.int .i64 id] w fun e w'=>∃v,e=.returned v∧OwnI w' w.heap.size v (qA (K+H) (gY (jf s id)))∧Below w.heap.size w w':=by
 obtain⟨n,hn1,hn2,hn3,hn4⟩:=rY hk;have CM:=ae fun w=>eP K H S w;have HB0:=ae ((az w.heap.size w).alloc (ah _) (.cells #[.int .i64 K,.int .i64 H,.int .i64 S] 26));have HX0:=ae (Blk.new w 26 #[.int .i64 K,.int .i64 H,.int .i64 S]);have CC:=ae fun w=>lU K H S w;rw[hk] at CM;rw[hn1] at CC;rw[hn2];have hbd:=Iw id hs0 hs1;have hid0:¬id<0:=by omega
 have hid1:¬65535<id:=by omega
 have hsd:bits .xor .u32 s (IntKind.u32.wrap (id%4294967296*2654435761))=jf s id:=rfl;have hsd2:bits .xor .u32 s (IntKind.u32.wrap (id*2654435761))=jf s id:=by unfold jf tL;rw[show id%4294967296=id by omega]
 have hsd3:bits .xor .u32 s (id*2654435761%4294967296)=jf s id:=by unfold jf tL;rw[show id%4294967296=id by omega,IntKind.wrap_u32]
 unfold bL at CM CC ⊢;unfold qA;have HBD:=ae hbd;have HN:=ae (And.intro hn3 hn4);have hn64:n≤64:=by omega
 clear hk hn1 hn2 hn3 hn4 hs0 hs1 hbd;generalize jf s id=sd at*;go_enter func43,ntmps43;go_wp2_with fail;generalize w.alloc (.cells #[.int .i64 K,.int .i64 H,.int .i64 S] 26)=w0 at*;refine(CM.out _).mono ?_;rintro e w1 ⟨rfl,hb⟩;have HB1:=ae (HB0.out.trans (hb.mono HB0.out.size));have HX1:=ae (HX0.out.below hb HX0.out.lt);obtain⟨k0,k1,k2⟩:=iA HX1.out;clear hb CM HB0 HX0;go_wp2_with fail;refine(CC.out _).mono ?_;rintro e w2 ⟨rfl,hb⟩;have HB2:=ae (HB1.out.trans (hb.mono HB1.out.size));clear hb CC HB1;go_wp2_with fail;refine(Hy sd w2 HBD.out.1 (by have:=HBD.out.2;omega)).mono ?_;rintro e w3 ⟨rfl,rfl⟩;have HA3:=ae (At.new w2 (.int .u64 sd) 228);have HB3:=ae (HB2.out.alloc HB2.out.size (.cells #[.int .u64 sd] 228));have hB:w.heap.size≤w2.heap.size:=HB2.out.size;clear HB2;generalize w2.alloc (.cells #[.int .u64 sd] 228)=w3 at*;generalize w2.heap.size=B at*;go_wp2_with fail;refine(ww sd ⟨B,0,none⟩ w3 HA3.out.1 HA3.out.2).mono ?_;rintro e w4 ⟨rfl,rfl⟩;have HA4:=ae (HA3.out.put (.int .u64 (gY sd)));have HB4:=ae (HB3.out.setCell (p:=⟨B,0,none⟩) hB (.int .u64 (gY sd)));clear HA3 HB3;generalize w3.setCell ⟨B,0,none⟩ (.int .u64 (gY sd))=w4 at*;have hBlt:B<w4.heap.size:=HA4.out.lt;go_wp2_with fail;refine(FX n (by omega) w4).mono ?_;rintro e w5 ⟨v,rfl,hT,hb5⟩;obtain⟨g,c,rfl,hg1,hg2,hr,hl⟩:=zY hT (by have:=HN.out;omega) (by have:=HN.out;omega);have HR:=ae hr;have HL:=ae hl;have HA5:=ae (HA4.out.below hb5 hBlt);have HB5:=ae (HB4.out.trans (hb5.mono HB4.out.size));have HSM:=ae (xa n);clear hT hr hl hb5 HA4 HB4 hg2;go_wp2_with fail;refine(Jn (eD n) w5.heap.size (some ⟨g,0,none⟩) n c (gY sd) ⟨B,0,none⟩ w5 HR.out HL.out (by omega) HSM.out HA5.out.1 HA5.out.2 (.inr ⟨g,0,rfl,by show g≠B;omega⟩)).mono ?_;rintro e w6 ⟨rfl,rfl⟩;have HA6:=ae (HA5.out.put (.int .u64 (fS (eD n) (gY sd))));have HB6:=ae (HB5.out.setCell (p:=⟨B,0,none⟩) hB (.int .u64 (fS (eD n) (gY sd))));clear HA5 HB5 HR HL;generalize w5.setCell ⟨B,0,none⟩ (.int .u64 (fS (eD n) (gY sd)))=w6 at*;go_wp2_with fail;refine(Lj B 0 (fS (eD n) (gY sd)) n (j4 (eD n) (gY sd)) w6 HA6.out).mono ?_;rintro e w7 ⟨v,rfl,hO,hb7⟩;obtain⟨a7,c7,rfl⟩:=hO.lenA;have HO:=ae hO;have HB7:=ae (Aft.below HA6.out hb7 HB6.out hB);have hsz:w.heap.size≤w6.heap.size:=HB6.out.size;clear hO hb7;go_wp2_with fail;go_ret;exact⟨_,rfl,HO.out.base hsz,HB7.out⟩
theorem Cc(K H S s id:Int)(w:World)(hk:ed K H S=true)(h0:0≤id)(h1:id≤65535)(hs0:0≤s)(hs1:s<4294967296):
 Calls prog 227 #[bL K H S,.int .u32 s,.int .i64 id] w fun e w'=>∃v,e=.returned v∧OwnI w' w.heap.size v (qA (K+H) (gY (jf s id)))∧Below w.heap.size w w':=by
 obtain⟨n,hn1,hn2,hn3,hn4⟩:=rY hk;have CM:=ae fun w=>mM K H S w;have HB0:=ae ((az w.heap.size w).alloc (ah _) (.cells #[.int .i64 K,.int .i64 H,.int .i64 S] 26));have HX0:=ae (Blk.new w 26 #[.int .i64 K,.int .i64 H,.int .i64 S]);have CC:=ae fun w=>uL K H S w;have CI:=ae fun w=>qJ id w;rw[hk] at CM;rw[hn1] at CC;rw[hn2];rw[decide_eq_true ⟨h0,h1⟩] at CI;have hbd:=Iw id hs0 hs1;have hsd:bits .xor .u32 s (IntKind.u32.wrap (id%4294967296*2654435761))=jf s id:=rfl;have hsd2:bits .xor .u32 s (IntKind.u32.wrap (id*2654435761))=jf s id:=by unfold jf tL;rw[show id%4294967296=id by omega]
 have hsd3:bits .xor .u32 s (id*2654435761%4294967296)=jf s id:=by unfold jf tL;rw[show id%4294967296=id by omega,IntKind.wrap_u32]
 have hw1:IntKind.u64.wrap (jf s id)=jf s id:=by rw[IntKind.wrap_u64];omega
 have hw2:jf s id%18446744073709551616=jf s id:=by omega
 unfold bL at CM CC ⊢;unfold qA;have HBD:=ae hbd;have HN:=ae (And.intro hn3 hn4);have hn64:n≤64:=by omega
 clear hk hn1 hn2 hn3 hn4 hs0 hs1 hbd;generalize jf s id=sd at*;go_enter func227,ntmps227;go_wp2_with fail;generalize w.alloc (.cells #[.int .i64 K,.int .i64 H,.int .i64 S] 26)=w0 at*;refine(CM.out _).mono ?_;rintro e w1 ⟨rfl,hb⟩;have HB1:=ae (HB0.out.trans (hb.mono HB0.out.size));have HX1:=ae (HX0.out.below hb HX0.out.lt);obtain⟨k0,k1,k2⟩:=iA HX1.out;clear hb CM HB0 HX0;go_wp2_with fail;refine(CI.out _).mono ?_;rintro e w2 ⟨rfl,rfl⟩;clear CI;go_wp2_with fail;rename World=>w2;have HA3:=ae (At.new w2 (.int .u64 sd) 334);have HB3:=ae (HB1.out.alloc HB1.out.size (.cells #[.int .u64 sd] 334));have hB:w.heap.size≤w2.heap.size:=HB1.out.size;have hPB:w.heap.size<w2.heap.size:=HX1.out.lt;have HX3:=ae (HX1.out.alloc (.cells #[.int .u64 sd] 334));clear HB1 k0 k1 k2 HX1;generalize w2.alloc (.cells #[.int .u64 sd] 334)=w3 at*;generalize w2.heap.size=B at*;refine(sO sd ⟨B,0,none⟩ w3 HA3.out.1 HA3.out.2).mono ?_;rintro e w4 ⟨rfl,rfl⟩;have HA4:=ae (HA3.out.put (.int .u64 (gY sd)));have HB4:=ae (HB3.out.setCell (p:=⟨B,0,none⟩) hB (.int .u64 (gY sd)));have HX4:=ae (HX3.out.far (p:=⟨B,0,none⟩) (by show w.heap.size≠B;omega) (.int .u64 (gY sd)));clear HA3 HB3 HX3;generalize w3.setCell ⟨B,0,none⟩ (.int .u64 (gY sd))=w4 at*;have hBlt:B<w4.heap.size:=HA4.out.lt;obtain⟨k0,k1,k2⟩:=iA HX4.out;go_wp2_with fail;refine(CC.out _).mono ?_;rintro e w4b ⟨rfl,hb⟩;have HA4b:=ae (HA4.out.below hb hBlt);have HB4b:=ae (HB4.out.trans (hb.mono HB4.out.size));have hBlt:=HA4b.out.lt;have HX4b:=ae (HX4.out.below hb HX4.out.lt);clear HA4 HB4 hb HX4 k0 k1 k2;go_wp2_with fail;refine(Ez n (by omega) w4b).mono ?_;rintro e w5 ⟨v,rfl,hT,hb5⟩;obtain⟨g,c,rfl,hg1,hg2,hr,hl⟩:=zY hT (by have:=HN.out;omega) (by have:=HN.out;omega);have HR:=ae hr;have HL:=ae hl;have HA5:=ae (HA4b.out.below hb5 hBlt);have HB5:=ae (HB4b.out.trans (hb5.mono HB4b.out.size));have HSM:=ae (xa n);have HDT:=ae (Jm n (gY sd));have HX5:=ae (HX4b.out.below hb5 HX4b.out.lt);clear hT hr hl hb5 HA4b HB4b hg2 HX4b;go_wp2_with fail;refine(uH (eD n) w5.heap.size (some ⟨g,0,none⟩) n c (gY sd) ⟨B,0,none⟩ w5 HR.out HL.out (by omega) HSM.out HA5.out.1 HA5.out.2 (.inr ⟨g,0,rfl,by show g≠B;omega⟩)).mono ?_;rintro e w6 ⟨rfl,rfl⟩;rw[←HDT.out];have HA6:=ae (HA5.out.put (.int .u64 (fS (eD n) (gY sd))));have HB6:=ae (HB5.out.setCell (p:=⟨B,0,none⟩) hB (.int .u64 (fS (eD n) (gY sd))));have HX6:=ae (HX5.out.far (p:=⟨B,0,none⟩) (by show w.heap.size≠B;omega) (.int .u64 (fS (eD n) (gY sd))));obtain⟨k0,k1,k2⟩:=iA HX6.out;clear HA5 HB5 HR HL HX5;generalize w5.setCell ⟨B,0,none⟩ (.int .u64 (fS (eD n) (gY sd)))=w6 at*
 clear HDT HSM;go_wp2_with fail;refine(CC.out _).mono ?_;rintro e w6b ⟨rfl,hb⟩;have HA6b:=ae (HA6.out.below hb HA6.out.lt);have HB6b:=ae (HB6.out.trans (hb.mono HB6.out.size));clear HA6 HB6 hb;go_wp2_with fail;refine(Ll B 0 (fS (eD n) (gY sd)) n (j4 (eD n) (gY sd)) w6b HA6b.out).mono ?_;rintro e w7 ⟨v,rfl,hO,hb7⟩;obtain⟨a7,c7,rfl⟩:=hO.lenA;have HO:=ae hO;have HB7:=ae (Aft.below HA6b.out hb7 HB6b.out hB);have hsz:w.heap.size≤w6b.heap.size:=HB6b.out.size;clear hO hb7;go_wp2_with fail;go_ret;exact⟨_,rfl,HO.out.base hsz,HB7.out⟩
theorem ym(K H S s id:Int)(w:World)(hs0:0≤s)(hs1:s<4294967296):
 Calls prog 43 #[bL K H S,.int .u32 s,.int .i64 id] w fun e w'=>∃v,e=.returned v∧OwnI w' w.heap.size v (gq K H S s id)∧Below w.heap.size w w':=by
 by_cases h:ed K H S∧0≤id∧id≤65535
 ·have e:gq K H S s id=qA (K+H) (gY (jf s id)):=by unfold gq;rw[if_pos h]
  rw[e];exact rq K H S s id w h.1 h.2.1 h.2.2 hs0 hs1
 ·rw[Lm h]
  exact(Cb K H S s id w h).mono fun e w' ⟨h1,h2⟩=>⟨_,h1,OwnI.nil _ _,h2⟩
theorem infoY:(prog.info? 5).map (fun i=>(i.zero,i.size,i.bytes))=some (some (.int .u8 0),1,1):=by kernel_rfl
theorem Jb{n:Nat}(hn:n≤1000000)(w:World):(Instr.makeSlice 23 (.int .i64 (n:Int)) (.int .i64 (n:Int))).run prog w=.ok (.slice (some ⟨w.heap.size,0,none⟩) n n) (w.alloc (.cells (iJ (List.replicate n 0)) 5)):=by
 obtain⟨i0,hi,hz0,hz1,hz2⟩:=info_parts infoY;have h:=run_make (P:=prog) w 23 5 i0 (.int .u8 0) underlying23 hi hz0 .i64 .i64 (n:Int) (n:Int) (by omega) (by omega) (by rw[hz2];omega) (by omega);rw[hz1,Nat.mul_one,Int.toNat_natCast] at h;rw[←Nn];exact h
theorem OwnI.far{w:World}{C:Nat}{v:Value}{l:List Nat}(h:OwnI w C v l){B:Nat}(hB:B<C)(i:Nat)(u:Value):OwnI (w.setCell ⟨B,i,none⟩ u) C v l:=by
 have hg:w.grownBy (w.setCell ⟨B,i,none⟩ u) (some B):=⟨rfl,rfl,rfl,by simp,fun k _ hk=>heap_setCell_other w ⟨B,i,none⟩ k u (fun e=>hk (by rw[e]))⟩;refine World.ownsRow.kept h hg ?_;cases hv:v.ownBlock with
 | none=>exact .inl rfl
 | some b=>
   right;intro e;have:=(OwnI.ltA h b hv).1;injection e with e;omega
theorem Ce(K H S s id:Int)(w:World)(hk:ed K H S=true)(h0:0≤id)(h1:id≤65535)(hs0:0≤s)(hs1:s<4294967296):
 Calls prog 69 #[bL K H S,.int .u32 s,.int .i64 id] w fun e w'=>∃g n,e=.returned (.slice (some ⟨g,0,none⟩) n n)∧Blk w' g 5 (iJ (oM (K+H).toNat (qA (K+H) (gY (jf s id)))))∧(K+H).toNat=n∧Below w.heap.size w w':=by
 obtain⟨n,hn1,hn2,hn3,hn4⟩:=rY hk;have CM:=ae fun w=>eP K H S w;have HB0:=ae ((az w.heap.size w).alloc (ah _) (.cells #[.int .i64 K,.int .i64 H,.int .i64 S] 26));have HX0:=ae (Blk.new w 26 #[.int .i64 K,.int .i64 H,.int .i64 S]);have CC:=ae fun w=>lU K H S w;have CL:=ae fun w=>rq K H S s id w hk h0 h1 hs0 hs1;rw[hk] at CM;rw[hn1] at CC;rw[hn2] at CL ⊢;rw[Int.toNat_natCast];have hn64:n≤64:=by omega
 obtain⟨-,hlt,-⟩:=xK (n:=n) (by omega) hn64 (gY (jf s id));have hll:=xJ n (gY (jf s id));have hid0:¬id<0:=by omega
 have hid1:¬65535<id:=by omega
 have hmk:=Jb (n:=n) (by omega);unfold bL at CM CC CL ⊢;have HLT:=ae hlt;clear hk hn1 hn2 hn3 hn4 hs0 hs1 hlt;generalize qA (n:Int) (gY (jf s id))=L at*;obtain⟨q,hq⟩:∃q,L.length=q:=⟨_,rfl⟩;have HQ:=ae hq;rw[hq] at hll;clear hq;go_enter func69,ntmps69;go_wp2_with fail;generalize w.alloc (.cells #[.int .i64 K,.int .i64 H,.int .i64 S] 26)=w0 at*;refine(CM.out _).mono ?_;rintro e w1 ⟨rfl,hb⟩;have HB1:=ae (HB0.out.trans (hb.mono HB0.out.size));have HX1:=ae (HX0.out.below hb HX0.out.lt);obtain⟨k0,k1,k2⟩:=iA HX1.out;clear hb CM HB0 HX0;go_wp2_with fail;refine(CC.out _).mono ?_;rintro e w2 ⟨rfl,hb⟩;have HB2:=ae (HB1.out.trans (hb.mono HB1.out.size));have HX2:=ae (HX1.out.below hb HX1.out.lt);clear hb CC HB1 k0 k1 k2;obtain⟨k0,k1,k2⟩:=iA HX2.out;obtain⟨m0,m1,m2⟩:=iA (HX2.out.alloc (.cells (iJ (List.replicate n 0)) 5))
 go_wp2_with (simp only[])
 have HK3:Hid (Blk (w2.alloc (.cells (iJ (List.replicate n 0)) 5)) w2.heap.size 5 (iJ (oM n (L.take 0)))):=ae (Blk.new w2 5 (iJ (List.replicate n 0)));have HB3:=ae (HB2.out.alloc HB2.out.size (.cells (iJ (List.replicate n 0)) 5));have hB:w.heap.size≤w2.heap.size:=HB2.out.size;clear HB2 hmk k0 k1 k2 m0 m1 m2;generalize w2.alloc (.cells (iJ (List.replicate n 0)) 5)=w3 at*;generalize w2.heap.size=B at*;have hBlt:B<w3.heap.size:=HK3.out.lt;refine(CL.out w3).mono ?_;rintro e w4 ⟨v,rfl,hO,hb⟩;obtain⟨aL,cL,rfl⟩:=hO.lenA;rw[HQ.out] at hO ⊢;have HO4:=ae hO;have HK4:=ae (HK3.out.below hb hBlt);have HB4:=ae (HB3.out.trans (hb.mono HB3.out.size));generalize w3.heap.size=C at*;clear hO hb HK3 HB3 CL;generalize hG:w.heap.size=G at*;have HG:=ae hG;clear hG;go_wp2_with fail;go_loopw [29] (fun i wr=>∃k:Nat,k≤q∧i=.int .i64 k∧Hid (Blk wr B 5 (iJ (oM n (L.take k))))∧Hid (OwnI wr C (.slice aL q cL) L)∧Hid (Below G w wr)) (fun i _=>q-(intOf i).toNat)
 case atStart=>exact⟨0,by omega,rfl,HK4,HO4,HB4⟩
 case round=>
  clear HK4 HO4 HB4;obtain⟨k,hk,rfl,HK,HO,HB⟩:=hrel;by_cases hkq:k<q
  ·have hkqI:(k:Int)<(q:Int):=by omega
   have hkL:k<L.length:=(by rw[HQ.out];exact hkq);obtain⟨g,rfl,hg1,hg2⟩:=HO.out.formA HQ.out (by omega);obtain⟨hcx,-⟩:=HO.out.cellA HQ.out hkq;have hxn:L.getD k 0<n:=HLT.out _ (by rw[getD_at hkL];exact aU hkL);have HTK:Hid (oM n (L.take (k+1))=(oM n (L.take k)).set (L.getD k 0) 1):=ae (by rw[aP hkL,zq,getD_at hkL]);have hlen:=rO n (L.take k);generalize hX:L.getD k 0=x at*;clear hX
   have hcell:wr.cell? ⟨B,x,none⟩=some (.int .u8 ((oM n (L.take k)).getD x 0:Nat)):=by
    rw[HK.out.cell x];have:=uA (l:=oM n (L.take k)) (i:=x) (by rw[hlen];exact hxn);simpa[iJ] using this
   have hfr:=HK.out.frozen x;have hst:=HK.out.set x (.int .u8 ((1:Nat):Int));rw[zX,←HTK.out] at hst;have HK2:Hid (Blk (wr.setCell ⟨B,x,none⟩ (.int .u8 1)) B 5 (iJ (oM n (L.take (k+1))))):=ae hst;have HO2:Hid (OwnI (wr.setCell ⟨B,x,none⟩ (.int .u8 1)) C (.slice (some ⟨g,0,none⟩) q cL) L):=ae (HO.out.far hBlt x (.int .u8 1));have HB2:Hid (Below G w (wr.setCell ⟨B,x,none⟩ (.int .u8 1))):=ae (HB.out.setCell (p:=⟨B,x,none⟩) hB _);have hxnI:(x:Int)<(n:Int):=(by omega);clear hst HTK hlen HK HO HB hkL;generalize (oM n (L.take k)).getD x 0=y at*;go_wp2_with fail;go_roundw
   case rel=>(try((repeat apply Exists.intro);refine⟨?_,rfl⟩));exact⟨k+1,by omega,by go_num,HK2,HO2,HB2⟩
   case measure=>simp[intOf];omega
  ·obtain rfl:k=q:=by omega
   rw[aO (by rw[HQ.out];exact ah _)] at HK;go_wp2_with fail;go_ret;exact⟨_,_,rfl,HK.out,rfl,by rw[HG.out];exact HB.out⟩
theorem zZ(K H S s id:Int)(w:World)(hk:ed K H S=true)(h0:0≤id)(h1:id≤65535)(hs0:0≤s)(hs1:s<4294967296):
 Calls prog 160 #[bL K H S,.int .u32 s,.int .i64 id] w fun e w'=>∃g n,e=.returned (.slice (some ⟨g,0,none⟩) n n)∧Blk w' g 5 (iJ (oM (K+H).toNat (qA (K+H) (gY (jf s id)))))∧(K+H).toNat=n∧Below w.heap.size w w':=by
 obtain⟨n,hn1,hn2,hn3,hn4⟩:=rY hk;have CM:=ae fun w=>mM K H S w;have HB0:=ae ((az w.heap.size w).alloc (ah _) (.cells #[.int .i64 K,.int .i64 H,.int .i64 S] 26));have HX0:=ae (Blk.new w 26 #[.int .i64 K,.int .i64 H,.int .i64 S]);have CC:=ae fun w=>uL K H S w;have CL:=ae fun w=>Cc K H S s id w hk h0 h1 hs0 hs1;have CI:=ae fun w=>qJ id w;rw[decide_eq_true ⟨h0,h1⟩] at CI;rw[hk] at CM;rw[hn1] at CC;rw[hn2] at CL ⊢;rw[Int.toNat_natCast];have hn64:n≤64:=by omega
 obtain⟨-,hlt,-⟩:=xK (n:=n) (by omega) hn64 (gY (jf s id));have hll:=xJ n (gY (jf s id));have hid0:¬id<0:=by omega
 have hid1:¬65535<id:=by omega
 have hmk:=Jb (n:=n) (by omega);unfold bL at CM CC CL ⊢;have HLT:=ae hlt;clear hk hn1 hn2 hn3 hn4 hs0 hs1 hlt;generalize qA (n:Int) (gY (jf s id))=L at*;obtain⟨q,hq⟩:∃q,L.length=q:=⟨_,rfl⟩;have HQ:=ae hq;rw[hq] at hll;clear hq;go_enter func160,ntmps160;go_wp2_with fail;generalize w.alloc (.cells #[.int .i64 K,.int .i64 H,.int .i64 S] 26)=w0 at*;refine(CM.out _).mono ?_;rintro e w1 ⟨rfl,hb⟩;have HB1:=ae (HB0.out.trans (hb.mono HB0.out.size));have HX1:=ae (HX0.out.below hb HX0.out.lt);obtain⟨k0,k1,k2⟩:=iA HX1.out;clear hb CM HB0 HX0;go_wp2_with fail;refine(CI.out _).mono ?_;rintro e w1b ⟨rfl,rfl⟩;clear CI;go_wp2_with fail;refine(CC.out _).mono ?_;rintro e w2 ⟨rfl,hb⟩;have HB2:=ae (HB1.out.trans (hb.mono HB1.out.size));have HX2:=ae (HX1.out.below hb HX1.out.lt);clear hb CC HB1 k0 k1 k2;obtain⟨k0,k1,k2⟩:=iA HX2.out;obtain⟨m0,m1,m2⟩:=iA (HX2.out.alloc (.cells (iJ (List.replicate n 0)) 5))
 go_wp2_with (simp only[])
 have HK3:Hid (Blk (w2.alloc (.cells (iJ (List.replicate n 0)) 5)) w2.heap.size 5 (iJ (oM n (L.take 0)))):=ae (Blk.new w2 5 (iJ (List.replicate n 0)));have HB3:=ae (HB2.out.alloc HB2.out.size (.cells (iJ (List.replicate n 0)) 5));have hB:w.heap.size≤w2.heap.size:=HB2.out.size;clear HB2 hmk k0 k1 k2 m0 m1 m2;generalize w2.alloc (.cells (iJ (List.replicate n 0)) 5)=w3 at*;generalize w2.heap.size=B at*;have hBlt:B<w3.heap.size:=HK3.out.lt;refine(CL.out w3).mono ?_;rintro e w4 ⟨v,rfl,hO,hb⟩;obtain⟨aL,cL,rfl⟩:=hO.lenA;rw[HQ.out] at hO ⊢;have HO4:=ae hO;have HK4:=ae (HK3.out.below hb hBlt);have HB4:=ae (HB3.out.trans (hb.mono HB3.out.size));generalize w3.heap.size=C at*;clear hO hb HK3 HB3 CL;generalize hG:w.heap.size=G at*;have HG:=ae hG;clear hG;go_wp2_with fail;go_loopw [26] (fun i wr=>∃k:Nat,k≤q∧i=.int .i64 k∧Hid (Blk wr B 5 (iJ (oM n (L.take k))))∧Hid (OwnI wr C (.slice aL q cL) L)∧Hid (Below G w wr)) (fun i _=>q-(intOf i).toNat)
 case atStart=>exact⟨0,by omega,rfl,HK4,HO4,HB4⟩
 case round=>
  clear HK4 HO4 HB4;obtain⟨k,hk,rfl,HK,HO,HB⟩:=hrel;by_cases hkq:k<q
  ·have hkqI:(k:Int)<(q:Int):=by omega
   have hkL:k<L.length:=(by rw[HQ.out];exact hkq);obtain⟨g,rfl,hg1,hg2⟩:=HO.out.formA HQ.out (by omega);obtain⟨hcx,-⟩:=HO.out.cellA HQ.out hkq;have hxn:L.getD k 0<n:=HLT.out _ (by rw[getD_at hkL];exact aU hkL);have HTK:Hid (oM n (L.take (k+1))=(oM n (L.take k)).set (L.getD k 0) 1):=ae (by rw[aP hkL,zq,getD_at hkL]);have hlen:=rO n (L.take k);generalize hX:L.getD k 0=x at*;clear hX
   have hcell:wr.cell? ⟨B,x,none⟩=some (.int .u8 ((oM n (L.take k)).getD x 0:Nat)):=by
    rw[HK.out.cell x];have:=uA (l:=oM n (L.take k)) (i:=x) (by rw[hlen];exact hxn);simpa[iJ] using this
   have hfr:=HK.out.frozen x;have hst:=HK.out.set x (.int .u8 ((1:Nat):Int));rw[zX,←HTK.out] at hst;have HK2:Hid (Blk (wr.setCell ⟨B,x,none⟩ (.int .u8 1)) B 5 (iJ (oM n (L.take (k+1))))):=ae hst;have HO2:Hid (OwnI (wr.setCell ⟨B,x,none⟩ (.int .u8 1)) C (.slice (some ⟨g,0,none⟩) q cL) L):=ae (HO.out.far hBlt x (.int .u8 1));have HB2:Hid (Below G w (wr.setCell ⟨B,x,none⟩ (.int .u8 1))):=ae (HB.out.setCell (p:=⟨B,x,none⟩) hB _);have hxnI:(x:Int)<(n:Int):=(by omega);clear hst HTK hlen HK HO HB hkL;generalize (oM n (L.take k)).getD x 0=y at*;go_wp2_with fail;go_roundw
   case rel=>(try((repeat apply Exists.intro);refine⟨?_,rfl⟩));exact⟨k+1,by omega,by go_num,HK2,HO2,HB2⟩
   case measure=>simp[intOf];omega
  ·obtain rfl:k=q:=by omega
   rw[aO (by rw[HQ.out];exact ah _)] at HK;go_wp2_with fail;go_ret;exact⟨_,_,rfl,HK.out,rfl,by rw[HG.out];exact HB.out⟩
theorem zR(K H S:Int)(G:Nat)(cs:Array Value)(w:World)(hx:Blk w G 26 cs):
 Calls prog 44 #[.agg #[.int .i64 K,.int .i64 H,.int .i64 S]] w fun e w'=>e=.returned (.bool (ed K H S))∧Blk w' G 26 cs∧Below w.heap.size w w':=
 (mM K H S w).mono fun e w' ⟨h1,h2⟩=>⟨h1,hx.below h2 hx.lt,h2⟩
theorem vW(K H:Nat)(S:Int)(w:World)(hK:1≤K∧K≤16)(hH:1≤H∧H≤4)(hS:1≤S∧S≤24):
 Calls prog 158 #[bL K H S] w fun e w'=>∃v,e=.returned v∧MOwn w' w.heap.size v (bD K H H)∧Below w.heap.size w w':=by
 have hb:=(az w.heap.size w).alloc (ah _) (.cells #[.int .i64 K,.int .i64 H,.int .i64 S] 26);have hB:=Blk.new w 26 #[.int .i64 K,.int .i64 H,.int .i64 S];have hok:ed K H S=true:=pM (by omega);have HB:=ae hb;have HBX:=ae hB;have CM:=ae fun G cs w hx=>zR K H S G cs w hx;rw[hok] at CM;clear hb hB hok;unfold bL;go_enter func158,ntmps158;go_wp2_with fail;generalize w.alloc (.cells #[.int .i64 K,.int .i64 H,.int .i64 S] 26)=w1 at*;generalize hG:w.heap.size=G at*;have HG:=ae hG;clear hG;have HM0:Hid (MOwn w1 G (.slice none 0 0) (bD K H 0)):=ae (MOwn.nil _ _);go_loopw [3,4,5,6] (fun o i _ _ wr=>∃r:Nat,r≤H∧i=.int .i64 r∧Hid (MOwn wr G o (bD K H r))∧Hid (Blk wr G 26 #[.int .i64 K,.int .i64 H,.int .i64 S])∧Hid (Below G w wr)) (fun _ i _ _ _=>H-(intOf i).toNat)
 case atStart=>exact⟨0,by omega,rfl,HM0,HBX,HB⟩
 case round=>
  clear HM0 HB HBX;obtain⟨r,hr,rfl,HM,HBX,HB⟩:=hrel;rename World=>wo;obtain⟨c0,c1,c2⟩:=qa HBX.out;by_cases hrm:r<H
  ·have hrmI:(r:Int)<(H:Int):=by omega
   obtain⟨N,hN⟩:∃N,K+H=N:=⟨_,rfl⟩;obtain⟨q,hq⟩:∃q,K+r=q:=⟨_,rfl⟩;have hNI:((K:Int)+(H:Int))=(N:Int):=(by omega);have hN2:N≤64:=(by omega);have hNw:IntKind.i64.wrap (N:Int)=(N:Int):=(by rw[IntKind.wrap_i64];omega);have hqI:((K:Int)+(r:Int))=(q:Int):=(by omega);have hq2:q<N:=(by omega);have hqw:IntKind.i64.wrap (q:Int)=(q:Int):=(by rw[IntKind.wrap_i64];omega);have hKq:K≤q:=(by omega);have HN:=ae hN;have HQ:=ae hq;have hmk:=cQ (n:=N) (by omega);clear hN hq;generalize hD:wo.heap.size=D at*;have HD:=ae hD;clear hD;go_wp2_with fail;refine(CM.out _ _ _ HBX.out).mono ?_;rintro e w2 ⟨rfl,hx2,hb2⟩;obtain⟨k0,k1,k2⟩:=qa hx2;have HX2:=ae hx2;have HB2:=ae hb2;clear hx2 hb2
   go_wp2_with (simp only[])
   have hO0:OwnB (w2.alloc (.cells (bn (List.replicate N 0)) 5)) w2.heap.size (.slice (some ⟨w2.heap.size,0,none⟩) N N) (mY N r 0):=by
    have:=lf (l:=List.replicate N 0) (Blk.new w2 5 (bn (List.replicate N 0))) (ah _) (by rw[aN];omega)
    rwa [aN] at this
   have hDg:D≤w2.heap.size:=(by have h1:=HD.out;have h2:=HB2.out.size;omega);have HO0:Hid (OwnB (w2.alloc (.cells (bn (List.replicate N 0)) 5)) D (.slice (some ⟨w2.heap.size,0,none⟩) N N) (mY N r 0)):=ae (OwnB.base hO0 hDg);have HBD0:Hid (Below D wo (w2.alloc (.cells (bn (List.replicate N 0)) 5))):=ae (by rw[←HD.out];exact HB2.out.alloc HB2.out.size _);have HX3:Hid (Blk (w2.alloc (.cells (bn (List.replicate N 0)) 5)) G 26 #[.int .i64 K,.int .i64 H,.int .i64 S]):=ae (HX2.out.alloc _);have HTK:Hid (bD K H (r+1)=bD K H r++[(mY N r K).set q 1]):=ae (by rw[bD,HN.out,HQ.out,JJ _ _ _ _ hKq]);clear hO0 hmk HX2 HB2 k0 k1 k2 c0 c1 c2 hNI hNw;generalize w2.alloc (.cells (bn (List.replicate N 0)) 5)=w3 at*;generalize w2.heap.size=g3 at*;have hGD:G<D:=(by have h1:=Blk.lt HBX.out;have h2:=HD.out;omega);go_loopw [6] (fun i wq=>∃j:Nat,j≤K∧i=.int .i64 j∧Hid (OwnB wq D (.slice (some ⟨g3,0,none⟩) N N) (mY N r j))∧Hid (Below D wo wq)) (fun i _=>K-(intOf i).toNat)
   case atStart=>exact⟨0,by omega,rfl,HO0,HBD0⟩
   case round=>
    clear HO0 HBD0 HX3;obtain⟨j,hj,rfl,HO,HBD⟩:=hrel;obtain⟨c0,c1,c2⟩:=qa (HBX.out.below HBD.out hGD);by_cases hjn:j<K
    ·have hjnI:(j:Int)<(K:Int):=by omega
     obtain⟨x,hx⟩:∃x,(r+1)*(j+1)=x:=⟨_,rfl⟩;have hx2:x≤64:=(by rw[←hx];exact Nat.mul_le_mul (show r+1≤4 by omega) (show j+1≤16 by omega));have hxI:((r:Int)+1)*((j:Int)+1)=(x:Int):=(by rw[←hx];simp);have hx64:IntKind.i64.wrap (x:Int)=(x:Int):=(by rw[IntKind.wrap_i64];omega);have CE:=ae (K5 x (by omega) wr);rw[Eo x (by omega)] at CE;have HST:Hid (mY N r (j+1)=(mY N r j).set j (ex x)):=ae (by rw[mY,hx]);have hjN:(j:Int)<(N:Int):=(by omega);clear hx;generalize ex x=y at*;go_wp2_with fail;refine CE.out.mono ?_;rintro e w5 ⟨rfl,rfl⟩;have hl:(mY N r j).length=N:=Az _ _ _;obtain⟨cc,cf⟩:=OwnB.cell HO.out hl (k:=j) (by omega);have HS:=ae (OwnB.stored HO.out hl j y);clear hl;go_wp2_with fail;have HO5:Hid (OwnB (wr.setCell ⟨g3,j,none⟩ (.int .u8 (y:Nat))) D (.slice (some ⟨g3,0,none⟩) N N) (mY N r (j+1))):=ae (by rw[HST.out];exact HS.out.1);have HB5:Hid (Below D wo (wr.setCell ⟨g3,j,none⟩ (.int .u8 (y:Nat)))):=ae (Below.setCell HBD.out (p:=⟨g3,j,none⟩) hDg _);clear HS HST HO HBD CE cc cf c0 c1 c2;generalize wr.setCell ⟨g3,j,none⟩ (.int .u8 (y:Nat))=w5 at*;go_wp2_with fail;go_roundw
     case rel=>(try((repeat apply Exists.intro);refine⟨?_,rfl⟩));exact⟨j+1,by omega,by go_num,HO5,HB5⟩
     case measure=>simp[intOf];omega
    ·obtain rfl:j=K:=by omega
     have hqN:(q:Int)<(N:Int):=(by omega);have hl:(mY N r j).length=N:=Az _ _ _;obtain⟨cc,cf⟩:=OwnB.cell HO.out hl (k:=q) hq2;have HS:=ae (OwnB.stored HO.out hl q 1);clear hl;have hmt:(bD j H r).length≤1000000:=(by rw[dD];omega);have hGD2:G≤wo.heap.size:=(by rw[HD.out];omega);have HO2:Hid (OwnB (wr.setCell ⟨g3,q,none⟩ (.int .u8 1)) wo.heap.size (.slice (some ⟨g3,0,none⟩) N N) ((mY N r j).set q 1)):=ae (by rw[HD.out];exact HS.out.1);have HBD2:Hid (Below wo.heap.size wo (wr.setCell ⟨g3,q,none⟩ (.int .u8 1))):=ae (by rw[HD.out];exact Below.setCell HBD.out (p:=⟨g3,q,none⟩) hDg _);have HX5:Hid (Blk (wr.setCell ⟨g3,q,none⟩ (.int .u8 1)) G 26 #[.int .i64 j,.int .i64 H,.int .i64 S]):=ae (HBX.out.below HBD2.out (Blk.lt HBX.out));have hsz:(wr.setCell ⟨g3,q,none⟩ (.int .u8 1)).heap.size=wr.heap.size:=by simp
     go_wp2_with (at_builtin;refine kD (w0:=wo) (w1:=wr.setCell ⟨g3,q,none⟩ (.int .u8 1)) rfl _ _ rfl HM.out HBD2.out HO2.out hGD2 hmt rfl (by rw[hsz];rfl) ?_)
     intro v' w6 hM6 hb6 hg6 hat6;rw[←HTK.out] at hM6;have HM6:=ae hM6;have HB6:=ae (HB.out.trans hb6);obtain⟨vs,hMV⟩:=HM.out
     have HX6:Hid (Blk w6 G 26 #[.int .i64 j,.int .i64 H,.int .i64 S]):=ae (by
      refine Blk.grown (Blk.alloc HX5.out _) hg6 ?_;rcases hMV.hd.2 with⟨h1,_⟩ | ⟨g',cap,cur,h1,_,hb,_⟩
      ·rw[h1];simp[Value.ownBlock]
      ·rw[h1]
       have:G≠g':=Blk.ne (t:=26) (t':=23) HBX.out hb (by decide);simpa[Value.ownBlock] using this)
     clear hM6 hb6 hg6 hat6 HM HBD HBD2 HO HO2 HX5 HTK HB HBX hMV HS cc cf;go_wp2_with fail;go_roundw
     case rel=>(try((repeat apply Exists.intro);refine⟨?_,rfl⟩));exact⟨r+1,by omega,by go_num,HM6,HX6,HB6⟩
     case measure=>simp[intOf];omega
  ·obtain rfl:r=H:=by omega
   go_wp2_with fail;go_ret;exact⟨_,rfl,by rw[HG.out];exact HM.out,by rw[HG.out];exact HB.out⟩
end Go.Proofs.YtofgapdnadbgkaaGreatDoor
