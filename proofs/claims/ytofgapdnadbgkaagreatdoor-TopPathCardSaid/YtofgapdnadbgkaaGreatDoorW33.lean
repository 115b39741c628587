import Derived.Test.YtofgapdnadbgkaaGreatDoorW27
import Derived.Lib.ConvBytes
set_option linter.unusedVariables false
set_option maxRecDepth 100000
set_option maxHeartbeats 400000000
namespace Go.Proofs.YtofgapdnadbgkaaGreatDoor
open Go.RowKit _root_.Go.Proofs.Tryz
theorem ms01:[0,1].mergeSort leB=[0,1]:=by simp[List.mergeSort,leB]
theorem ms1:[1].mergeSort leB=[1]:=by simp[]
theorem Dt:qA 2 (gY (jf 0 0))=[0,1]:=by
 unfold qA;rw[show j4 (eD 2) (gY (jf 0 0))=2 by kernel_rfl];unfold qH;rw[if_pos (by kernel_rfl)];unfold chosen;rw[show(dR false (Int.toNat 2) (fS (eD 2) (gY (jf 0 0))) (Int.toNat ((2:Nat):Int))).take (Int.toNat ((2:Nat):Int))=[0,1] by kernel_rfl];exact ms01
theorem Kt:qA 2 (gY (jf 0 1))=[0,1]:=by
 unfold qA;rw[show j4 (eD 2) (gY (jf 0 1))=2 by kernel_rfl];unfold qH;rw[if_pos (by kernel_rfl)];unfold chosen
 first
 | (rw[show(dR false (Int.toNat 2) (fS (eD 2) (gY (jf 0 1))) (Int.toNat ((2:Nat):Int))).take (Int.toNat ((2:Nat):Int))=[0,1] by kernel_rfl]
    exact ms01)
 | (rw[show(dR false (Int.toNat 2) (fS (eD 2) (gY (jf 0 1))) (Int.toNat ((2:Nat):Int))).take (Int.toNat ((2:Nat):Int))=[1,0] by kernel_rfl]
    simp[List.mergeSort,leB])
theorem Ku:qA 2 (gY (jf 0 2))=[1]:=by
 unfold qA;rw[show j4 (eD 2) (gY (jf 0 2))=1 by kernel_rfl];unfold qH;rw[if_pos (by kernel_rfl)];unfold chosen;rw[show(dR false (Int.toNat 2) (fS (eD 2) (gY (jf 0 2))) (Int.toNat ((1:Nat):Int))).take (Int.toNat ((1:Nat):Int))=[1] by kernel_rfl];exact ms1
theorem Du(i:Int)(h:0≤i∧i≤65535):iV 1 1 4 0 i=oM 2 (qA 2 (gY (jf 0 i))):=by
 unfold iV;rw[if_pos ⟨by decide,h⟩];rfl
theorem xy:dP 1 1 4 (0:Nat) (List.range 1)=true:=by
 have e:dL 1 1 4 (0:Nat) (List.range 1)=[[3,1],[1,1]]:=by
  show bD 1 1 1++[iV 1 1 4 0 0]=_;rw[Du 0 (by omega),Dt]
  kernel_rfl
 have h2:(dh [[3,1],[1,1]]).length=2:=by kernel_rfl
 unfold dP;rw[e,h2];rfl
theorem Kv:dP 1 1 4 (0:Nat) [0,2,1]=true:=by
 have e:dL 1 1 4 (0:Nat) [0,2,1]=[[3,1],[1,1],[0,1],[1,1]]:=by
  show bD 1 1 1++[iV 1 1 4 0 0,iV 1 1 4 0 2,iV 1 1 4 0 1]=_;rw[Du 0 (by omega),Dt,Du 2 (by omega),Ku,Du 1 (by omega),Kt]
  kernel_rfl
 have h2:(dh [[3,1],[1,1],[0,1],[1,1]]).length=2:=by kernel_rfl
 unfold dP;rw[e,h2];rfl
structure Chg (M:Nat→Prop) (w w':World):Prop where
 os:w'.os=w.os
 tape:w'.tape=w.tape
 output:w'.output=w.output
 size:w.heap.size≤w'.heap.size
 block:∀k,k<w.heap.size→¬M k→w'.heap[k]? =w.heap[k]?
theorem Chg.refl(M:Nat→Prop)(w:World):Chg M w w:=⟨rfl,rfl,rfl,ah _,fun _ _ _=>rfl⟩
theorem Chg.trans{M:Nat→Prop}{a b c:World}(h:Chg M a b)(k:Chg M b c):Chg M a c:=
 ⟨k.os.trans h.os,k.tape.trans h.tape,k.output.trans h.output,aQ h.size k.size,fun i hi hM=>(k.block i (aY hi h.size) hM).trans (h.block i hi hM)⟩
theorem Chg.mono{M N:Nat→Prop}{a b:World}(h:Chg M a b)(hM:∀k,k<a.heap.size→M k→N k):Chg N a b:=⟨h.os,h.tape,h.output,h.size,fun k hk hN=>h.block k hk fun hm=>hN (hM k hk hm)⟩
theorem Chg.of{M:Nat→Prop}{a b:World}(h:Below a.heap.size a b):Chg M a b:=⟨h.os,h.tape,h.output,h.size,fun k hk _=>h.block k hk⟩
theorem Chg.grown{M:Nat→Prop}{a b:World}{r:Option Nat}(h:a.grownBy b r)(hr:∀k,r=some k→k<a.heap.size→M k):Chg M a b:=⟨h.os,h.tape,h.output,h.size,fun k hk hM=>h.block k hk fun e=>hM (hr k e.symm hk)⟩
theorem Chg.below{M:Nat→Prop}{a b:World}{C:Nat}(h:Chg M a b)(hC:C≤a.heap.size)(hM:∀k,M k→C≤k):Below C a b:=⟨h.os,h.tape,h.output,h.size,fun k hk=>h.block k (by omega) fun hm=>by have:=hM k hm;omega⟩
theorem Chg.set{M:Nat→Prop}{a b:World}(h:Chg M a b)(p:Addr)(v:Value)(hp:p.block<a.heap.size→M p.block):Chg M a (b.setCell p v):=
 ⟨h.os,h.tape,h.output,by simpa[World.setCell] using h.size,fun k hk hM=>(aZ b p v k fun e=>hM (by subst e;exact hp hk)).trans (h.block k hk hM)⟩
theorem Blk.chg{w w':World}{M:Nat→Prop}{g:Nat}{t:TypeId}{cs:Array Value}(h:Blk w g t cs)(hc:Chg M w w')(hg:¬M g):Blk w' g t cs:=(hc.block g h.lt hg).trans h
def pwC:Array Value:=#[.bool false,.bool false,.int .i64 0,.int .i64 0]
def PwS(w:World)(g:Nat):Prop:=Blk w g 149 pwC
theorem PwS.cells{w:World}{g:Nat}(h:PwS w g):w.cell? ⟨g,0,none⟩=some (.bool false)∧w.cell? ⟨g,1,none⟩=some (.bool false)∧w.cell? ⟨g,2,none⟩=some (.int .i64 0)∧w.cell? ⟨g,3,none⟩=some (.int .i64 0):=⟨Blk.cell h 0,Blk.cell h 1,Blk.cell h 2,Blk.cell h 3⟩
theorem Nv(w:World):Calls prog 49 #[] w fun e w'=>e=.returned (.pointer (some ⟨w.heap.size,0,none⟩))∧PwS w' w.heap.size∧w'=w.alloc (.cells pwC 149):=by
 go_enter func49,ntmps49;go_wp2_with fail;go_ret;exact⟨rfl,Blk.new w _ _,rfl⟩
theorem Ek(g:Nat)(w:World)(h:PwS w g):Calls prog 121 #[.pointer (some ⟨g,0,none⟩)] w fun e w'=>e=.returned (.bool true)∧w'=w:=by
 obtain⟨c0,c1,c2,c3⟩:=h.cells;go_enter func121,ntmps121;go_wp2_with fail;go_ret;exact⟨rfl,rfl⟩
theorem El(g:Nat)(w:World)(h:PwS w g):Calls prog 88 #[.pointer (some ⟨g,0,none⟩)] w fun e w'=>e=.returned (.int .i64 0)∧w'=w:=by
 obtain⟨c0,c1,c2,c3⟩:=h.cells;go_enter func88,ntmps88;go_wp2_with fail;go_ret;exact⟨rfl,rfl⟩
theorem Em(g:Nat)(w:World)(h:PwS w g):Calls prog 229 #[.pointer (some ⟨g,0,none⟩)] w fun e w'=>e=.returned (.bool true)∧w'=w:=by
 obtain⟨c0,c1,c2,c3⟩:=h.cells;have CO:=ae (Ek g w h);go_enter func229,ntmps229;go_wp2_with fail;refine CO.out.mono ?_;rintro e w1 ⟨rfl,rfl⟩;go_wp2_with fail;go_ret;exact⟨rfl,rfl⟩
def drC(p room:Nat)(v:Value)(wait:Nat):Array Value:=#[.pointer (some ⟨p,0,none⟩),.int .i64 room,v,.int .i64 wait,.slice none 0 0,.bool false,.bool false]
def DrB(w:World)(g p room:Nat)(v:Value)(wait:Nat):Prop:=Blk w g 235 (drC p room v wait)
theorem DrB.cells{w:World}{g p room:Nat}{v:Value}{wait:Nat}(h:DrB w g p room v wait):w.cell? ⟨g,0,none⟩=some (.pointer (some ⟨p,0,none⟩))∧w.cell? ⟨g,1,none⟩=some (.int .i64 room)∧w.cell? ⟨g,2,none⟩=some v∧
 w.cell? ⟨g,3,none⟩=some (.int .i64 wait)∧w.cell? ⟨g,4,none⟩=some (.slice none 0 0)∧w.cell? ⟨g,5,none⟩=some (.bool false)∧w.cell? ⟨g,6,none⟩=some (.bool false):=⟨Blk.cell h 0,Blk.cell h 1,Blk.cell h 2,Blk.cell h 3,Blk.cell h 4,Blk.cell h 5,Blk.cell h 6⟩
theorem JH(n p:Nat)(w:World)(hn:1≤n∧n≤512):Calls prog 90 #[.int .i64 n,.pointer (some ⟨p,0,none⟩)] w fun e w'=>e=.returned (.pointer (some ⟨w.heap.size,0,none⟩))∧DrB w' w.heap.size p n (.slice none 0 0) 0∧Below w.heap.size w w':=by
 have h1:¬(n:Int)<1:=by omega
 have h2:¬(512:Int)<(n:Int):=by omega
 have h1':(decide ((n:Int)<1))=false:=by simpa using h1
 have h2':(decide ((512:Int)<(n:Int)))=false:=by simpa using h2
 go_enter func90,ntmps90;go_wp2_with fail;go_ret;exact⟨rfl,Blk.new w _ _,(az _ _).alloc (ah _) _⟩
theorem LK(g p room wait:Nat)(v:Value)(w:World)(h:DrB w g p room v wait):Calls prog 271 #[.pointer (some ⟨g,0,none⟩)] w fun e w'=>e=.returned (.int .i64 room)∧w'=w:=by
 obtain⟨c0,c1,c2,c3,c4,c5,c6⟩:=h.cells;go_enter func271,ntmps271;go_wp2_with fail;go_ret;exact⟨rfl,rfl⟩
theorem JI(g p room wait n c:Nat)(a:Option Addr)(w:World)(h:DrB w g p room (.slice a n c) wait):Calls prog 198 #[.pointer (some ⟨g,0,none⟩)] w fun e w'=>e=.returned (.int .i64 n)∧w'=w:=by
 obtain⟨c0,c1,c2,c3,c4,c5,c6⟩:=h.cells;go_enter func198,ntmps198;go_wp2_with fail;go_ret;exact⟨rfl,rfl⟩
theorem sw(g p room wait:Nat)(v:Value)(w:World)(h:DrB w g p room v wait):Calls prog 193 #[.pointer (some ⟨g,0,none⟩)] w fun e w'=>e=.returned (.bool false)∧w'=w:=by
 obtain⟨c0,c1,c2,c3,c4,c5,c6⟩:=h.cells;go_enter func193,ntmps193;go_wp2_with fail;go_ret;exact⟨rfl,rfl⟩
theorem En(g p room wait:Nat)(v:Value)(w:World)(h:DrB w g p room v wait):Calls prog 230 #[.pointer (some ⟨g,0,none⟩)] w fun e w'=>e=.returned (.int .i64 0)∧DrB w' g p room v wait∧Chg (·=g) w w':=by
 obtain⟨c0,c1,c2,c3,c4,c5,c6⟩:=h.cells;have f4:=Blk.frozen h 4;have f5:=Blk.frozen h 5;have h1:=Blk.set h 4 (.slice none 0 0);have h2:=Blk.set h1 5 (.bool false);have f5':=Blk.frozen h1 5;have c5':(w.setCell ⟨g,4,none⟩ (.slice none 0 0)).cell? ⟨g,5,none⟩=some (.bool false):=Blk.cell h1 5;have HE:=ae h2;have HG:Hid (Chg (·=g) w ((w.setCell ⟨g,4,none⟩ (.slice none 0 0)).setCell ⟨g,5,none⟩ (.bool false))):=ae (((Chg.refl (·=g) w).set ⟨g,4,none⟩ _ fun _=>rfl).set ⟨g,5,none⟩ _ fun _=>rfl);clear h1 h2;go_enter func230,ntmps230;go_wp2_with fail;go_ret;exact⟨rfl,HE.out,HG.out⟩
theorem LM(g p room wait:Nat)(v:Value)(w:World)(h:DrB w g p room v wait)(hp:PwS w p):Calls prog 232 #[.pointer (some ⟨g,0,none⟩)] w fun e w'=>e=.returned (.int .i64 0)∧DrB w' g p room v 0∧Chg (·=g) w w':=by
 obtain⟨c0,c1,c2,c3,c4,c5,c6⟩:=h.cells;have CP:=ae (Em p w hp);have f3:=Blk.frozen h 3;have h1:DrB (w.setCell ⟨g,3,none⟩ (.int .i64 0)) g p room v 0:=Blk.set h 3 (.int .i64 0);have CW:=ae (En g p room 0 v _ h1);have HG:Hid (Chg (·=g) w (w.setCell ⟨g,3,none⟩ (.int .i64 0))):=ae ((Chg.refl (·=g) w).set ⟨g,3,none⟩ _ fun _=>rfl);clear h1;go_enter func232,ntmps232;go_wp2_with fail;refine CP.out.mono ?_;rintro e w1 ⟨rfl,rfl⟩;go_wp2_with fail;refine CW.out.mono ?_;rintro e w2 ⟨rfl,hd,hg⟩;have HD:=ae hd;have HG2:=ae (HG.out.trans hg);clear hd hg HG CW;go_wp2_with fail;go_ret;exact⟨rfl,HD.out,HG2.out⟩
def Ty(t:TypeId)(w:World)(b:Nat):Prop:=∃cs fr,w.heap[b]? =some (.cells cs t fr)
theorem Ty.lt{t:TypeId}{w:World}{b:Nat}(h:Ty t w b):b<w.heap.size:=by obtain⟨cs,fr,h⟩:=h;exact(Array.getElem?_eq_some_iff.1 h).1
theorem Ty.ne{t u:TypeId}{w:World}{b:Nat}(h:Ty t w b)(k:Ty u w b)(hne:t≠u):False:=by
 obtain⟨cs,fr,h⟩:=h;obtain⟨ds,fs,k⟩:=k;rw[h] at k;injection k with k;injection k with _ k _;exact hne k
theorem Ty.ne2{t u:TypeId}{w:World}{b g:Nat}(e:b=g)(h:Ty t w b)(k:Ty u w g)(hne:t≠u):False:=by subst e;exact h.ne k hne
theorem Ty.keep{t:TypeId}{w w':World}{b:Nat}(h:Ty t w b)(hk:w'.heap[b]? =w.heap[b]?):Ty t w' b:=by obtain⟨cs,fr,h⟩:=h;exact⟨cs,fr,hk.trans h⟩
theorem Blk.ty{w:World}{g:Nat}{t:TypeId}{cs:Array Value}(h:Blk w g t cs):Ty t w g:=⟨cs,_,h⟩
theorem OwnS.ownTy{w:World}{C:Nat}{e:TypeId}{k:Nat}{F:Nat→Prop}{v:Value}{L:List Rp}(h:OwnS w C e k F v L):∀b,v.ownBlock=some b→Ty e w b:=by
 intro b hb;obtain⟨cs,h1,_⟩:=h;rcases h1.2 with⟨rfl,_⟩ | ⟨g,cap,cur,rfl,_,hh,_⟩
 ·simp[Value.ownBlock] at hb
 ·simp[Value.ownBlock] at hb
  subst hb;exact⟨_,_,hh⟩
theorem Gj{w w':World}{C e k n:Nat}{v:Value}{xs:List Value}(h:w.ownsRow C e k v n xs)(hk:∀b,v.ownBlock=some b→w'.heap[b]? =w.heap[b]?):w'.ownsRow C e k v n xs:=by
 refine⟨h.1,?_⟩;rcases h.2 with h2 | ⟨g,cap,cur,rfl,hg,hh,r⟩
 ·exact .inl h2
 ·exact .inr ⟨g,cap,cur,rfl,hg,(hk g rfl).trans hh,r⟩
theorem OwnS.chg{w w':World}{C:Nat}{e t:TypeId}{k:Nat}{v:Value}{L:List Rp}{M:Nat→Prop}(h:OwnS w C e k (Ty t w) v L)(hc:Chg M w w')(hv:∀b,v.ownBlock=some b→¬M b)(hM:∀b,M b→¬Ty t w b):OwnS w' C e k (Ty t w') v L:=by
 have hlt:=h.lt;obtain⟨cs,h1,h2⟩:=h;exact⟨cs,Gj h1 fun b hb=>hc.block b (hlt b hb).2 (hv b hb),fun i R hR=>R.keep (h2 i R hR) fun b hb hl=>⟨hc.block b hl fun hm=>hM b hm hb.1,hb.1.keep (hc.block b hl fun hm=>hM b hm hb.1),hb.2⟩⟩
theorem Nu(R:List (List Nat))(F:Nat→Prop)(a:Option Addr)(n c:Nat)(w:World)(hx:(rM R).ok w F [.slice a n c])(hl:R.length=n)(hn:n≤1000)(hR:∀x∈R,x.length≤1000):
 Calls prog 272 #[.slice a n c] w fun e w'=>∃v,e=.returned v∧OwnS w' w.heap.size 23 1 (Fr w.heap.size) v (R.map rB)∧Below w.heap.size w w':=by
 have S0:Hid (Sx w w [eR F (.slice a n c) (rM R)]):=ae ((Sx.nil w).add (eR F _ _) hx);have HL:=ae hl;have HR:=ae hR;have HO1:Hid (OwnS w w.heap.size 23 1 (Fr w.heap.size) (.slice none 0 0) ((R.take 0).map rB)):=ae (OwnS.nil _ _ _ _ _);have HB1:=ae (az w.heap.size w);clear hx hl hR;go_enter func272,ntmps272;go_wp2_with fail;go_loopw [3,8] (fun v i wr=>∃k:Nat,k≤n∧i=.int .i64 k∧Hid (OwnS wr w.heap.size 23 1 (Fr w.heap.size) v ((R.take k).map rB))∧Hid (Below w.heap.size w wr)) (fun _ i _=>n-(intOf i).toNat)
 case atStart=>exact⟨0,by omega,rfl,HO1,HB1⟩
 case round=>
  clear HO1 HB1;obtain⟨k,hkn,rfl,HO,HB⟩:=hrel;have S1:=ae (S0.out.step HB.out);obtain⟨bv,nv,cv,rfl⟩:=HO.out.sl;by_cases hlt:k<n
  ·have hltI:(k:Int)<(n:Int):=by omega
   obtain⟨aX,cX,eX,rdX,-⟩:=dS (S1.out.rep 0 rfl) HL.out;injection eX with e1 _ e3;subst e1 e3;obtain⟨bx,ox,ax,cx,rfl,hbx,hcx,hrx,hnx,hx1,hx2⟩:=rdX.at hlt;have hrl:=HR.out (R.getD k []) (by rw[af,ag (by rw[HL.out];exact hlt)];exact aU _)
   have HT:Hid ((R.take (k+1)).map rB=(R.take k).map rB++[rB (R.getD k [])]):=ae (by
    have hk:k<R.length:=(by rw[HL.out];exact hlt);rw[aP hk,aW,af,ag hk];rfl)
   have hsl:((R.take k).map rB).length≤1000000:=(by rw[aG,aI];omega);have CC:=ae (dF (R.getD k []) _ ax _ cx wr hrx (ah _) hnx (by omega));have HXL:Hid ((R.getD k []).length≤1000):=ae hrl;clear rdX hrx hnx hx1 hx2 hrl;generalize hX:R.getD k []=X at*;generalize hnX:X.length=nX at*;generalize hLL:(R.take k).map rB=LL at*;clear hX hLL;go_wp2_with fail;refine CC.out.mono ?_;rintro e w2 ⟨v2,rfl,hO2,hb2⟩;obtain⟨a2,c2,rfl,-⟩:=hO2.rd2 hnX;have HRX:Hid ((rB X).ok w2 (fun b=>Fr w.heap.size b∧some b≠(Value.slice bv nv cv).ownBlock) [.slice a2 nX c2]):=ae (HO.out.off (eY hO2) fun b hb=>⟨aQ HB.out.size hb,.inr hb⟩);have HB2:=ae hb2;have hsw:=HB.out.size;have hs2:=hb2.size;clear hO2 hb2 CC S1 hcx
   go_wp2_with (at_builtin;refine dJ (w:=wr) (w1:=w2) rfl _ _ rfl underlying33 bQ rfl (by decide) (by decide) HO.out HB2.out hsw hsl (R:=rB X) HRX.out rfl rfl rfl ?_)
   intro v6 w6 hO6 hb6;rw[←HT.out] at hO6;have HO6:=ae hO6;have HB6:=ae (HB.out.trans hb6);clear hO6 hb6 HO HRX HT HB2 HB;obtain⟨b6,n6',c6',rfl⟩:=HO6.out.sl;go_wp2_with fail;go_roundw
   case rel=>(try((repeat apply Exists.intro);refine⟨?_,rfl⟩));exact⟨k+1,by omega,by go_num,HO6,HB6⟩
   case measure=>simp[intOf];omega
  ·obtain rfl:k=n:=by omega
   have HE:Hid ((R.take k).map rB=R.map rB):=ae (by rw[aO (by rw[HL.out];exact ah _)]);rw[HE.out] at HO;go_wp2_with fail;go_ret;exact⟨_,rfl,HO.out,HB.out⟩
theorem bA{w w':World}(h:Below w.drew.heap.size w.drew w'):Below w.heap.size w w':=((az _ w).drew).trans h
theorem OwnS.reTy{w w':World}{C:Nat}{e t:TypeId}{k:Nat}{v:Value}{L:List Rp}(h:OwnS w' C e k (Ty t w) v L)(hk:∀b,Ty t w b→w'.heap[b]? =w.heap[b]?):OwnS w' C e k (Ty t w') v L:=h.base (ah _) fun b hb=>hb.keep (hk b hb)
theorem uJ{w:World}{C:Nat}{v:Value}{l:List Nat}(h:OwnB w C v l):(rB l).ok w (fun b=>Ty 5 w b∧C≤b) [v]:=by
 obtain⟨a,c,rfl,h1,h2,h3,h4,h5⟩:=bV (k:=1) h;rw[Nat.mul_one] at h4 h5;refine⟨a,l.length,c,rfl,h2,h3,h1,h4,fun hn=> ?_⟩;obtain⟨b,o,e1,⟨hb,_⟩,hv,hc⟩:=h5 hn;refine⟨b,o,e1,⟨?_,hb⟩,hc⟩;rcases h.2 with⟨e,_⟩ | ⟨g,cap,cur,e,_,hh,_⟩
 ·rw[e] at hv;simp[Value.ownBlock] at hv
 ·rw[e] at hv;simp[Value.ownBlock] at hv
  subst hv;exact⟨_,_,hh⟩
theorem Jp(g p room wait:Nat)(v:Value)(R:List (List Nat))(F:Nat→Prop)(w:World)(h:DrB w g p room v wait)(hx:(rM R).ok w F [v])(hn:R.length≤1000)(hR:∀x∈R,x.length≤1000):
 Calls prog 203 #[.pointer (some ⟨g,0,none⟩)] w fun e w'=>∃v,e=.returned v∧OwnS w' w.heap.size 23 1 (Fr w.heap.size) v (R.map rB)∧Below w.heap.size w w':=by
 obtain⟨c0,c1,c2,c3,c4,c5,c6⟩:=h.cells;obtain⟨a,c,rfl,-⟩:=dS hx rfl;have CO:=ae (Nu R F a _ c w hx rfl hn hR);clear hx;go_enter func203,ntmps203;go_wp2_with fail;refine CO.out.mono ?_;rintro e w1 ⟨v,rfl,ho,hb⟩;have HO:=ae ho;have HB:=ae hb;clear ho hb CO;go_wp2_with fail;go_ret;exact⟨_,rfl,HO.out,HB.out⟩
theorem Gl(g p room wait:Nat)(v:Value)(R:List (List Nat))(r:List Nat)(a:Option Addr)(c:Nat)(w:World)(h:DrB w g p room v wait)(hO:OwnS w 0 23 1 (Ty 5 w) v (R.map rB))(hp:PwS w p)
 (hr:Rd w w.heap.size a 64 (ba r))(hnil:a=none→c=0)(hroom:R.length<room)(hroom2:room≤512)(hwait:wait≤1000):
 Calls prog 164 #[.pointer (some ⟨g,0,none⟩),.slice a 64 c] w fun e w'=>e=.returned (.int .i64 0)∧∃v',DrB w' g p room v' (wait+1)∧OwnS w' 0 23 1 (Ty 5 w') v' ((R++[r]).map rB)∧
  Chg (fun b=>b=g∨some b=v.ownBlock) w w'∧(v'.ownBlock=v.ownBlock∨∃b,v'.ownBlock=some b∧w.heap.size≤b):=by
 have CP:=ae (Ek p w hp);have HPW:=ae hp;obtain⟨av,cv,rfl,-,-,-⟩:=hO.val;rw[aG];have hrI:¬(room:Int)≤(R.length:Int):=by omega
 have hrl:r.length=64:=by have:=hr.len;rwa [bg] at this
 have hgo:some g≠(Value.slice av R.length cv).ownBlock:=fun e=>by
  have:=hO.ownTy g (by rw[aG];exact e.symm);exact(Blk.ty h).ne this (by decide)
 have HR:=ae hr;have HHN:=ae hnil;obtain⟨c0,c1,c2,c3,c4,c5,c6⟩:=h.cells;have HD:=ae h;rw[aG] at hO;have HO:=ae hO;have HPG:=ae (show p≠g from fun e=>by subst e;exact(Blk.ty hp).ne (Blk.ty h) (by decide))
 have HPO:Hid (some p≠(Value.slice av R.length cv).ownBlock):=ae (fun e=>by
  have:=hO.ownTy p e.symm;exact(Blk.ty hp).ne this (by decide))
 have hml:(R.map rB).length≤1000000:=by rw[aG];omega
 rw[aG] at c2;clear hO hp hr h;rw[aG] at HD;generalize hRl:R.length=n at*;go_enter func164,ntmps164;clear CP hnil;go_wp2_with fail
 go_quiet (fail)
 have HD1:Hid (DrB (w.drewN nq) g p room (.slice av n cv) wait):=HD;have HO1:Hid (OwnS (w.drewN nq) 0 23 1 (Ty 5 (w.drewN nq)) (.slice av n cv) (R.map rB)):=ae (HO.out.drewN nq);have HP1:Hid (PwS (w.drewN nq) p):=HPW;have HR1:Hid (Rd (w.drewN nq) (w.drewN nq).heap.size a 64 (ba r)):=HR;have HC1:Hid (Chg (fun b=>b=g∨some b=(Value.slice av n cv).ownBlock) w (w.drewN nq)):=ae (Chg.of (below_drewN (az _ _) nq));have hsz:w.heap.size=(w.drewN nq).heap.size:=rfl;have HSZ:=ae hsz;clear c0 c1 c2 c3 c4 c5 c6 HD HO HPW HR hsz;generalize w.drewN nq=w1 at*;obtain⟨c0,c1,c2,c3,c4,c5,c6⟩:=HD1.out.cells;go_wp2_with fail;refine(Ek p w1 HP1.out).mono ?_;rintro e w2 ⟨rfl,rfl⟩;have CC:=ae (dF r _ a 64 c w2.drew HR1.out (ah _) HHN.out (by omega));clear HR1 HHN;go_wp2_with fail;have f2:=Blk.frozen HD1.out 2
 go_region_law (first
  | (change (if _=true then Oper.wp _ (Oper.mk (some 44) _ _ _ _ _) _ _ _ _ else _)
     refine qq (w:=w3) (C:=0) (F:=Ty 5 w3) (v:=.slice av n cv) (L:=R.map rB) (R:=rB r) rfl _ _ rfl underlying33 bQ rfl (by decide) (by decide) HO3.out (Nat.zero_le _) hml HR3.out rfl rfl rfl ?_;intro v4 w4 hO4 hb4 hs4 hk4 hv4;obtain⟨a4,n4,k4,rfl⟩:=hO4.sl;have HO4:=ae hO4;have HB4:=ae hb4;have HS4:=ae hs4;have HK4:=ae hk4;have HV4:=ae hv4;have HD4:Hid (DrB w4 g p room (.slice av n cv) wait):=ae ((hk4 g (Blk.lt HD3.out) hgo).trans HD3.out);have d2:=Blk.cell HD4.out 2;have d2':w4.cell? ⟨g,2,none⟩=some (.slice av n cv):=d2;have d2f:=Blk.frozen HD4.out 2;clear hO4 hb4 hs4 hk4 hv4 d2)
  | (go_simp
     go_at_call 36;refine CC.out.mono ?_;rintro e w3 ⟨v3,rfl,hO3,hb3⟩;replace hb3:=bA hb3;have HB3:Hid (Below w2.heap.size w2 w3):=ae hb3;have HD3:Hid (DrB w3 g p room (.slice av n cv) wait):=ae (Blk.below HD1.out hb3 (Blk.lt HD1.out));have HO3:Hid (OwnS w3 0 23 1 (Ty 5 w3) (.slice av n cv) (R.map rB)):=ae (HO1.out.chg (M:=fun _=>False) (Chg.of hb3) (fun _ _ h=>h) (fun _ h=>h.elim));have HR3:Hid ((rB r).ok w3 (fun b=>Ty 5 w3 b∧some b≠(Value.slice av n cv).ownBlock) [v3]):=ae ((rB r).more (uJ hO3) fun b hb _=>⟨hb.1,fun e=>by have h1:=(HO1.out.lt b e.symm).2;have h2:w2.heap.size≤b:=hb.2;omega⟩);have d0:w3.cell? ⟨g,2,none⟩=some (.slice av n cv):=Blk.cell HD3.out 2;have d1:g<w3.heap.size:=Blk.lt HD3.out;obtain⟨a3,k3,rfl,-⟩:=hO3.rd2 hrl;clear hO3 hb3;go_simp))
 all_goals(
  clear d2' d2f d0 d1 f2 CC c0 c1 c2 c3 c4 c5 c6;have HD5:Hid (DrB (w4.setCell ⟨g,2,none⟩ (.slice a4 n4 k4)) g p room (.slice a4 n4 k4) wait):=ae (Blk.set HD4.out 2 _);have hgo4:some g≠(Value.slice a4 n4 k4).ownBlock:=fun e=>(Blk.ty HD4.out).ne (HO4.out.ownTy g e.symm) (by decide)
  have HO5:Hid (OwnS (w4.setCell ⟨g,2,none⟩ (.slice a4 n4 k4)) 0 23 1 (Ty 5 (w4.setCell ⟨g,2,none⟩ (.slice a4 n4 k4))) (.slice a4 n4 k4) (R.map rB++[rB r])):=ae ((HO4.out.reTy fun b hb=>HK4.out b hb.lt fun e=>hb.ne (HO3.out.ownTy b e.symm) (by decide)).chg (M:=(·=g)) ((Chg.refl (·=g) w4).set ⟨g,2,none⟩ _ fun _=>rfl)
   (fun b hb e=>hgo4 (by rw[hb,e])) (fun b e hb=>Ty.ne2 e hb (Blk.ty HD4.out) (by decide)))
  have HC5:Hid (Chg (fun b=>b=g∨some b=(Value.slice av n cv).ownBlock) w (w4.setCell ⟨g,2,none⟩ (.slice a4 n4 k4))):=ae (((HC1.out.trans (Chg.of HB3.out)).trans ⟨HB4.out.os,HB4.out.tape,HB4.out.output,HS4.out,fun k hk hM=>HK4.out k hk fun e=>hM (.inr e)⟩).trans ((Chg.refl _ w4).set ⟨g,2,none⟩ _ fun _=>.inl rfl));have HP5:Hid (PwS (w4.setCell ⟨g,2,none⟩ (.slice a4 n4 k4)) p):=ae (Blk.far (HK4.out p (Blk.lt (Blk.below HP1.out HB3.out (Blk.lt HP1.out))) HPO.out |>.trans (Blk.below HP1.out HB3.out (Blk.lt HP1.out))) HPG.out _);have HV5:Hid ((Value.slice a4 n4 k4).ownBlock=(Value.slice av n cv).ownBlock∨∃b,(Value.slice a4 n4 k4).ownBlock=some b∧w.heap.size≤b):=ae (HV4.out.elim .inl fun ⟨b,e,h⟩=>.inr ⟨b,e,by have:=HSZ.out;have:=HB3.out.size;omega⟩);clear HD4 HO4 HK4 HB4 HS4 HV4 HO3 HR3 HD3 HB3 hgo4 HC1 HO1 HD1 HP1;generalize w4.setCell ⟨g,2,none⟩ (.slice a4 n4 k4)=w5 at*;have c3:w5.cell? ⟨g,3,none⟩=some (.int .i64 wait):=Blk.cell HD5.out 3;have f3:w5.frozen? ⟨g,3,none⟩=false:=Blk.frozen HD5.out 3;have c0:(w5.setCell ⟨g,3,none⟩ (.int .i64 ((wait:Int)+1))).cell? ⟨g,0,none⟩=some (.pointer (some ⟨p,0,none⟩)):=Blk.cell (Blk.set HD5.out 3 _) 0;have HD6:Hid (DrB (w5.setCell ⟨g,3,none⟩ (.int .i64 ((wait:Int)+1))) g p room (.slice a4 n4 k4) (wait+1)):=ae (Blk.set HD5.out 3 _)
  have HO6:Hid (OwnS (w5.setCell ⟨g,3,none⟩ (.int .i64 ((wait:Int)+1))) 0 23 1 (Ty 5 (w5.setCell ⟨g,3,none⟩ (.int .i64 ((wait:Int)+1)))) (.slice a4 n4 k4) (R.map rB++[rB r])):=ae (HO5.out.chg (M:=(·=g)) ((Chg.refl (·=g) w5).set ⟨g,3,none⟩ _ fun _=>rfl)
   (fun b hb e=>(Blk.ty HD5.out).ne (HO5.out.ownTy g (by rw[hb,e])) (by decide)) (fun b e hb=>Ty.ne2 e hb (Blk.ty HD5.out) (by decide)))
  have HC6:Hid (Chg (fun b=>b=g∨some b=(Value.slice av n cv).ownBlock) w (w5.setCell ⟨g,3,none⟩ (.int .i64 ((wait:Int)+1)))):=ae (HC5.out.trans ((Chg.refl _ w5).set ⟨g,3,none⟩ _ fun _=>.inl rfl));have HP6:Hid (PwS (w5.setCell ⟨g,3,none⟩ (.int .i64 ((wait:Int)+1))) p):=ae (Blk.far HP5.out HPG.out _);clear HD5 HO5 HC5 HP5;go_wp2_with fail;generalize w5.setCell ⟨g,3,none⟩ (.int .i64 ((wait:Int)+1))=w6 at*;refine(Em p w6 HP6.out).mono ?_;rintro e w7 ⟨rfl,rfl⟩;clear c0 c3 f3;go_wp2_with fail;refine(En g p room (wait+1) _ w7 HD6.out).mono ?_;rintro e w8 ⟨rfl,hd,hc⟩
  have HO8:Hid (OwnS w8 0 23 1 (Ty 5 w8) (.slice a4 n4 k4) (R.map rB++[rB r])):=ae (HO6.out.chg hc
   (fun b hb e=>(Blk.ty HD6.out).ne (HO6.out.ownTy g (by rw[hb,e])) (by decide)) (fun b e hb=>Ty.ne2 e hb (Blk.ty HD6.out) (by decide)))
  have HD8:=ae hd;have HC8:=ae (HC6.out.trans (hc.mono fun k _ e=>.inl e));clear hd hc HO6 HD6 HC6 HP6;go_wp2_with fail;go_ret;exact⟨rfl,_,HD8.out,by rw[aW];exact HO8.out,HC8.out,HV5.out⟩)
theorem zx(v:Value)(xs:List Nat)(C n s:Nat)(w:World)(ho:OwnB w C v xs)(hC:C≤w.heap.size)(hn:n<4294967296)(hs:s≤4)(hl:xs.length≤1000):
 Calls prog 228 #[v,.int .i64 n,.int .i64 s] w fun e w'=>∃v',e=.returned v'∧OwnB w' C v' (xs++bC n s)∧Below C w w':=by
 have HO0:Hid (OwnB w C v (xs++(bC n s).take (s-s))):=ae (by rw[Nat.sub_self,List.take_zero,List.append_nil];exact ho);have HB0:Hid (Below C w w):=ae (az _ _);have hs1:IntKind.i64.wrap ((s:Int)-1)=(s:Int)-1:=by rw[IntKind.wrap_i64];omega
 obtain⟨a0,c0,rfl,-⟩:=ho.rd;clear ho;go_enter func228,ntmps228;go_wp2_with fail;go_loopw [0,7] (fun u i wr=>∃m:Nat,m≤s∧i=.int .i64 ((m:Int)-1)∧Hid (OwnB wr C u (xs++(bC n s).take (s-m)))∧Hid (Below C w wr)) (fun _ i _=>(intOf i+1).toNat)
 case atStart=>exact⟨s,ah _,rfl,HO0,HB0⟩
 case round=>
  clear HO0 HB0 hs1;obtain⟨m,hm,rfl,HO,HB⟩:=hrel;have hCw:C≤wr.heap.size:=aQ hC HB.out.size;by_cases hm0:m=0
  ·subst hm0
   rw[Nat.sub_zero,aO (by rw[bO];exact ah _)] at HO;generalize hLe:xs++bC n s=L at*;have HLE:=ae hLe;clear hLe;obtain⟨au,cu,rfl,-⟩:=HO.out.rd;go_wp2_with fail;go_ret;exact⟨_,rfl,by rw[HLE.out];exact HO.out,HB.out⟩
  ·obtain⟨q,rfl⟩:∃q,m=q+1:=⟨m-1,by omega⟩
   have hml:(xs++(bC n s).take (s-(q+1))).length≤1000000:=(by rw[aJ,aI,bO];omega);have HT:Hid (xs++(bC n s).take (s-q)=xs++(bC n s).take (s-(q+1))++[n/256 ^ q%256]):=ae (by rw[qz n s q (by omega),List.append_assoc]);generalize xs++(bC n s).take (s-(q+1))=L at*;obtain⟨au,cu,rfl,-⟩:=HO.out.rd;have hcase:q=0∨q=1∨q=2∨q=3:=(by omega);rcases hcase with rfl | rfl | rfl | rfl
   ·go_wp2_with (at_builtin;refine fE (w:=wr) (C:=C) (y:=n%256) rfl _ _ ?hi rfl HO.out hCw hml rfl rfl ?_)
    case hi=>omega
    intro v2 w2 hO2 hb2;have HO2:Hid (OwnB w2 C v2 (xs++(bC n s).take (s-0))):=ae (by rw[HT.out,show n/256 ^ 0%256=n%256 by simp];exact hO2);have HB2:=ae (HB.out.trans hb2);clear hO2 hb2 HO HB HT;go_wp2_with fail;go_roundw
    case rel=>(try((repeat apply Exists.intro);refine⟨?_,rfl⟩));exact⟨0,by omega,by go_num,HO2,HB2⟩
    case measure=>simp[intOf]
   ·go_wp2_with (at_builtin;refine fE (w:=wr) (C:=C) (y:=n/256%256) rfl _ _ ?hi rfl HO.out hCw hml rfl rfl ?_)
    case hi=>omega
    intro v2 w2 hO2 hb2;have HO2:Hid (OwnB w2 C v2 (xs++(bC n s).take (s-1))):=ae (by rw[HT.out,show n/256 ^ 1%256=n/256%256 by simp];exact hO2);have HB2:=ae (HB.out.trans hb2);clear hO2 hb2 HO HB HT;go_wp2_with fail;go_roundw
    case rel=>(try((repeat apply Exists.intro);refine⟨?_,rfl⟩));exact⟨1,by omega,by go_num,HO2,HB2⟩
    case measure=>simp[intOf]
   ·go_wp2_with (at_builtin;refine fE (w:=wr) (C:=C) (y:=n/65536%256) rfl _ _ ?hi rfl HO.out hCw hml rfl rfl ?_)
    case hi=>omega
    intro v2 w2 hO2 hb2;have HO2:Hid (OwnB w2 C v2 (xs++(bC n s).take (s-2))):=ae (by rw[HT.out,show n/256 ^ 2%256=n/65536%256 by simp];exact hO2);have HB2:=ae (HB.out.trans hb2);clear hO2 hb2 HO HB HT;go_wp2_with fail;go_roundw
    case rel=>(try((repeat apply Exists.intro);refine⟨?_,rfl⟩));exact⟨2,by omega,by go_num,HO2,HB2⟩
    case measure=>simp[intOf]
   ·go_wp2_with (at_builtin;refine fE (w:=wr) (C:=C) (y:=n/16777216%256) rfl _ _ ?hi rfl HO.out hCw hml rfl rfl ?_)
    case hi=>omega
    intro v2 w2 hO2 hb2;have HO2:Hid (OwnB w2 C v2 (xs++(bC n s).take (s-3))):=ae (by rw[HT.out,show n/256 ^ 3%256=n/16777216%256 by simp];exact hO2);have HB2:=ae (HB.out.trans hb2);clear hO2 hb2 HO HB HT;go_wp2_with fail;go_roundw
    case rel=>(try((repeat apply Exists.intro);refine⟨?_,rfl⟩));exact⟨3,by omega,by go_num,HO2,HB2⟩
    case measure=>simp[intOf]
theorem fG(n a b:Int)(w:World):Calls prog 263 #[.int .i64 n,.int .i64 a,.int .i64 b] w fun e w'=>e=.returned (.bool (decide (a≤n∧n≤b)))∧w'=w:=by
 by_cases h1:a≤n
 ·by_cases h2:n≤b
  ·have e:decide (a≤n∧n≤b)=true:=decide_eq_true ⟨h1,h2⟩
   rw[e];have h1':decide (a≤n)=true:=decide_eq_true h1;have h2':decide (n≤b)=true:=decide_eq_true h2;go_enter func263,ntmps263;go_wp2_with fail;go_ret;exact⟨rfl,rfl⟩
  ·have e:decide (a≤n∧n≤b)=false:=decide_eq_false fun h=>h2 h.2
   rw[e];have h1':decide (a≤n)=true:=decide_eq_true h1;have h2':decide (n≤b)=false:=decide_eq_false h2;go_enter func263,ntmps263;go_wp2_with fail;go_ret;exact⟨rfl,rfl⟩
 ·have e:decide (a≤n∧n≤b)=false:=decide_eq_false fun h=>h1 h.1
  rw[e];have h1':decide (a≤n)=false:=decide_eq_false h1;go_enter func263,ntmps263;go_wp2_with fail;go_ret;exact⟨rfl,rfl⟩
theorem mr(o b t:Nat)(w:World)(ho:o≤16777215)(hb:b≤8)(ht:t≤16):Calls prog 178 #[.int .i64 o,.int .i64 b,.int .i64 t] w fun e w'=>e=.returned (.int .u32 ((128*o+16*b+t:Nat):Int))∧w'=w:=by
 go_enter func178,ntmps178;go_wp2_with fail;go_ret;refine⟨?_,rfl⟩;congr 2
def zy(most:Int)(l:List Nat):Bool:=(List.range l.length).all fun i=>decide (((l.getD i 0:Nat):Int)≤most) && (i == 0 || decide (l.getD (i-1) 0<l.getD i 0))
theorem Fj(l:List Nat)(B:Nat)(a:Option Addr)(n c:Nat)(most:Int)(w:World)(hx:Rd w B a n (bf l))(hn:n≤1000)(hr:zy most l=true):
 Calls prog 264 #[.slice a n c,.int .i64 most] w fun e w'=>e=.returned (.bool true)∧w'=w:=by
 have hl:l.length=n:=by have:=hx.len;simpa[bf] using this
 have hr2:∀i,i<n→((l.getD i 0:Nat):Int)≤most∧(i=0∨l.getD (i-1) 0<l.getD i 0):=fun i hi=>by
  have h:=List.all_eq_true.1 hr i (by rw[List.mem_range,hl];exact hi);rw[Bool.and_eq_true,Bool.or_eq_true,decide_eq_true_eq,decide_eq_true_eq,beq_iff_eq] at h;exact h
 have HR:=ae hr2;have HX:=ae hx;have HL:=ae hl;clear hr hr2 hx hl;go_enter func264,ntmps264;go_wp2_with fail;go_loopw [9] (fun i wr=>∃k:Nat,k≤n∧i=.int .i64 k∧wr=w) (fun i _=>n-(intOf i).toNat)
 case atStart=>exact⟨0,by omega,rfl,rfl⟩
 case round=>
  obtain⟨k,hkn,rfl,rfl⟩:=hrel;by_cases hlt:k<n
  ·have hltI:(k:Int)<(n:Int):=by omega
   obtain⟨b,o,rfl,hb,hc⟩:=HX.out.2 (by omega);obtain⟨h1,h2⟩:=HR.out k hlt;have c0:=hc k _ (bM (l:=l) (i:=k) (by rw[HL.out];exact hlt));have CW:=ae (fG ((l.getD k 0:Nat):Int) 0 most wr);rw[decide_eq_true (show(0:Int)≤((l.getD k 0:Nat):Int)∧((l.getD k 0:Nat):Int)≤most by omega)] at CW;rcases Nat.eq_zero_or_pos k with hk0 | hk0
   ·have hkI:¬(0:Int)<(k:Int):=by omega
    have hkB:decide ((0:Int)<(k:Int))=false:=decide_eq_false hkI;clear hc h1 h2 hk0;generalize l.getD k 0=x at*;go_wp2_with fail;refine CW.out.mono ?_;rintro e w1 ⟨rfl,rfl⟩;go_wp2_with fail;go_roundw
    case rel=>(try((repeat apply Exists.intro);refine⟨?_,rfl⟩));exact⟨k+1,by omega,by go_num,trivial⟩
    case measure=>simp[intOf];omega
   ·obtain⟨q,rfl⟩:∃q,k=q+1:=⟨k-1,by omega⟩
    have c1:=hc q _ (bM (l:=l) (i:=q) (by rw[HL.out];omega));have h3:l.getD q 0<l.getD (q+1) 0:=(by have:=h2.resolve_left (by omega);simpa using this);have h3I:¬((l.getD (q+1) 0:Nat):Int)≤((l.getD q 0:Nat):Int):=(by omega);have HQ:=ae hk0;clear hc h1 h2 h3 hk0;generalize l.getD (q+1) 0=x at*;generalize l.getD q 0=y at*;go_wp2_with fail;refine CW.out.mono ?_;rintro e w1 ⟨rfl,rfl⟩;go_wp2_with fail;go_roundw
    case rel=>(try((repeat apply Exists.intro);refine⟨?_,rfl⟩));exact⟨q+2,by omega,by go_num,trivial⟩
    case measure=>simp[intOf];omega
  ·obtain rfl:k=n:=by omega
   go_wp2_with fail;go_ret;exact⟨rfl,rfl⟩
def okC(c:Nat):Prop:=(97≤c∧c≤122)∨(48≤c∧c≤57)∨c=45
instance(c:Nat):Decidable (okC c):=by unfold okC;infer_instance
def uT(s:ByteArray):Prop:=1≤s.size∧s.size≤12∧∀i,i<s.size→okC (s.data.toList.getD i 0).toNat
theorem Au(w:World)(e:TypeId)(s:ByteArray):Below w.heap.size w (Lib.bytesWorld w e s):=⟨rfl,rfl,rfl,by rw[Lib.bytesWorld_size];omega,fun k hk=>Lib.bytesWorld_at_old w e s k hk⟩
theorem Cv(w:World)(s:ByteArray):(convert 9 23 (.string s)).run prog w=.ok (.slice (some ⟨w.heap.size,0,none⟩) s.size (grownCap w s.size 0 5)) (Lib.bytesWorld w 5 s):=
 Lib.run_convert_string_bytes w _ _ _ s underlying9 underlying23 underlying5
theorem xh(s:ByteArray)(w:World)(h:uT s):Calls prog 233 #[.string s] w fun e w'=>e=.returned (.bool true)∧Below w.heap.size w w':=by
 obtain⟨h1,h2,h3⟩:=h;have H3:=ae h3;have hcv:=Cv w s;have HB:=ae (Au w 5 s);have HC:=ae fun j hj=>Lib.bytesWorld_cell w 5 s j hj;have h1I:(1:Int)≤(s.size:Int):=by omega
 have h2I:(s.size:Int)≤12:=by omega
 clear h3;generalize grownCap w s.size 0 5=cp at*;generalize Lib.bytesWorld w 5 s=w1 at*;generalize hG:w.heap.size=G at*;have HG:=ae hG;clear hG;go_enter func233,ntmps233
 go_wp2_with (simp only[hcv])
 generalize hn:s.size=n at*;have HN:=ae hn;clear hn hcv;go_loopw [8] (fun i wr=>∃k:Nat,k≤n∧i=.int .i64 k∧Hid (wr=w1)) (fun i _=>n-(intOf i).toNat)
 case atStart=>exact⟨0,by omega,rfl,ae rfl⟩
 case round=>
  obtain⟨k,hkn,rfl,HW⟩:=hrel;obtain rfl:=HW.out;by_cases hlt:k<n
  ·have hltI:(k:Int)<(n:Int):=by omega
   have c0:=HC.out k hlt;have hc:=H3.out k hlt;generalize (s.data.toList.getD k 0).toNat=c at*;rcases hc with⟨p1,p2⟩ | ⟨p1,p2⟩ | p1
   ·have q1:¬(c:Int)<97:=by omega
    have q2:¬(122:Int)<(c:Int):=(by omega);clear p1 p2;go_wp2_with fail;go_roundw
    case rel=>(try((repeat apply Exists.intro);refine⟨?_,rfl⟩));exact⟨k+1,by omega,by go_num,(by first | exact HW | exact trivial | exact ae trivial)⟩
    case measure=>simp[intOf];omega
   ·have q1:(c:Int)<97:=by omega
    have q2:¬(c:Int)<48:=(by omega);have q3:¬(57:Int)<(c:Int):=(by omega);clear p1 p2;go_wp2_with fail;go_roundw
    case rel=>(try((repeat apply Exists.intro);refine⟨?_,rfl⟩));exact⟨k+1,by omega,by go_num,(by first | exact HW | exact trivial | exact ae trivial)⟩
    case measure=>simp[intOf];omega
   ·subst p1
    go_wp2_with fail;go_roundw
    case rel=>(try((repeat apply Exists.intro);refine⟨?_,rfl⟩));exact⟨k+1,by omega,by go_num,(by first | exact HW | exact trivial | exact ae trivial)⟩
    case measure=>simp[intOf];omega
  ·obtain rfl:k=n:=by omega
   have e1:(1:Int)≤(s.size:Int):=(by rw[HN.out];exact h1I);have e2:(s.size:Int)≤12:=(by rw[HN.out];exact h2I);clear h1I h2I;go_wp2_with fail;go_ret;exact⟨by simp,HB.out⟩
def o6{α:Type}(p:α→Bool)(l:List α):Int:=if l.any p then (l.findIdx p:Nat) else-1
theorem o7{α:Type}{p:α→Bool}{l:List α}(h:∀x∈l,p x=false):o6 p l= -1:=by
 unfold o6;rw[if_neg];intro h2;obtain⟨x,hx,hp⟩:=List.any_eq_true.1 h2;rw[h x hx] at hp;cases hp
theorem rL{α:Type}{p:α→Bool}{l:List α}{k:Nat}(hk:k<l.length)(hp:p l[k]=true)(h:∀i (hi:i<k),p (l[i]'(by omega))=false):o6 p l=(k:Int):=by
 unfold o6;rw[if_pos (List.any_eq_true.2 ⟨_,aU hk,hp⟩)];congr 1;exact(List.findIdx_eq hk).2 ⟨hp,fun j hj=>h j hj⟩
theorem tJ{α:Type}(p:α→Bool)(l:List α):decide (0≤o6 p l)=l.any p:=by
 unfold o6;cases h:l.any p with
 | true=>rw[if_pos rfl];simp
 | false=>simp
theorem KP(p:Nat→Bool)(g:FuncId)(cb:Array Value)(l:List Nat)(B:Nat)(a:Option Addr)(n c:Nat)(w:World)(hx:Rd w B a n (bf l))(hB:B≤w.heap.size)(hn:n≤1000000)
 (eg:∀args w,(callFunc g args).run prog w=.ok (.enter g args) w)(hp:∀x∈l,∀W,Below w.heap.size w W→Calls prog g (#[.int .i64 (x:Nat)]++cb) W fun e w'=>e=.returned (.bool (p x))∧Below W.heap.size W w'):
 Calls prog 189 #[.slice a n c,.func (.func g) #[] cb] w fun e w'=>e=.returned (.int .i64 (o6 p l))∧Below w.heap.size w w':=by
 have hl:l.length=n:=by have:=hx.len;simpa[bf] using this
 have HX:=ae hx;have HL:=ae hl;have HP:=ae hp;have HB0:=ae (az w.heap.size w);clear hx hl hp;go_enter func189,ntmps189;go_wp2_with fail;go_loopw [8] (fun i wr=>∃k:Nat,k≤n∧i=.int .i64 k∧Hid (Below w.heap.size w wr)∧Hid (∀i,i<k→p (l.getD i 0)=false)) (fun i _=>n-(intOf i).toNat)
 case atStart=>exact⟨0,by omega,rfl,HB0,ae fun i h=>absurd h (Nat.not_lt_zero i)⟩
 case round=>
  clear HB0;obtain⟨k,hkn,rfl,HB,HN⟩:=hrel;by_cases hlt:k<n
  ·have hltI:(k:Int)<(n:Int):=by omega
   obtain⟨b,o,rfl,hb,hc⟩:=(HX.out.below HB.out hB).2 (by omega);have c0:=hc k _ (bM (l:=l) (i:=k) (by rw[HL.out];exact hlt));have CP:=ae (HP.out (l.getD k 0) (by rw[af,ag (by rw[HL.out];exact hlt)];exact aU _) wr HB.out);have HG:Hid (l.getD k 0=l[k]'(by rw[HL.out];exact hlt)):=ae (by rw[af,ag (by rw[HL.out];exact hlt)];rfl);clear hc;cases hq:p (l.getD k 0) with
   | true=>
     rw[hq] at CP;have HQ:=ae hq;clear hq;generalize l.getD k 0=x at*
     go_wp2_with (go_at_fn g;refine CP.out.mono ?_;rintro e w2 ⟨rfl,hb2⟩)
     go_ret
     have e:=rL (p:=p) (l:=l) (k:=k) (by rw[HL.out];exact hlt) (by rw[←HG.out];exact HQ.out) fun i hi=>by
      have:=HN.out i hi
      rwa [af,ag (by rw[HL.out];omega)] at this
     rw[e];exact⟨rfl,HB.out.trans (hb2.mono HB.out.size)⟩
   | false=>
     rw[hq] at CP
     have HN2:Hid (∀i,i<k+1→p (l.getD i 0)=false):=ae fun i hi=>by
      rcases Nat.lt_or_ge i k with h | h
      ·exact HN.out i h
      ·obtain rfl:i=k:=by omega
       exact hq
     clear hq HG;generalize l.getD k 0=x at*
     go_wp2_with (go_at_fn g;refine CP.out.mono ?_;rintro e w2 ⟨rfl,hb2⟩)
     have HB2:=ae (HB.out.trans (hb2.mono HB.out.size));clear hb2;go_roundw
     case rel=>(try((repeat apply Exists.intro);refine⟨?_,rfl⟩));exact⟨k+1,by omega,by go_num,HB2,HN2⟩
     case measure=>simp[intOf];omega
  ·obtain rfl:k=n:=by omega
   go_wp2_with fail;go_ret;refine⟨?_,HB.out⟩
   have e:=o7 (p:=p) (l:=l) fun x hx=>by
    obtain⟨i,hi,rfl⟩:=List.getElem_of_mem hx;have:=HN.out i (by rw[←HL.out];exact hi)
    rwa [af,ag hi] at this
   rw[e];rfl
theorem xC(p:Nat→Bool)(g:FuncId)(cb:Array Value)(l:List Nat)(B:Nat)(a:Option Addr)(n c:Nat)(w:World)(hx:Rd w B a n (bf l))(hB:B≤w.heap.size)(hn:n≤1000000)
 (eg:∀args w,(callFunc g args).run prog w=.ok (.enter g args) w)(hp:∀x∈l,∀W,Below w.heap.size w W→Calls prog g (#[.int .i64 (x:Nat)]++cb) W fun e w'=>e=.returned (.bool (p x))∧Below W.heap.size W w'):
 Calls prog 190 #[.slice a n c,.func (.func g) #[] cb] w fun e w'=>e=.returned (.bool (l.any p))∧Below w.heap.size w w':=by
 have CI:=ae (KP p g cb l B a n c w hx hB hn eg hp);rw[←tJ];clear hx hp;generalize o6 p l=r at*;go_enter func190,ntmps190;go_wp2_with fail;refine CI.out.mono ?_;rintro e w1 ⟨rfl,hb⟩;have HB:=ae hb;clear hb CI;go_wp2_with fail;go_ret;exact⟨rfl,HB.out⟩
end Go.Proofs.YtofgapdnadbgkaaGreatDoor
