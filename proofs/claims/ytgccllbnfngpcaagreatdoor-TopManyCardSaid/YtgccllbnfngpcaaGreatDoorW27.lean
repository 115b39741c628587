import Derived.Test.YtgccllbnfngpcaaGreatDoorW26
import Derived.KernelRfl
import Derived.ProofKit
set_option linter.unusedVariables false
set_option maxRecDepth 100000
set_option maxHeartbeats 400000000
namespace Go.Proofs.YtgccllbnfngpcaaGreatDoor
open Go.RowKit _root_.Go.Proofs.Tryz List
open Value (int slice pointer bool)
open IntKind (i64)
open Ending (returned)
open Obj (cells)
section
variable {B:Nat}
theorem Kg{w:World}{ops:Array Oper}{rest:List Oper}{o:Oper}{a:Act}{Q:Exit->Act->World->Prop}(hgd:o.guard=none)(s x:Operand){C B m c:Nat}{v:Value}{ad:Option Addr}{xs ys:List Nat}
 (ho:o.op=.call { callee:=.builtin .append,args:=#[s,x],argTypes:=#[22,22] })
 (h:OwnI w C v xs)(hC:C<=w.heap.size)(hl:xs.length+m<=1000000)(hs:a.eval s=v)(hx:a.eval x=slice ad m c)(hnil:ad=none->c=0)(hr:Rd w B ad m (bG ys))
 (K:∀v' w2,OwnI w2 C v' (xs++ys)->Below C w w2->wpList prog ops Q rest (a.put o.dst v') w2):
 wpList prog ops Q (o :: rest) a w:=by
 have hm:m=ys.length:=by rw[<-hr.1];unfold bG;rw[aC]
 refine vw (P:=prog) w hgd s x 22 ho C 3 (int i64 0) 8 underlying22 dY rfl v xs.length (bG xs) hs h B ad m c (bG ys) hx hnil hr (fun u hu=>by unfold bG at hu;obtain⟨y,_,rfl⟩:=aW.1 hu;rfl) (by omega) (by unfold maxLen;omega) hC fun v' w2 hown hg hat=> ?_;refine K v' w2 ?_ ((az _ _).grown hg hC fun g hg=>(World.ownsRow.lt h g hg).1);unfold OwnI;rw[aH,<-hm];have e:bG (xs++ys)=bG xs++bG ys:=by unfold bG;rw[aQ]
 rw[e];exact hown
theorem MP(X:Nat->List (Option dK×List Nat))(o b:Nat)(L:List Nat):(dU X o b L).map Prod.fst=(L.map (ia X o b)).flatten:=by
 unfold dU ia;rw[map_flatten,map_map];rfl
theorem Kh(X:Nat->List (Option dK×List Nat))(o b:Nat)(L:List Nat)(s:Nat):((L++[s]).map (ia X o b)).flatten=(L.map (ia X o b)).flatten++ia X o b s:=by
 rw[aQ,flatten_append];simp
section
variable {K H Z ex N nb n:Nat} {nm:ByteArray} {T l:List Nat} {ords:Nat->List Nat}
def yZ(K H Z ex N nb n:Nat)(nm:ByteArray)(T l:List Nat)(ords:Nat->List Nat)(f:Fl)(k:Nat):Bool:=
 (range k).all fun b=>dc K H Z (ky 0 T b:Nat) ((dU (wG K H Z ex N nb n nm T l ords) 0 b (bH f)).map Prod.fst)
theorem GV(f:Fl)(k:Nat):yZ K H Z ex N nb n nm T l ords f (k+1)=(yZ K H Z ex N nb n nm T l ords f k && dc K H Z (ky 0 T k:Nat) ((dU (wG K H Z ex N nb n nm T l ords) 0 k (bH f)).map Prod.fst)):=by
 unfold yZ;rw[range_succ,all_append,all_cons,all_nil,Bool.and_true]
theorem xD(f:Fl):yZ K H Z ex N nb n nm T l ords f nb=true↔qj K H Z ex N nb n nm T l ords f:=by
 unfold yZ qj;rw[all_eq_true];exact⟨fun h b hb=>h b (bA.2 hb),fun h b hb=>h b (bA.1 hb)⟩
end
theorem GZ{K H Z:Nat}(hK:1<=K/\K<=6)(hH:1<=H/\H<=3)(hZ:1<=Z/\Z<=9):eD K H Z=true:=by
 have hd:∀k:Fin 7,∀h:Fin 4,∀z:Fin 10,1<=k.val->1<=h.val->1<=z.val->eD ((k.val:Nat):Int) ((h.val:Nat):Int) ((z.val:Nat):Int)=true:=by decide +kernel
 exact hd ⟨K,by omega⟩ ⟨H,by omega⟩ ⟨Z,by omega⟩ hK.1 hH.1 hZ.1
theorem G0{q n:Nat}(hq:1<=q)(h1:1<=n)(h2:n<=2*q):1<=iB q n/\iB q n<=2:=by
 unfold iB;rw[bg (by omega)];have:(n-1)/q<2:=(Nat.div_lt_iff_lt_mul (by omega)).2 (by omega);generalize (n-1)/q=z at*;omega
end
section
variable {B:Nat}
theorem Gw{f:Fl}{s:Nat}(hs:s∈bH f):(bH (f.lose s)).length+1=(bH f).length:=by
 have e:bH (f.lose s)=(bH f).filter fun i=>i != s:=by
  unfold bH Fl.lose;simp only;rw[filter_filter];refine filter_congr fun i _=> ?_;by_cases h:i=s
  ·subst h;simp[upd_same]
  ·have hb:(i != s)=true:=by simpa using h
   simp[upd_ne _ _ h,hb]
 have h0:0<(bH f).length:=length_pos_of_mem hs;rw[e,<-List.Nodup.erase_eq_filter (gD f),length_erase_of_mem hs];omega
section
variable {K H Z ex N nb n:Nat} {nm:ByteArray} {T l:List Nat} {ords:Nat->List Nat}
theorem uS(S:MSet K H Z ex N nb n nm T l ords)(g:Nat)(f:Fl)(w:World)(h:Stq B w g f (dM K H Z ex N (fU n nm T)) (xq K H Z ex N nb n nm T l ords)):
 Calls prog 24 #[pointer (some ⟨g,0,none⟩)] w fun r w'=>∃av cv a c,r=returned (.agg (cH (dM K H Z ex N (fU n nm T)) (slice av N cv) (slice a 1 c)))/\(rI (range N)).ok w' (fun b=>w.heap.size<=b) [slice av N cv]/\(rS 4 ([fU n nm T].map cN)).ok w' (fun b=>Fu w' b/\w.heap.size<=b) [slice a 1 c]/\Below w.heap.size w w':=by
 have hN:=S.hN;have h8:=S.h8;have hT:=S.hT.1;refine(Co (dM K H Z ex N (fU n nm T)) (fU n nm T) g f (xq K H Z ex N nb n nm T l ords) w h rfl (by show(range N).length<=1000;rw[aY];omega) (by show T.length<=1000;omega)).mono ?_;rintro r w' ⟨v,a,c,rfl,hd,ho,hb⟩;obtain⟨av,cv,rfl,-⟩:=dA (n:=N) hd aY;exact⟨av,cv,a,c,rfl,hd,ho,hb⟩
theorem Mr(S:MSet K H Z ex N nb n nm T l ords)(g:Nat)(f:Fl)(w:World)(hf:f.n=N)(h:Stq B w g f (dM K H Z ex N (fU n nm T)) (xq K H Z ex N nb n nm T l ords))(b:Nat):
 Calls prog 46 #[pointer (some ⟨g,0,none⟩),int i64 0,int i64 b] w fun r w'=>∃v,r=returned v/\OwnS w' w.heap.size 22 1 Any v ((bH f).map fun s=>rI (ia (wG K H Z ex N nb n nm T l ords) 0 b s))/\Below w.heap.size w w':=
 ME (dM K H Z ex N (fU n nm T)) (fU n nm T) g 0 b f (wG K H Z ex N nb n nm T l ords) (xq K H Z ex N nb n nm T l ords) w h rfl S.hk fun s hs=>⟨S.rows (hf▸(ek hs).1),(S.okX s).1⟩
theorem CV(S:MSet K H Z ex N nb n nm T l ords)(g:Nat)(f:Fl)(w:World)(hf:f.n=N)(h:Stq B w g f (dM K H Z ex N (fU n nm T)) (xq K H Z ex N nb n nm T l ords))(s:Nat)(hs:s∈bH f)(a1 a2:Option Addr)(c1 c2:Nat)(F:Nat->Prop)(hd:(rI (range N)).ok w F [slice a1 N c1])(ho:(rS 4 ([fU n nm T].map cN)).ok w F [slice a2 1 c2]):
 Calls prog 45 #[pointer (some ⟨f.D s,0,none⟩),.agg (cH (dM K H Z ex N (fU n nm T)) (slice a1 N c1) (slice a2 1 c2))] w fun e w'=>e=returned (bool true)/\Below w.heap.size w w':=by
 have hm:=ek hs;have hg:=(S.okX s).2;rw[<-S.rows (hf▸hm.1)] at hg;obtain⟨-,⟨o,h1,-⟩,-⟩:=h.drs;rcases h1 s hm.1 with⟨e,-⟩ | ⟨-,h1⟩
 ·rw[hm.2] at e;cases e
 exact uO (dM K H Z ex N (fU n nm T)) (ah 1) a1 a2 N c1 1 c2 (f.D s) f.p (f.room s) F (xq K H Z ex N nb n nm T l ords s) (o s) w h1.r hd aY ho rfl S.man S.pq hg.1 hg.2.1 hg.2.2
end
end
section
variable {B:Nat}
def o7:ByteArray:= { data:=#[105,116] }
theorem okNIt:kP o7:=⟨by decide,by decide,fun i hi=>by
 have h0:i=0\/i=1:=by have:i<2:=hi;omega
 rcases h0 with rfl | rfl <;> decide⟩
def f30(p N:Nat)(D:Nat->Nat):Fl:=⟨p,N,D,fun i=>(replicate N 30).getD i 0,fun _=>false⟩
theorem OY{N i:Nat}(h:i<N):(replicate N 30).getD i 0=30:=by
 rw[af,List.getElem?_replicate,bf h];rfl
theorem pg30{N:Nat}(h:N<=64):jY (14+N+1)<=2:=by unfold jY;omega
theorem t_new(K H Z N:Nat)(F:Nat->Prop)(a:Option Addr)(c:Nat)(w:World)(hk:eD K H Z=true)(hN:2<=N/\N<=64)(hx:(rI (replicate N 30)).ok w F [slice a N c]):
 Calls prog 16 #[cE K H Z,int i64 12,slice a N c] w fun e w'=>∃ga g p D,e=returned (.tuple #[pointer (some ⟨ga,0,none⟩),int i64 0])/\Blk w' ga 80 (iF p g)/\w.heap.size<=g/\Stq w.heap.size w' g (f30 p N D) (bX K H Z 12 N) (Mk K H Z 12 N)/\w'.cell? ⟨g,7,none⟩=some (slice none 0 0)/\Below w.heap.size w w':=
 Oi K H Z 12 (replicate N 30) F a N c w hk (by decide) (by omega) hN.2 (fun x hx=>by
  rw[eq_of_mem_replicate hx,dW];have h:=qA (bX K H Z 12 N);have e1:(bX K H Z 12 N).drives.length=N:=aY;have e2:((bX K H Z 12 N).objs.map oo).flatten.length=0:=rfl;unfold jY;omega) hx aI
theorem MR{K H Z N n:Nat}{l:List Nat}(hK:K<=6)(hk:eD K H Z=true)(hN:2<=N/\N<=64)(hn:1<=n/\n<=2*(K*Z))(hl:l.length=n)(hb:By l)(ga p g:Nat)(D:Nat->Nat)(a:Option Addr)(c:Nat)(w:World)
 (hA:Blk w ga 80 (iF p g))(h:Stq B w g (f30 p N D) (bX K H Z 12 N) (Mk K H Z 12 N))(hvo:w.cell? ⟨g,7,none⟩=some (slice none 0 0))(hB:B<=g/\B<=w.heap.size)(hx:Rd w w.heap.size a n (bF l))(hnc:n<=c/\c<=maxLen):
 Calls prog 10 #[pointer (some ⟨ga,0,none⟩),.agg (sD 1 o7 (slice a n c))] w fun e w'=>∃E,e=returned (.agg (gV E (slice none 0 0)))/\ChgT w w'/\((E=8/\True/\Below w.heap.size w w')\/(E=0/\(∃T ords,MSet K H Z 12 N (iB (K*Z) n) n o7 T l ords/\Stq B w' g (f30 p N D) (dM K H Z 12 N (fU n o7 T)) (xq K H Z 12 N (iB (K*Z) n) n o7 T l ords))/\Below B w w')):=by
 have hok:=aZ hk;have hg:g<w.heap.size:=by obtain⟨-,⟨_,_,hst,-⟩,-⟩:=h;exact hst.lt
 have hq1:1<=K*Z:=Nat.mul_pos (by omega) (by omega);have hq2:K*Z<=6*24:=bn hK (by omega);have hnb:=G0 hq1 hn.1 hn.2;generalize hnbe:iB (K*Z) n=nb at*
 have h19:nb*((K+12+1)/2)<=18:=by
  have h1:(K+12+1)/2<=9:=(by omega);exact aO (bn hnb.2 h1) (by omega)
 refine Fg ga p g n c o7 a True (fun w'=>(∃T ords,MSet K H Z 12 N nb n o7 T l ords/\Stq B w' g (f30 p N D) (dM K H Z 12 N (fU n o7 T)) (xq K H Z 12 N nb n o7 T l ords))/\Below B w w') w hA fun W hW=>
  (NW hk (by decide) hN okNIt ⟨by omega,by omega⟩ hnbe ⟨hnb.1,by omega⟩ hl hb (by omega) g (f30 p N D) rfl (fun _=>rfl) (fun i hi=> ?_) a c W (h.below hW) ((hW.cell (p:=⟨g,7,none⟩) hg).trans hvo) ⟨hB.1,aO hB.2 hW.size⟩ ((hx.below hW (ah _)).more hW.size) hnc).mono ?_
 ·have h1:=pg30 hN.2
  have h2:jY (20+N+o7.size+nb)<=2:=by
   have:o7.size=2:=rfl;unfold jY;omega
  show _<=(replicate N 30).getD i 0/\(replicate N 30).getD i 0<=512;rw[OY hi];omega
 ·rintro e w' ⟨E,h1,h2,h3⟩
  exact⟨E,h1,h2,h3.imp (fun ⟨h4,_,h6⟩=>⟨h4,trivial,h6⟩) fun ⟨h4,h5,h6⟩=>⟨h4,h5,(hW.mono hB.2).trans h6⟩⟩
end
theorem Ct(b t:Nat)(w:World)(hb:b<=8)(ht:t<=16):Calls prog 48 #[int i64 0,int i64 b,int i64 t] w fun e w'=>e=returned (.int .u32 ((128*0+16*b+t:Nat):Int))/\w'=w:=by
 go_enter func48,ntmps48;go_wp2_with fail;go_ret;refine⟨congrArg (fun z:Int=>Ending.returned (.int .u32 z)) ?_,rfl⟩;omega
theorem jU(ga p g:Nat)(w:World)(hA:Blk w ga 80 (iF p g)):Calls prog 21 #[pointer (some ⟨ga,0,none⟩)] w fun e w'=>e=returned (pointer (some ⟨g,0,none⟩))/\w'=w:=by
 obtain⟨k0,k1⟩:=nM hA;clear hA;go_enter func21,ntmps21;go_wp2_with fail;go_ret;exact⟨rfl,rfl⟩
theorem rf{P:Program}{fn:Func}{p q r:Tmp}{ty:TypeId}(h:fn.results= #[.cell p ty,.tmp q,.tmp r])(tmps:Array Value)(w:World)(g:Nat)(t:TypeId)(cs:Array Value)(fr:Nat×Nat)(d:TypeDesc)
 (hp:tmps.getD p undef=pointer (some ⟨g,0,none⟩))(hg:w.heap[g]? =some (.cells cs t fr))
 (hu:P.underlying ty=some d)(hd:(match d with | .struct _ | .array _ _=>true | _=>false)=true)(hi:(P.info? ty).map (·.size)=some cs.size):
 (results fn tmps).run P w=.ok (.tuple #[.agg cs,tmps.getD q undef,tmps.getD r undef]) w:=by
 have hp':tmps[p]?.getD undef=pointer (some ⟨g,0,none⟩):=by simpa using hp
 simp[results,h,hp',asAddr,run_loadVar_row w g t ty cs fr d hg hu hd hi]
theorem Ae(zs:List Int)(hz:∀z∈zs,-9223372036854775808<=z/\z<=9223372036854775807)(a:Option Addr)(n c:Nat)(w:World)(hx:Rd w w.heap.size a n (zs.map (Value.int .i64))):
 Calls prog 15 #[slice a n c] w fun e w'=>∃v1 v2,e=returned (.tuple #[cE (1+zs.getD 0 0%6) (1+zs.getD 1 0%3) (1+zs.getD 2 0%9),v1,v2])/\Below w.heap.size w w':=by
 have hg:∀k,-9223372036854775808<=zs.getD k 0/\zs.getD k 0<=9223372036854775807:=fun k=>by
  rw[af];rcases bq k zs.length with h | h
  ·rw[ag h];exact hz _ (aP h)
  ·rw[List.getElem?_eq_none h];decide
 have S0:Hid (Sx w (w.alloc (cells #[int i64 0,int i64 0,int i64 0] 25)) [bQ w.heap.size 25 #[int i64 0,int i64 0,int i64 0],kT a n (zs.map (Value.int .i64))]):=
  ae ((((Sx.nil w).add (kT a n (zs.map (Value.int .i64))) hx).alloc _).add (bQ _ _ _) (Blk.new w _ _))
 have CN:=ae fun k w (h:Rd w w.heap.size a n (zs.map (Value.int .i64)))=>Lv zs w.heap.size a n c k w h;have CS:=ae fun w=>Eh (zs.getD 0 0) (zs.getD 1 0) (zs.getD 2 0) w (hg 0) (hg 1) (hg 2);have C4:=ae fun w=>eM (zs.getD 4 0) 4 w (hg 4) (by omega) (by omega);have C3:=ae fun w=>eM (zs.getD 3 0) 7 w (hg 3) (by omega) (by omega);have CK:=ae fun k w=>eM (zs.getD k 0) 50 w (hg k) (by omega) (by omega);have h4:0<=zs.getD 4 0%4/\zs.getD 4 0%4<4:=⟨Int.emod_nonneg _ (by omega),Int.emod_lt_of_pos _ (by omega)⟩;have CN0:=CN.out 0;have CN1:=CN.out 1;have CN2:=CN.out 2;have CN3:=CN.out 3;have CN4:=CN.out 4;generalize zs.getD 0 0=z0 at*;generalize zs.getD 1 0=z1 at*;generalize zs.getD 2 0=z2 at*;generalize zs.getD 3 0=z3 at*;generalize zs.getD 4 0=z4 at*;obtain⟨r4,hr4⟩:∃r4:Nat,z4%4=(r4:Int):=⟨(z4%4).toNat,by omega⟩;rw[hr4] at C4 h4;have hr3:(2:Int)+(r4:Int)<=5:=by omega
 replace CN0:=ae CN0;replace CN1:=ae CN1;replace CN2:=ae CN2;replace CN3:=ae CN3;replace CN4:=ae CN4;unfold cE at CS ⊢;clear hz hx hg h4 hr4;go_enter func15,ntmps15;go_wp2_with fail;generalize w.alloc (cells #[int i64 0,int i64 0,int i64 0] 25)=w0 at*;refine(CN0.out w0 (S0.out.rd 1 rfl)).mono ?_;rintro e wx ⟨rfl,rfl⟩;go_wp2_with fail;refine(CN1.out w0 (S0.out.rd 1 rfl)).mono ?_;rintro e wx ⟨rfl,rfl⟩;go_wp2_with fail;refine(CN2.out w0 (S0.out.rd 1 rfl)).mono ?_;rintro e wx ⟨rfl,rfl⟩;go_wp2_with fail;refine(CS.out w0).mono ?_;rintro e w1 ⟨rfl,hb1⟩;have S1:=ae (S0.out.step hb1);have HW:Hid (w.heap.size<w1.heap.size):=ae (S1.out.blk 0 rfl).lt;clear hb1 S0 CS CN0 CN1 CN2;have hba:=(az w1.heap.size w1).alloc (ah _) (cells #[int i64 (1+z0%6),int i64 (1+z1%3),int i64 (1+z2%9)] 25);have S2:=ae ((S1.out.step hba).add (bQ w1.heap.size 25 #[int i64 (1+z0%6),int i64 (1+z1%3),int i64 (1+z2%9)]) (Blk.new w1 _ _));clear hba S1;have HI0:=ae (OwnI.nil (w1.alloc (cells #[int i64 (1+z0%6),int i64 (1+z1%3),int i64 (1+z2%9)] 25)) (w1.alloc (cells #[int i64 (1+z0%6),int i64 (1+z1%3),int i64 (1+z2%9)] 25)).heap.size);have hG1:w.heap.size<w1.heap.size:=HW.out;go_wp2_with fail;generalize w1.alloc (cells #[int i64 (1+z0%6),int i64 (1+z1%3),int i64 (1+z2%9)] 25)=w2 at*;generalize w1.heap.size=G1 at*;have HB0:=ae (az w2.heap.size w2);go_loopw [7,8] (fun v i wr=>∃(k:Nat) (l:List Nat),k<=2+r4/\i=int i64 k/\Hid (l.length=k)/\Hid (OwnI wr w2.heap.size v l)/\Hid (Below w2.heap.size w2 wr)) (fun _ i _=>2+r4-(intOf i).toNat)
 case atStart=>exact⟨0,[],by omega,rfl,ae rfl,HI0,HB0⟩
 case round=>
  clear HI0 HB0;obtain⟨k,l,hkn,rfl,HL,HO,HB⟩:=hrel;obtain⟨av,nv,cv,rfl⟩:=HO.out.sl;have S3:=ae (S2.out.step HB.out);go_wp2_with fail;refine(CN4.out wr (S3.out.rd 2 rfl)).mono ?_;rintro e wx ⟨rfl,rfl⟩;go_wp2_with fail;refine(C4.out wr).mono ?_;rintro e wx ⟨rfl,rfl⟩;by_cases hlt:k<2+r4
  ·have hltI:(k:Int)<2+(r4:Int):=by omega
   obtain⟨q5,hq⟩:∃q,q=5+k:=⟨_,rfl⟩;have hq5:(5:Int)+(k:Int)=(q5:Int):=(by omega);have CNK:=ae (CN.out q5 wr (S3.out.rd 2 rfl));have CKK:=ae (CK.out q5 wr);have hz50:0<=zs.getD q5 0%50/\zs.getD q5 0%50<50:=⟨Int.emod_nonneg _ (by omega),Int.emod_lt_of_pos _ (by omega)⟩;clear hq;generalize zs.getD q5 0=zk at*;generalize zk%50=z50 at*;have hml:l.length<=1000000:=(by rw[HL.out];omega);have hsz:=HB.out.size;go_wp2_with fail;refine CNK.out.mono ?_;rintro e wx ⟨rfl,rfl⟩;go_wp2_with fail;refine CKK.out.mono ?_;rintro e wx ⟨rfl,rfl⟩
   go_wp2_with (at_builtin;refine jv (w:=wr) (C:=w2.heap.size) (y:=(8+z50).toNat) rfl _ _ ?hi rfl HO.out hsz hml rfl rfl ?_)
   case hi=>omega
   intro v6 w6 hO6 hb6;obtain⟨_,_,_,rfl⟩:=hO6.sl;have HO6:=ae hO6;have HB6:=ae (HB.out.trans hb6);have HL6:Hid ((l++[(8+z50).toNat]).length=k+1):=ae (by rw[aH,HL.out];rfl);clear hO6 hb6 HO HB HL S3;generalize l++[(8+z50).toNat]=l6 at*;go_wp2_with fail;go_roundw
   case rel=>exact⟨k+1,l6,by omega,by go_num,HL6,HO6,HB6⟩
   case measure=>simp[intOf];omega
  ·have hltI:¬(k:Int)<2+(r4:Int):=by omega
   have CNY:=ae fun W (hW:Below wr.heap.size wr W)=>CN3.out W ((S3.out.step hW).rd 2 rfl);obtain⟨p0,p1,p2⟩:=kU (S3.out.blk 0 rfl);obtain⟨q0,q1,q2⟩:=kU (S3.out.blk 1 rfl);have f0:=(S3.out.blk 1 rfl).frozen 0;have f1:=(S3.out.blk 1 rfl).frozen 1;have f2:=(S3.out.blk 1 rfl).frozen 2;have hne:w.heap.size≠G1:=(by omega);clear CN CK CN4 CN3 C4 HO HL HB;go_wp2_with fail
   go_region_law (first
    | (go_simp
       go_at_call 41;refine(CNY.out _ (az _ _).drew).mono ?_;rintro e wx ⟨rfl,rfl⟩;go_simp)
    | (go_simp
       go_at_call 19;refine(C3.out _).mono ?_;rintro e wx ⟨rfl,rfl⟩;go_simp))
   all_goals(
    go_simp;go_wp2_with fail
    (try simp only[Exit.inBlock,Exit.then])
    refine bodyPost_ret (rf rfl _ _ w.heap.size 25 #[int i64 (1+z0%6),int i64 (1+z1%3),int i64 (1+z2%9)] (0,0) _ rfl (Blk.drew (by simpa using(((S3.out.blk 1 rfl).set 0 (int i64 (1+z0%6))).set 1 (int i64 (1+z1%3))).set 2 (int i64 (1+z2%9)))) underlying25 rfl (by kernel_rfl)) rfl ?_;exact⟨_,_,rfl,(((S3.out.1.setCell (p:=⟨w.heap.size,0,none⟩) (ah _) _).setCell (p:=⟨w.heap.size,1,none⟩) (ah _) _).setCell (p:=⟨w.heap.size,2,none⟩) (ah _) _).drew⟩)
theorem Gg(n:Nat)(x:Int)(hn:n<=1000)(hx: -9223372036854775808<=x/\x<=9223372036854775807)(w:World):
 Calls prog 18 #[int i64 n,int i64 x] w fun e w'=>∃v l,e=returned v/\OwnB w' w.heap.size v l/\l.length=n/\By l/\Below w.heap.size w w':=by
 have HO0:Hid (OwnB w w.heap.size (slice none 0 0) []):=ae (OwnB.nil _ _);have HB0:=ae (az w.heap.size w);go_enter func18,ntmps18;go_wp2_with fail;go_loopw [5,6] (fun v i wr=>∃(k:Nat) (l:List Nat),k<=n/\i=int i64 k/\Hid (l.length=k/\By l)/\Hid (OwnB wr w.heap.size v l)/\Hid (Below w.heap.size w wr)) (fun _ i _=>n-(intOf i).toNat)
 case atStart=>exact⟨0,[],by omega,rfl,ae ⟨rfl,fun x hx=>(by cases hx)⟩,HO0,HB0⟩
 case round=>
  clear HO0 HB0;obtain⟨k,l,hkn,rfl,HL,HO,HB⟩:=hrel;obtain⟨av,nv,cv,rfl,-⟩:=HO.out.sl;by_cases hlt:k<n
  ·have hltI:(k:Int)<(n:Int):=by omega
   have hk7:(k:Int).tmod 7=((k%7:Nat):Int):=(by rw[Int.tmod_eq_emod_of_nonneg (by omega)];rfl);have hsz:=HB.out.size;have hml:l.length<=1000000:=by have:=HL.out.1;omega
   go_wp2_with (at_builtin;refine fI (w:=wr) (C:=w.heap.size) (y:=(wrap64 (x/2 ^ (k%7)+wrap64 ((k:Int)*bits .or .i64 x 1))%256).toNat) rfl _ _ ?hi rfl HO.out hsz hml rfl rfl ?_)
   case hi=>generalize wrap64 (x/2 ^ (k%7)+wrap64 ((k:Int)*bits .or .i64 x 1))=z;omega
   generalize hy:(wrap64 (x/2 ^ (k%7)+wrap64 ((k:Int)*bits .or .i64 x 1))%256).toNat=y;have HL2:Hid ((l++[y]).length=k+1/\By (l++[y])):=ae ⟨by rw[aH,HL.out.1];rfl,fun z hz=>(bz.1 hz).elim (HL.out.2 z) fun h=>by rw[mem_singleton.1 h];omega⟩;intro v2 w2 hO2 hb2;obtain⟨_,_,_,rfl,-⟩:=hO2.sl;have HO2:=ae hO2;have HB2:=ae (HB.out.trans hb2);clear hO2 hb2 HO HB hy HL;generalize l++[y]=l2 at*;go_wp2_with fail;go_roundw
   case rel=>exact⟨k+1,l2,by omega,by go_num,HL2,HO2,HB2⟩
   case measure=>simp[intOf];omega
  ·obtain rfl:k=n:=by omega
   go_wp2_with fail;go_ret;exact⟨_,l,rfl,HO.out,HL.out.1,HL.out.2,HB.out⟩
section
variable {B:Nat}
theorem Es{X:Nat->List (Option dK×List Nat)}{o b c:Nat}(h:∀s,(ia X o b s).length<=c):∀L:List Nat,((L.map (ia X o b)).flatten).length<=L.length*c
 | []=>by simp
 | s :: L=>by
   have ih:=Es h L;have h1:=h s;rw[map_cons,flatten_cons,aH,length_cons,Nat.succ_mul];omega
section
variable {K H Z ex N nb n:Nat} {nm:ByteArray} {T l:List Nat} {ords:Nat->List Nat}
theorem m_can(S:MSet K H Z ex N nb n nm T l ords)(g:Nat)(f:Fl)(w:World)(hf:f.n=N)(h:Stq B w g f (dM K H Z ex N (fU n nm T)) (xq K H Z ex N nb n nm T l ords))(hlv:0<(bH f).length)(F:Nat->Prop)(a:Option Addr)(c:Nat)(hT:(rI T).ok w F [slice a nb c]):
 Calls prog 23 #[pointer (some ⟨g,0,none⟩),.agg #[.string nm,int i64 0,int i64 n,slice a nb c]] w fun e w'=>e=returned (bool (yZ K H Z ex N nb n nm T l ords f nb))/\Below w.heap.size w w':=by
 have hN:=S.hN;have h8:=S.h8;obtain⟨htl,htt⟩:=S.hT;have h64:=h.n0.2;have hln:(bH f).length<=64:=jd h64;have hok:=aZ S.hk;obtain⟨nl,hnl⟩:∃nl,(bH f).length=nl:=⟨_,rfl⟩;rw[hnl] at hln hlv
 have S0:Hid (Sx w (w.alloc (cells #[.string nm,int i64 0,int i64 n,slice a nb c] 65)) [bQ w.heap.size 65 #[.string nm,int i64 0,int i64 n,slice a nb c],jI B g f (dM K H Z ex N (fU n nm T)) (xq K H Z ex N nb n nm T l ords),eR F (slice a nb c) (rI T)]):=
  ae (((((Sx.nil w).add (eR F (slice a nb c) (rI T)) hT).add (jI B g f _ _) h).alloc _).add (bQ _ _ _) (Blk.new w _ _))
 have CM:=ae fun w h=>uS (B:=B) S g f w h;have CL:=ae fun w h=>kR (B:=B) g f (dM K H Z ex N (fU n nm T)) (xq K H Z ex N nb n nm T l ords) w h;have CW:=ae fun w h b=>Mr (B:=B) S g f w hf h b;have CD:=ae fun s (hs:s∈bH f) w (h:StB w g f)=>nI s g f w h (ek hs).1 h64;have CS:=ae fun s (hs:s∈bH f) av a2 cv c2 w h hd ho=>CV (B:=B) S g f w hf h s hs av a2 cv c2 Any hd ho;have CR:=ae fun b (hb:b<nb) w=>Ct b (T.getD b 0) w (by omega) (by have h1:T.getD b 0<16:=(htt b hb).1;omega);have CF:=ae fun b (hb:b<nb) (a:Option Addr) (nn c:Nat) w h hn=>Lb K H Z (ky 0 T b:Nat) ((dU (wG K H Z ex N nb n nm T l ords) 0 b (bH f)).map Prod.fst) a nn c w S.hk (by omega) (by have h1:T.getD b 0<16:=(htt b hb).1;unfold ky ig;omega) h (fun i hi=>by obtain⟨x,hx,rfl⟩:=aW.1 hi;exact((S.sym (gD f) hb).1 x hx).1) hn
 have HSB:Hid (∀b s,(ia (wG K H Z ex N nb n nm T l ords) 0 b s).length<=19):=ae fun b s=>by
  unfold ia;rw[aC];exact aO (qL _ _ _) (S.okX s).1.2.2.1
 have HIA:Hid (∀b,(dU (wG K H Z ex N nb n nm T l ords) 0 b (bH f)).map Prod.fst=((bH f).map (ia (wG K H Z ex N nb n nm T l ords) 0 b)).flatten):=ae fun b=>MP _ 0 b _;have HSL:Hid (∀b,b<nb->(dU (wG K H Z ex N nb n nm T l ords) 0 b (bH f)).length<=32):=ae fun b hb=>(S.sym (gD f) hb).2;have HCS:=ae fun k=>GV (K:=K) (H:=H) (Z:=Z) (ex:=ex) (N:=N) (nb:=nb) (n:=n) (nm:=nm) (T:=T) (l:=l) (ords:=ords) f k;have HC0:yZ K H Z ex N nb n nm T l ords f 0=true:=rfl;have HK:Hid (cE K H Z=.agg #[int i64 (dM K H Z ex N (fU n nm T)).K,int i64 (dM K H Z ex N (fU n nm T)).H,int i64 (dM K H Z ex N (fU n nm T)).Z]):=ae rfl;have HTL:=ae htl;have HNL:=ae hnl;generalize yZ K H Z ex N nb n nm T l ords f=cm at*;generalize wG K H Z ex N nb n nm T l ords=X at*;generalize xq K H Z ex N nb n nm T l ords=R at*;generalize dM K H Z ex N (fU n nm T)=m at*;unfold cH at CM CS;clear h hT S htl htt hf hok hnl h64;go_enter func23,ntmps23;go_wp2_with fail;generalize w.alloc (cells #[.string nm,int i64 0,int i64 n,slice a nb c] 65)=w0 at*;refine(CM.out w0 (S0.out.stq 1 rfl)).mono ?_;rintro r w1 ⟨av,cv,a2,c2,rfl,hd1,ho1,hb1⟩;have S1:=ae (((S0.out.step hb1).add (eR Any (slice av N cv) (rI (range N))) (Rp.any _ hd1)).add (eR Any (slice a2 1 c2) (rS 4 ([fU n nm T].map cN))) (Rp.any _ ho1));have hba:=(az w1.heap.size w1).alloc (ah _) (cells #[int i64 m.seq,int i64 m.next,int i64 m.K,int i64 m.H,int i64 m.Z,int i64 m.extra,slice av N cv,slice a2 1 c2] 68);have S2:=ae ((S1.out.step hba).add (bQ w1.heap.size 68 #[int i64 m.seq,int i64 m.next,int i64 m.K,int i64 m.H,int i64 m.Z,int i64 m.extra,slice av N cv,slice a2 1 c2]) (Blk.new w1 _ _));clear hd1 ho1 hb1 hba S0 S1 CM;go_wp2_with fail;generalize w1.alloc (cells #[int i64 m.seq,int i64 m.next,int i64 m.K,int i64 m.H,int i64 m.Z,int i64 m.extra,slice av N cv,slice a2 1 c2] 68)=w2 at*;generalize w1.heap.size=G1 at*;refine(CL.out w2 (S2.out.stq 4 rfl)).mono ?_;rintro r w3 ⟨v3,rfl,ho3,hb3⟩;obtain⟨a3,c3,rfl⟩:=ho3.lenA;rw[HNL.out] at ho3 ⊢;have S3:=ae ((S2.out.step hb3).add (eR Any (slice a3 nl c3) (rI (bH f))) (Rp.any _ (d9 ho3)));have HB0:=ae (az w3.heap.size w3);clear ho3 hb3 S2 CL;go_wp2_with fail;go_loopw [6,19] (fun v i wr=>∃k:Nat,k<=nl/\v=bool (decide (0<k))/\i=int i64 k/\Hid (Below w3.heap.size w3 wr)) (fun _ i _=>nl-(intOf i).toNat)
 case atStart=>exact⟨0,by omega,rfl,rfl,HB0⟩
 case round=>
  clear HB0;obtain⟨k,hkn,rfl,rfl,HB⟩:=hrel;have S4:=ae (S3.out.step HB.out);by_cases hlt:k<nl
  ·have hltI:(k:Int)<(nl:Int):=by omega
   have hkl:k<(bH f).length:=(by rw[HNL.out];exact hlt);obtain⟨a',c',er,hrd,-⟩:=dA (S4.out.rep 0 rfl) HNL.out;injection er with e1 e2 e3;subst e1 e3;obtain⟨b',o',rfl,hb',hcc⟩:=hrd.2 (by omega);have cq:=hcc k (int i64 ((bH f).getD k 0:Nat)) (bL hkl);have hsm:(bH f).getD k 0∈bH f:=(by rw[af,ag hkl];exact aP hkl);have CD1:=ae (CD.out _ hsm);have CS1:=ae (CS.out _ hsm av a2 cv c2);generalize (bH f).getD k 0=s at*;generalize hD:f.D s=ds at*;clear hD hrd hcc hsm hkl;obtain⟨bk,hbk⟩:∃bk,decide (0<k)=bk:=⟨_,rfl⟩;rw[hbk];clear hbk;obtain⟨m0,m1,m2,m3,m4,m5,m6,m7⟩:=cZ (S4.out.blk 1 rfl);cases bk with
   | false=>
     go_wp2_with fail;clear cq m0 m1 m2 m3 m4 m5 m6 m7;refine bO (by kernel_rfl) (by kernel_rfl) ?_
     iterate 9 (
      with_reducible refine wpQuiet_step (fun Kq hKq=> ?_)
      go_simp
      first
      | refine hKq _ ?_
      | refine⟨_,fun _ _=>rfl,hKq _ ?_⟩
      | (apply Exists.intro
         refine⟨fun w' hw'=> ?_,hKq _ ?_⟩
         ·obtain⟨m0',m1',m2',m3',m4',m5',m6',m7'⟩:=cZ ((S4.out.step hw').blk 1 rfl)
          first
          | (go_simp
             first | exact rfl | exact⟨rfl,rfl⟩)
          | (go_at_call 38
             refine(CD1.out w' ((S4.out.step hw').stq 5 rfl).sb).mono ?_;rintro r w5 ⟨rfl,rfl⟩;exact⟨rfl,hw'⟩)
          | (go_at_call 45
             refine(CS1.out w' ((S4.out.step hw').stq 5 rfl) ((S4.out.step hw').rep 3 rfl) ((S4.out.step hw').rep 2 rfl)).mono ?_;rintro r w5 ⟨rfl,hb5⟩;exact⟨rfl,hw'.trans (hb5.mono hw'.size)⟩))
      clear hKq Kq)
     with_reducible refine wpQuiet_nil ?_
     intro w5 hw5;have HB5:=ae (HB.out.trans (hw5.mono HB.out.size));clear hw5 HB;go_wp2_with fail;go_roundw
     case rel=>exact⟨k+1,by omega,by simp,by go_num,HB5⟩
     case measure=>simp[intOf];omega
   | true=>
     go_wp2_with fail;clear cq m0 m1 m2 m3 m4 m5 m6 m7;refine bO (by kernel_rfl) (by kernel_rfl) ?_
     iterate 9 (
      with_reducible refine wpQuiet_step (fun Kq hKq=> ?_)
      go_simp
      first
      | refine hKq _ ?_
      | refine⟨_,fun _ _=>rfl,hKq _ ?_⟩
      | (apply Exists.intro
         refine⟨fun w' hw'=> ?_,hKq _ ?_⟩
         ·skip
          first
          | (go_simp
             first | exact rfl | exact⟨rfl,rfl⟩))
      clear hKq Kq)
     with_reducible refine wpQuiet_nil ?_
     intro w5 hw5;have HB5:=ae (HB.out.trans (hw5.mono HB.out.size));clear hw5 HB;go_wp2_with fail;go_roundw
     case rel=>exact⟨k+1,by omega,by simp,by go_num,HB5⟩
     case measure=>simp[intOf];omega
  ·obtain rfl:k=nl:=by omega
   rw[ba hlv];clear CD CS HB S3;obtain⟨e0,e1,e2,e3⟩:=eY (S4.out.blk 4 rfl);have HB0:=ae (az wr.heap.size wr);go_wp2_with fail;clear e0 e1 e2 e3;go_loopw [6,35] (fun v i wx=>∃q:Nat,q<=nb/\v=bool (cm q)/\i=int i64 q/\Hid (Below wr.heap.size wr wx)) (fun _ i _=>nb-(intOf i).toNat)
   case atStart=>exact⟨0,by omega,by rw[HC0],rfl,HB0⟩
   case round=>
    clear HB0 HC0;rename World=>wx;obtain⟨q,hqn,rfl,rfl,HB⟩:=hrel;have S5:=ae (S4.out.step HB.out);by_cases hqt:q<nb
    ·have hqI:(q:Int)<(nb:Int):=by omega
     obtain⟨a',c',er,hrd,-⟩:=dA (S5.out.rep 6 rfl) HTL.out;injection er with er1 er2 er3;subst er1 er3;obtain⟨b',o',rfl,hb',hcc⟩:=hrd.2 (by omega);have cq:=hcc q (int i64 (T.getD q 0:Nat)) (bL (by rw[HTL.out];exact hqt));obtain⟨e0,e1,e2,e3⟩:=eY (S5.out.blk 4 rfl);have CW1:=ae (CW.out wx (S5.out.stq 5 rfl) q);have CR1:=CR.out q hqt;have CF1:=CF.out q hqt;have HC1:=HCS.out q;have hsl:=HSL.out q hqt;have HIA1:=ae (HIA.out q);rw[show 128*0+16*q+T.getD q 0=ky 0 T q from rfl] at CR1;obtain⟨fb,hfb⟩:∃fb,dc K H Z (ky 0 T q:Nat) ((dU X 0 q (bH f)).map Prod.fst)=fb:=⟨_,rfl⟩;rw[hfb] at CF1 HC1;have HSS:Hid (((dU X 0 q (bH f)).map Prod.fst).length<=32):=ae (by rw[aC];exact hsl);rw[HK.out] at CF1;clear hfb hsl hrd hcc;generalize ky 0 T q=sd at CR1 CF1;generalize T.getD q 0=tq at*;generalize (dU X 0 q (bH f)).map Prod.fst=SY at*;replace CR1:=ae CR1;replace CF1:=ae CF1;replace HC1:=ae HC1;have HSB1:=ae (HSB.out q);go_wp2_with fail;refine CW1.out.mono ?_;rintro r w5 ⟨v5,rfl,ho5,hb5⟩;obtain⟨a5,c5,rfl,-⟩:=ho5.val;have HR5:=ae ho5.repAny;rw[aC,HNL.out] at HR5 ⊢;have HB5:=ae hb5;have HI0:Hid (OwnI w5 w5.heap.size (slice none 0 0) (((bH f).take 0).map (ia X 0 q)).flatten):=ae (OwnI.nil _ _);have HJ0:=ae (az w5.heap.size w5);clear ho5 hb5 CW1 cq e0 e1 e2 e3;go_wp2_with fail;go_loopw [11,46] (fun v i wy=>∃j:Nat,j<=k/\i=int i64 j/\Hid (OwnI wy w5.heap.size v (((bH f).take j).map (ia X 0 q)).flatten)/\Hid (Below w5.heap.size w5 wy)) (fun _ i _=>k-(intOf i).toNat)
     case atStart=>exact⟨0,by omega,rfl,HI0,HJ0⟩
     case round=>
      clear HI0 HJ0;rename World=>wy;obtain⟨j,hjn,rfl,HI,HJ⟩:=hrel;by_cases hjt:j<k
      ·obtain⟨a7,n7,c7,rfl⟩:=HI.out.sl
       have hjI:(j:Int)<(k:Int):=(by omega);have hjl:j<(bH f).length:=(by rw[HNL.out];exact hjt);obtain⟨b8,o8,ds,rfl,-,hb8,hR8,hdl,hc8⟩:=rY ((rS 1 _).new HR5.out HJ.out) (by decide) hjt (R:=rI (ia X 0 q ((bH f).getD j 0))) (by rw[List.getElem?_map,af,ag hjl];rfl);obtain⟨v8,rfl⟩:=length_eq_one_iff.1 hdl;obtain⟨a9,c9,rfl,hr9,hn9,-⟩:=dA hR8 rfl;have cj:=hc8 0 _ rfl;rw[Nat.mul_one,Nat.add_zero] at cj
       have HTJ:Hid ((((bH f).take (j+1)).map (ia X 0 q)).flatten=(((bH f).take j).map (ia X 0 q)).flatten++ia X 0 q ((bH f).getD j 0)):=ae (by
        rw[aN hjl,Kh,af,ag hjl];rfl)
       have hml:((((bH f).take j).map (ia X 0 q)).flatten).length+(ia X 0 q ((bH f).getD j 0)).length<=1000000:=by
        have h1:=Es HSB1.out ((bH f).take j);have h2:=HSB1.out ((bH f).getD j 0);rw[aG] at h1;have h3:min j (bH f).length*19<=64*19:=Nat.mul_le_mul_right _ (by omega);omega
       generalize ia X 0 q ((bH f).getD j 0)=IDS at*;generalize (((bH f).take j).map (ia X 0 q)).flatten=LJ at*;have hsz:=HJ.out.size;clear hc8 hR8 hdl hjl
       go_wp2_with (at_builtin;refine Kg (w:=wy) (C:=w5.heap.size) (B:=wy.heap.size) rfl _ _ rfl HI.out hsz hml rfl rfl hn9 hr9 ?_)
       intro v9 w9 hO9 hb9;rw[<-HTJ.out] at hO9;obtain⟨a0,n0,c0,rfl⟩:=hO9.sl;have HO9:=ae hO9;have HB9:=ae (HJ.out.trans hb9);clear hO9 hb9 HI HJ cj hr9 hn9 hml hsz HTJ;go_wp2_with fail;go_roundw
       case rel=>exact⟨j+1,by omega,by go_num,HO9,HB9⟩
       case measure=>simp[intOf];omega
      ·obtain rfl:j=k:=by omega
       have HE:Hid ((((bH f).take j).map (ia X 0 q)).flatten=SY):=ae (by rw[aJ (by rw[HNL.out];exact ah _)];exact HIA1.out.symm);rw[HE.out] at HI;obtain⟨n7,hn7⟩:∃n7,SY.length=n7:=⟨_,rfl⟩;have hn1:n7<=1000:=(by rw[<-hn7];exact aO HSS.out (by omega));obtain⟨a7,c7,rfl,hr7,-⟩:=dA (d9 HI.out) hn7;have HBY:=ae (HB5.out.trans (HJ.out.mono HB5.out.size));have S6:=ae ((S5.out.step HBY.out).add (kT a7 n7 (bG SY)) hr7);have HBW:=ae (HB.out.trans (HBY.out.mono HB.out.size));have CF2:=ae fun W h=>CF1.out a7 n7 c7 W h hn1;obtain⟨bk,hbk⟩:∃bk,cm q=bk:=⟨_,rfl⟩;rw[hbk];rw[hbk] at HC1;clear hbk HI HJ HE HB HBY HB5 HR5 hr7 hn7 CF1 S5 HSS HIA1 HSB1;cases bk with
       | true=>
         go_wp2_with fail;refine bO (by kernel_rfl) (by kernel_rfl) ?_
         iterate 13 (
          with_reducible refine wpQuiet_step (fun Kq hKq=> ?_)
          go_simp
          first
          | refine hKq _ ?_
          | refine⟨_,fun _ _=>rfl,hKq _ ?_⟩
          | (apply Exists.intro
             refine⟨fun w' hw'=> ?_,hKq _ ?_⟩
             ·obtain⟨m0',m1',m2',m3',m4',m5',m6',m7'⟩:=cZ ((S6.out.step hw').blk 2 rfl)
              obtain⟨e0',e1',e2',e3'⟩:=eY ((S6.out.step hw').blk 5 rfl)
              first
              | (go_simp
                 first | exact rfl | exact⟨rfl,rfl⟩)
              | (go_at_call 48
                 refine(CR1.out w').mono ?_;rintro r w8 ⟨rfl,rfl⟩;exact⟨rfl,hw'⟩)
              | (go_at_call 47
                 refine(CF2.out w' ((S6.out.step hw').rd 0 rfl)).mono ?_;rintro r w8 ⟨rfl,hb8⟩;exact⟨rfl,hw'.trans (hb8.mono hw'.size)⟩))
          clear hKq Kq)
         with_reducible refine wpQuiet_nil ?_
         intro w8 hw8;have HB8:=ae (HBW.out.trans (hw8.mono HBW.out.size));clear hw8 HBW;go_wp2_with fail;go_roundw
         case rel=>exact⟨q+1,by omega,by rw[HC1.out];rfl,by go_num,HB8⟩
         case measure=>simp[intOf];omega
       | false=>
         go_wp2_with fail;refine bO (by kernel_rfl) (by kernel_rfl) ?_
         iterate 13 (
          with_reducible refine wpQuiet_step (fun Kq hKq=> ?_)
          go_simp
          first
          | refine hKq _ ?_
          | refine⟨_,fun _ _=>rfl,hKq _ ?_⟩
          | (apply Exists.intro
             refine⟨fun w' hw'=> ?_,hKq _ ?_⟩
             ·skip
              first
              | (go_simp
                 first | exact rfl | exact⟨rfl,rfl⟩))
          clear hKq Kq)
         with_reducible refine wpQuiet_nil ?_
         intro w8 hw8;have HB8:=ae (HBW.out.trans (hw8.mono HBW.out.size));clear hw8 HBW;go_wp2_with fail;go_roundw
         case rel=>exact⟨q+1,by omega,by rw[HC1.out];rfl,by go_num,HB8⟩
         case measure=>simp[intOf];omega
    ·obtain rfl:q=nb:=by omega
     have HBE:=ae S5.out.1;go_wp2_with fail;go_ret;exact⟨rfl,HBE.out⟩
end
end
theorem O0{x:Int}(h: -9223372036854775808<=x/\x<=9223372036854775807)(q:Nat): -9223372036854775808<=x/2 ^ q/\x/2 ^ q<=9223372036854775807:=by
 have hp:(0:Int)<2 ^ q:=Int.pow_pos (by omega);generalize (2:Int) ^ q=b at*;have h1: -9223372036854775808<=x/b:=Int.le_ediv_of_mul_le hp (by have:=Int.mul_le_mul_of_nonneg_left (show(1:Int)<=b by omega) (show(0:Int)<=9223372036854775808 by omega);omega);have h2:x/b<9223372036854775808:=Int.ediv_lt_of_lt_mul hp (by have:=Int.mul_le_mul_of_nonneg_left (show(1:Int)<=b by omega) (show(0:Int)<=9223372036854775808 by omega);omega);omega
theorem zb(w:World)(zs:List Int)(a0:Option Addr)(n0 c0:Nat)(hr0:Rd w w.heap.size a0 n0 (zs.map (Value.int .i64)))(hz:∀z∈zs,-9223372036854775808<=z/\z<=9223372036854775807)
 (nz:Int)(hn: -9223372036854775808<=nz/\nz<=9223372036854775807)(xz:Int)(hx: -9223372036854775808<=xz/\xz<=9223372036854775807)(dz:Int)(hd: -9223372036854775808<=dz/\dz<=9223372036854775807)(sz:Int)(hs: -9223372036854775808<=sz/\sz<=9223372036854775807):
 Calls prog 5 #[slice a0 n0 c0,int i64 nz,int i64 xz,int i64 dz,int i64 sz] w fun e w'=>e=returned (bool true)/\Below w.heap.size w w':=by
 have CC:=Ae zs hz a0 n0 c0 w hr0;obtain⟨K,hK⟩:∃K:Nat,(K:Int)=1+zs.getD 0 0%6:=⟨(1+zs.getD 0 0%6).toNat,by omega⟩;obtain⟨H,hH⟩:∃H:Nat,(H:Int)=1+zs.getD 1 0%3:=⟨(1+zs.getD 1 0%3).toNat,by omega⟩;obtain⟨Z,hZ⟩:∃Z:Nat,(Z:Int)=1+zs.getD 2 0%9:=⟨(1+zs.getD 2 0%9).toNat,by omega⟩;rw[<-hK,<-hH,<-hZ] at CC;have hK6:1<=K/\K<=6:=by omega
 have hZ9:1<=Z/\Z<=9:=by omega
 have hk:eD K H Z=true:=GZ hK6 (by omega) hZ9;obtain⟨r63,hr63⟩:∃r:Nat,dz%63=(r:Int):=⟨(dz%63).toNat,by omega⟩;have hr63':r63<63:=by omega
 have CW:=ae fun w=>eM dz 63 w hd (by omega) (by omega);rw[hr63] at CW;obtain⟨N,hN⟩:∃N,N=2+r63:=⟨_,rfl⟩;have hNI:(2:Int)+(r63:Int)=(N:Int):=by omega
 have hN64:2<=N/\N<=64:=by omega
 have hq1:1<=K*Z:=bn hK6.1 hZ9.1;have hq2:K*Z<=6*9:=bn hK6.2 hZ9.2;have hm0:(2:Int)*(K:Int)=((2*K:Nat):Int):=by omega
 have hm1:((2*K:Nat):Int)*(Z:Int)=((2*(K*Z):Nat):Int):=by rw[<-Int.natCast_mul,Nat.mul_assoc]
 obtain⟨k2,hk2⟩:∃k2,2*K=k2:=⟨_,rfl⟩;obtain⟨q2,hqq⟩:∃q2,2*(K*Z)=q2:=⟨_,rfl⟩;rw[hk2] at hm0 hm1;rw[hqq] at hm1;have hk12:k2<=12:=by omega
 have hq108:2<=q2/\q2<=108:=by omega
 have CWQ:=ae fun w=>eM nz (q2:Int) w hn (by omega) (by omega);obtain⟨rq,hrq⟩:∃r:Nat,nz%(q2:Int)=(r:Int):=⟨(nz%(q2:Int)).toNat,by have:=Int.emod_nonneg nz (show(q2:Int)≠0 by omega);omega⟩;have hrq':rq<q2:=by have:=Int.emod_lt_of_pos nz (show(0:Int)<(q2:Int) by omega);omega
 rw[hrq] at CWQ;obtain⟨n1,hn1⟩:∃n1,n1=1+rq:=⟨_,rfl⟩;have hn1I:(1:Int)+(rq:Int)=(n1:Int):=by omega
 have hn1b:1<=n1/\n1<=q2:=by omega
 have CD:=ae fun w=>Gg n1 xz (by omega) hx w;have HN1:Hid (1<=n1/\n1<=2*(K*Z)):=ae (by rw[hqq];exact hn1b);have H1K:Hid (n1<=1000):=ae (by omega);have CWK:=ae fun w=>AO w;have HK6:=ae hK6;have HKP:=ae hk;have HN64:=ae hN64;have HSZ:=ae hs;replace CC:=ae CC;unfold cE at CC;clear hr0 hz hn hx hd hs hK hH hZ hZ9 hk hr63 hN hq1 hq2 hk2 hqq hrq hn1 hn1b hK6;go_enter func5,ntmps5;go_wp2_with fail;refine CC.out.mono ?_;rintro e w1 ⟨v1,v2,rfl,hb1⟩;clear CC;have hba:=(az w1.heap.size w1).alloc (ah _) (cells #[int i64 K,int i64 H,int i64 Z] 25);have HBP:=ae (Blk.new w1 25 #[int i64 K,int i64 H,int i64 Z]);have HB2:=ae (hb1.trans (hba.mono hb1.size));clear hb1 hba;go_wp2_with fail;generalize w1.alloc (cells #[int i64 K,int i64 H,int i64 Z] 25)=w2 at*;generalize w1.heap.size=P at*;have HI0:Hid (OwnI w2 w2.heap.size (slice none 0 0) (replicate 0 30)):=ae (OwnI.nil _ _);have HJ0:=ae (az w2.heap.size w2);go_loopw [14,15] (fun v i wr=>∃k:Nat,k<=N/\i=int i64 k/\Hid (OwnI wr w2.heap.size v (replicate k 30))/\Hid (Below w2.heap.size w2 wr)) (fun _ i _=>N-(intOf i).toNat)
 case atStart=>exact⟨0,by omega,rfl,HI0,HJ0⟩
 case round=>
  clear HI0 HJ0;obtain⟨k,hkn,rfl,HI,HJ⟩:=hrel;obtain⟨a3,n3,c3,rfl⟩:=HI.out.sl;go_wp2_with fail;refine(CW.out wr).mono ?_;rintro e wx ⟨rfl,rfl⟩;by_cases hlt:k<N
  ·have hltI:(k:Int)<(N:Int):=by omega
   have hml:(replicate k 30).length<=1000000:=(by rw[aI];omega);have hsz:=HJ.out.size
   go_wp2_with (at_builtin;refine jv (w:=wr) (C:=w2.heap.size) (y:=30) rfl _ _ rfl rfl HI.out hsz hml rfl rfl ?_)
   intro v4 w4 hO4 hb4;rw[<-replicate_succ'] at hO4;obtain⟨a4,n4,c4,rfl⟩:=hO4.sl;have HO4:=ae hO4;have HB4:=ae (HJ.out.trans hb4);clear hO4 hb4 HI HJ hsz hml;go_wp2_with fail;go_roundw
   case rel=>exact⟨k+1,by omega,by go_num,HO4,HB4⟩
   case measure=>simp[intOf];omega
  ·obtain rfl:k=N:=by omega
   obtain⟨a3',c3',e3⟩:=HI.out.lenA;rw[aI] at e3;injection e3 with e31 e32 e33;subst e31 e32 e33;have HP3:=ae (HBP.out.below HJ.out HBP.out.lt);have HB3:=ae (HB2.out.trans (HJ.out.mono HB2.out.size));have CN:=ae (t_new K H Z n3 (Fr w2.heap.size) a3 c3 wr HKP.out HN64.out (d9 HI.out));obtain⟨p0,p1,p2⟩:=kU HP3.out;unfold cE at CN;clear CW hr63' HBP HI HJ HB2;go_wp2_with fail;refine CN.out.mono ?_;rintro e w5 ⟨ga,g,p,D,rfl,hA5,hg5,hs5,hv5,hb5⟩;have HP5:=ae (HP3.out.below hb5 HP3.out.lt);have HB5:=ae (HB3.out.trans (hb5.mono HB3.out.size));have hlow:w.heap.size<=wr.heap.size:=HB3.out.size;have HGG:Hid (w.heap.size<=g):=ae (aO hlow hg5);have HS5:Hid (Stq w.heap.size w5 g (f30 p n3 D) (bX K H Z 12 n3) (Mk K H Z 12 n3)):=ae (hs5.lower hlow);have HV5:Hid (g<w5.heap.size/\w5.cell? ⟨g,7,none⟩=some (slice none 0 0)):=ae ⟨by obtain⟨-,⟨_,_,hst,-⟩,-⟩:=hs5;exact hst.lt,hv5⟩;have HA5:=ae hA5;clear hA5 hg5 hs5 hv5 hb5 hlow CN HP3 HB3 p0 p1 p2;obtain⟨p0,p1,p2⟩:=kU HP5.out;go_wp2_with fail;refine(jU ga p g w5 HA5.out).mono ?_;rintro e wx ⟨rfl,rfl⟩;go_wp2_with fail;refine(CWQ.out wx).mono ?_;rintro e wy ⟨rfl,rfl⟩;go_wp2_with fail;refine(CD.out wx).mono ?_;rintro e w6 ⟨v6,l,rfl,ho6,hl6,hby6,hb6⟩;obtain⟨a6,c6,rfl,hr6,-,hn6,hc6⟩:=gP (fL ho6) hl6;have HA6:=ae (HA5.out.below hb6 HA5.out.lt);have HS6:=ae (HS5.out.below hb6);have HR6:Hid ((rB l).ok w6 (Fu w6) [slice a6 n1 c6]):=ae (Mh ho6);have HB6:=ae (HB5.out.trans (hb6.mono HB5.out.size));have CDO:=ae (MR (B:=w.heap.size) HK6.out.2 HKP.out HN64.out HN1.out hl6 hby6 ga p g D a6 c6 w6 HA6.out HS6.out ((hb6.cell (p:=⟨g,7,none⟩) HV5.out.1).trans HV5.out.2) ⟨HGG.out,HB6.out.size⟩ hr6 ⟨hn6,hc6⟩);have HL6:=ae hl6;unfold sD gV at CDO;clear ho6 hl6 hby6 hb6 hr6 hn6 hc6 HS6 HS5 HA5 HV5 HB5 HP5 p0 p1 p2 CWQ CD HGG hm0 hm1 hn1I;have hf0:∀(E:Int) (u1:Value) (w:World),(Instr.field 40 (.agg #[int i64 E,u1,slice none 0 0,int i64 0,int i64 0,int i64 0,slice none 0 0,int i64 0]) 0).run prog w=.ok (int i64 E) w:=fun _ _ _=>(by kernel_rfl);go_wp2_with fail;refine CDO.out.mono ?_;rintro e w7 ⟨E,rfl,ht7,⟨rfl,-,hb7⟩ | ⟨rfl,⟨T,ords,hM,hs7⟩,hb7⟩⟩
   ·have HB7:=ae (HB6.out.trans (hb7.mono HB6.out.size))
    clear ht7 hb7 CDO;go_wp2_with fail;refine(CWK.out w7).mono ?_;rintro e w8 ⟨rfl,hb8⟩;have HB8:=ae (HB7.out.trans (hb8.mono HB7.out.size));clear hb8;go_wp2_with fail;go_ret;exact⟨rfl,HB8.out⟩
   ·have HA7:=ae (Blk.chgT HA6.out ht7 (Mt.not (Blk.ty HA6.out) (by decide) (by decide) (by decide)))
    have HR7:=ae ((rB l).chgT HR6.out ht7);have HB7:=ae (HB6.out.trans hb7);have HX7:=ae hs7;have HM:=ae hM;have HF7:Hid ((f30 p n3 D).n=n3/\0<(bH (f30 p n3 D)).length):=ae ⟨rfl,by rw[xe (N:=n3) rfl fun _=>rfl,aY];have:=HN64.out;omega⟩;generalize f30 p n3 D=f0 at*;generalize iB (K*Z) n1=nb at*;clear ht7 hb7 hs7 hM CDO HA6 HR6;go_wp2_with fail;go_loopw [20] (fun i wy=>∃(q:Nat) (f:Fl),q<=20/\i=int i64 q/\Hid (f.n=n3/\0<(bH f).length)/\Hid (Stq w.heap.size wy g f (dM K H Z 12 n3 (fU n1 o7 T)) (xq K H Z 12 n3 nb n1 o7 T l ords))/\Hid (Blk wy ga 80 (iF p g))/\Hid ((rB l).ok wy (Fu wy) [slice a6 n1 c6])/\Hid (Below w.heap.size w wy)) (fun i _=>20-(intOf i).toNat)
    case atStart=>exact⟨0,f0,by omega,rfl,HF7,HX7,HA7,HR7,HB7⟩
    case round=>
     clear HF7 HX7 HA7 HR7 HB7;rename World=>wy;obtain⟨q,f,hq20,rfl,HF,HX,HA,HR,HB⟩:=hrel;by_cases hq:q<20
     ·have hqI:(q:Int)<20:=by omega
      obtain⟨nl,hnl⟩:∃nl,(bH f).length=nl:=⟨_,rfl⟩;have HNL:=ae hnl;clear hnl;go_wp2_with fail;refine(jU ga p g wy HA.out).mono ?_;rintro e wx ⟨rfl,rfl⟩;go_wp2_with fail;refine(kR g f _ _ wx HX.out).mono ?_;rintro e w8 ⟨v8,rfl,ho8,hb8⟩;obtain⟨a8,c8,rfl⟩:=ho8.lenA;rw[HNL.out];have HB8:=ae (HB.out.trans (hb8.mono HB.out.size));have HX8:=ae (HX.out.below hb8);have HA8:=ae (HA.out.below hb8 HA.out.lt);have HR8:=ae ((rB l).fu HR.out hb8);clear ho8 hb8 HB HX HA HR;by_cases h1:1<nl
      ·have h1I:(1:Int)<(nl:Int):=by omega
       go_wp2_with fail;refine(jU ga p g w8 HA8.out).mono ?_;rintro e wx ⟨rfl,rfl⟩;go_wp2_with fail;refine(kR g f _ _ wx HX8.out).mono ?_;rintro e w9 ⟨v9,rfl,ho9,hb9⟩;obtain⟨a9,c9,rfl⟩:=ho9.lenA;rw[HNL.out] at ho9 ⊢;have HB9:=ae (HB8.out.trans (hb9.mono HB8.out.size));have HX9:=ae (HX8.out.below hb9);have HA9:=ae (HA8.out.below hb9 HA8.out.lt);have HR9:=ae ((rB l).fu HR8.out hb9);clear hb9 HB8 HX8 HA8 HR8;have h64:=jd HX9.out.n0.2;rw[HNL.out] at h64;obtain⟨rr,hrr⟩:∃r:Nat,(sz/2 ^ q)%(nl:Int)=(r:Int):=⟨((sz/2 ^ q)%(nl:Int)).toNat,by have:=Int.emod_nonneg (sz/2 ^ q) (show(nl:Int)≠0 by omega);omega⟩;have hrl:rr<nl:=(by have:=Int.emod_lt_of_pos (sz/2 ^ q) (show(0:Int)<(nl:Int) by omega);omega);have CWS:=eM (sz/2 ^ q) (nl:Int) w9 (O0 HSZ.out q) (by omega) (by omega);rw[hrr] at CWS;replace CWS:=ae CWS;have hkl:rr<(bH f).length:=(by rw[HNL.out];exact hrl);obtain⟨a',c',er,hrd,-⟩:=dA (d9 ho9) HNL.out;injection er with er1 _ er3;subst er1 er3;obtain⟨b',o',rfl,hb',hcc⟩:=hrd.2 (by omega);have cq:=hcc rr (int i64 ((bH f).getD rr 0:Nat)) (bL hkl);have hsm:(bH f).getD rr 0∈bH f:=(by rw[af,ag hkl];exact aP hkl);have CLO:=ae (Js ga p ((bH f).getD rr 0) g f _ _ w9 HA9.out HX9.out hsm HB9.out.size);have HF2:Hid ((f.lose ((bH f).getD rr 0)).n=n3/\0<(bH (f.lose ((bH f).getD rr 0))).length):=ae ⟨HF.out.1,by have:=Gw hsm;rw[HNL.out] at this;omega⟩;have hrI:(rr:Int)<(nl:Int):=(by omega);clear hrr hrd hcc hsm hkl h64 hb' ho9;generalize (bH f).getD rr 0=s at*;generalize f.lose s=f2 at*;unfold mvL gV at CLO;go_wp2_with fail;refine CWS.out.mono ?_;rintro e wx ⟨rfl,rfl⟩;go_wp2_with fail;refine CLO.out.mono ?_;rintro e w10 ⟨rfl,hs10,ht10,hb10⟩;have HX10:=ae hs10;have HA10:=ae (Blk.chgT HA9.out ht10 (Mt.not (Blk.ty HA9.out) (by decide) (by decide) (by decide)));have HR10:=ae ((rB l).chgT HR9.out ht10);have HB10:=ae (HB9.out.trans hb10);clear hs10 ht10 hb10 CLO CWS HX9 HA9 HR9 HB9 cq HF HNL hrl hrI h1 h1I;have CDG:=ae (Ey HM.out ga p g f2 w10 HA10.out HF2.out.1 HX10.out HF2.out.2);unfold sD gV at CDG;go_wp2_with fail;refine CDG.out.mono ?_;rintro e w11 ⟨E,res,a11,c11,rfl,hor,hr11,hb11⟩;obtain⟨cb,hcb⟩:∃cb,yZ K H Z 12 n3 nb n1 o7 T l ords f2 nb=cb:=⟨_,rfl⟩
       have HOR:Hid ((cb=true/\E=0/\res=l)\/(cb=false/\E=11/\res=[])):=ae (by
        rcases hor with⟨h,h2,h3⟩ | ⟨h,h2,h3⟩
        ·exact .inl ⟨hcb.symm.trans ((xD f2).2 h),h2,h3⟩
        ·refine .inr ⟨?_,h2,h3⟩
         cases cb with
         | true=>exact absurd ((xD f2).1 hcb) h
         | false=>rfl)
       have HCB:=ae hcb;obtain⟨nr,hnr⟩:∃nr,res.length=nr:=⟨_,rfl⟩;rw[hnr] at hr11 ⊢;have HNR:=ae hnr;have hba:=(az w11.heap.size w11).alloc (ah _) (cells #[int i64 E,slice a11 nr c11,slice none 0 0,int i64 0,int i64 0,int i64 0,slice none 0 0,int i64 0] 40);have hbb:=hb11.trans (hba.mono hb11.size);have HK12:=ae (Blk.new w11 40 #[int i64 E,slice a11 nr c11,slice none 0 0,int i64 0,int i64 0,int i64 0,slice none 0 0,int i64 0]);have HX12:=ae (HX10.out.below hbb);have HA12:=ae (HA10.out.below hbb HA10.out.lt);have HR12:=ae ((rB l).fu HR10.out hbb);have HB12:=ae (HB10.out.trans (hbb.mono HB10.out.size));have HG12:Hid ((rB res).ok _ Any [slice a11 nr c11]):=ae ((rB res).new (Rp.any _ hr11) hba);clear hor hcb hnr hr11 hb11 hba hbb CDG HX10 HA10 HR10 HB10;go_wp2_with fail;generalize w11.alloc (cells #[int i64 E,slice a11 nr c11,slice none 0 0,int i64 0,int i64 0,int i64 0,slice none 0 0,int i64 0] 40)=w12 at*;generalize w11.heap.size=G11 at*;refine(jU ga p g w12 HA12.out).mono ?_;rintro e wx ⟨rfl,rfl⟩;go_wp2_with fail;refine(jU ga p g wx HA12.out).mono ?_;rintro e wz ⟨rfl,rfl⟩;have CMF:=ae (uS HM.out g f2 wz HX12.out);unfold cH at CMF;go_wp2_with fail;refine CMF.out.mono ?_;rintro r w13 ⟨av,cv,a13,c13,rfl,-,ho13,hb13⟩;obtain⟨b13,o13,a14,c14,rfl,-,-,d0,d1,d2,d3,hr13⟩:=uf ho13 rfl (Nat.lt_succ_self 0);rw[Nat.zero_mul,Nat.add_zero] at d0 d1 d2 d3;replace hr13:(rI T).ok w13 (fun b=>Fu w13 b/\wz.heap.size<=b) [slice a14 T.length c14]:=hr13;replace d0:w13.cell? ⟨b13,o13,none⟩=some (.string o7):=d0;replace d1:w13.cell? ⟨b13,o13+1,none⟩=some (int i64 0):=d1;replace d2:w13.cell? ⟨b13,o13+2,none⟩=some (int i64 n1):=d2;replace d3:w13.cell? ⟨b13,o13+3,none⟩=some (slice a14 T.length c14):=d3;rw[HM.out.hT.1] at hr13 d3;have HX13:=ae (HX12.out.below hb13);have HA13:=ae (HA12.out.below hb13 HA12.out.lt);have HK13:=ae (HK12.out.below hb13 HK12.out.lt);have HR13:=ae ((rB l).fu HR12.out hb13);have HG13:=ae ((rB res).new HG12.out hb13);have HB13:=ae (HB12.out.trans (hb13.mono HB12.out.size));have CAN:=m_can HM.out g f2 w13 HF2.out.1 HX13.out HF2.out.2 _ a14 c14 hr13;rw[HCB.out] at CAN;replace CAN:=ae CAN;have hf5:∀(s1 s2 s3 s4 s5 s6:Int) (v6 v7:Value) (w:World),(Instr.field 68 (.agg #[int i64 s1,int i64 s2,int i64 s3,int i64 s4,int i64 s5,int i64 s6,v6,v7]) 5).run prog w=.ok v7 w:=fun _ _ _ _ _ _ _ _ _=>(by kernel_rfl);clear ho13 hb13 hr13 HX12 HA12 HK12 HR12 HG12 HB12 CMF;go_wp2_with fail;refine CAN.out.mono ?_;rintro e w14 ⟨rfl,hb14⟩
       have HX14:=ae (HX13.out.below hb14);have HA14:=ae (HA13.out.below hb14 HA13.out.lt);have HK14:=HK13.out.below hb14 HK13.out.lt;have HR14:=ae ((rB l).fu HR13.out hb14);have HG14:=ae ((rB res).new HG13.out hb14);have HB14:=ae (HB13.out.trans (hb14.mono HB13.out.size));clear hb14 CAN HX13 HA13 HK13 HR13 HG13 HB13 d0 d1 d2 d3 hf5;obtain⟨x0,x1,x2,x3,x4,x5,x6,x7⟩:=cZ HK14;rcases HOR.out with⟨rfl,rfl,rfl⟩ | ⟨rfl,rfl,rfl⟩
       ·obtain rfl:nr=n1:=HNR.out.symm.trans HL6.out
        obtain⟨a',c',er,hrg,-⟩:=gP HG14.out HL6.out;injection er with er1 _ er3;subst er1 er3;obtain⟨a',c',er,hrl,-⟩:=gP HR14.out HL6.out;injection er with er1 _ er3;subst er1 er3;have CSM:=ae (MZ res a11 a6 nr c11 c6 w14 hrg hrl (by have:=H1K.out;omega));clear hrg hrl HG14;go_wp2_with fail;refine CSM.out.mono ?_;rintro e w15 ⟨rfl,j15,rfl⟩;have hb15:Below w14.heap.size w14 (w14.drewN j15):=below_drewN (az _ _) j15;have HX15:=ae (HX14.out.below hb15);have HA15:=ae (HA14.out.below hb15 HA14.out.lt);have HR15:=ae ((rB res).fu HR14.out hb15);have HB15:=ae (HB14.out.trans (hb15.mono HB14.out.size));clear hb15 HX14 HA14 HR14 HB14;go_wp2_with fail;go_roundw
        case rel=>exact⟨q+1,f2,by omega,by go_num,HF2,HX15,HA15,HR15,HB15⟩
        case measure=>simp[intOf];omega
       ·go_wp2_with fail
        go_roundw
        case rel=>exact⟨q+1,f2,by omega,by go_num,HF2,HX14,HA14,HR14,HB14⟩
        case measure=>simp[intOf];omega
      ·have h1I:¬(1:Int)<(nl:Int):=by omega
       go_wp2_with fail;refine(CWK.out w8).mono ?_;rintro e w10 ⟨rfl,hb10⟩;have HBE:=ae (HB8.out.trans (hb10.mono HB8.out.size));clear hb10;go_wp2_with fail;go_ret;exact⟨rfl,HBE.out⟩
     ·have hqI:¬(q:Int)<20:=by omega
      go_wp2_with fail;refine(CWK.out wy).mono ?_;rintro e w10 ⟨rfl,hb10⟩;have HBE:=ae (HB.out.trans (hb10.mono HB.out.size));clear hb10;go_wp2_with fail;go_ret;exact⟨rfl,HBE.out⟩
end Go.Proofs.YtgccllbnfngpcaaGreatDoor
