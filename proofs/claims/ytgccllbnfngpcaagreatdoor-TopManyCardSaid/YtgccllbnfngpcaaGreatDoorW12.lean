import Derived.Test.YtgccllbnfngpcaaGreatDoorW11
set_option linter.unusedVariables false
set_option maxRecDepth 100000
set_option maxHeartbeats 400000000
namespace Go.Proofs.YtgccllbnfngpcaaGreatDoor
open Go.RowKit _root_.Go.Proofs.Tryz List
open Value (int slice pointer bool)
open IntKind (i64)
open Ending (returned)
open Obj (cells)
theorem Ff:(prog.info? 286).map (fun i=>(i.zero,i.size,i.bytes))=some (some (.agg #[slice none 0 0,slice none 0 0]),2,48):=by kernel_rfl
theorem zt{fn:Func}{t u v x:Tmp}(h:fn.results= #[.tmp t,.tmp u,.tmp v,.tmp x])(tmps:Array Value)(P:Program)(w:World):
 (results fn tmps).run P w=.ok (.tuple #[tmps.getD t undef,tmps.getD u undef,tmps.getD v undef,tmps.getD x undef]) w:=by
 simp[results,h]
def wu(kn:List Bool)(m:Nat->List Nat)(Z:Nat)(x:List Nat×List Nat):List Nat×List Nat:=(dJ kn x.1,bP m (dJ kn x.1) (replicate Z 0))
def fT(kn:List Bool)(m:Nat->List Nat)(Z:Nat)(L:List (List Nat×List Nat)):List (List Nat×List Nat):=(L.map (wu kn m Z)).filter fun y=>y.1.length != 0
theorem Iu{kn:List Bool}{m:Nat->List Nat}{Z:Nat}{L:List (List Nat×List Nat)}{k:Nat}(h:k<L.length):
 fT kn m Z (L.take (k+1))=if (dJ kn (L.getD k ([],[])).1).length=0 then fT kn m Z (L.take k) else fT kn m Z (L.take k)++[wu kn m Z (L.getD k ([],[]))]:=by
 unfold fT;rw[aN h,aQ,filter_append,af,ag h];simp only[map_cons,map_nil,Option.getD_some,wu];split
 ·rename_i h0
  simp[h0]
 ·rename_i h0
  simp[h0]
theorem Bu{kn:List Bool}{m:Nat->List Nat}{Z:Nat}{L:List (List Nat×List Nat)}:(fT kn m Z L).length<=L.length:=by
 unfold fT;exact aO (length_filter_le _ _) (by rw[aC];exact ah _)
theorem ww(u:Value)(n:Nat):madeCells #[u] n=(replicate n u).toArray:=by
 apply Array.ext (by rw[size_madeCells];simp);intro i h1 h2;simp[madeCells,Nat.mod_one]
theorem Ed{n:Nat}:madeCells #[Value.bool false] n=(bY (replicate n false)).toArray:=by
 rw[ww];unfold bY;simp
theorem Ld{n:Nat}:madeCells #[Value.slice none 0 0] n=(replicate n (Value.slice none 0 0)).toArray:=by
 rw[ww]
theorem Iw:(prog.info? 4).map (fun i=>(i.zero,i.size,i.bytes))=some (some (bool false),1,1):=by kernel_rfl
theorem pE{n:Nat}(hn:n<=1000000)(w:World):(Instr.makeSlice 293 (int i64 (n:Int)) (int i64 (n:Int))).run prog w=.ok (slice (some ⟨w.heap.size,0,none⟩) n n) (w.alloc (cells (bY (replicate n false)).toArray 4)):=by
 obtain⟨i0,hi,hz0,hz1,hz2⟩:=info_parts Iw;have h:=run_make (P:=prog) w 293 4 i0 (bool false) underlying293 hi hz0 .i64 .i64 (n:Int) (n:Int) (by omega) (by omega) (by rw[hz2];omega) (by omega);rw[hz1,Nat.mul_one,Int.toNat_natCast] at h;rw[<-Ed];exact h
theorem Bv{n:Nat}(hn:n<=1000000)(w:World):(Instr.makeSlice 45 (int i64 (n:Int)) (int i64 (n:Int))).run prog w=.ok (slice (some ⟨w.heap.size,0,none⟩) n n) (w.alloc (cells (replicate n (Value.slice none 0 0)).toArray 30)):=by
 obtain⟨i0,hi,hz0,hz1,hz2⟩:=info_parts dI;have h:=run_make (P:=prog) w 45 30 i0 (slice none 0 0) underlying45 hi hz0 .i64 .i64 (n:Int) (n:Int) (by omega) (by omega) (by rw[hz2];omega) (by omega);rw[hz1,Nat.mul_one,Int.toNat_natCast] at h;rw[<-Ld];exact h
theorem PSt.begin{w:World}{g gk gv n:Nat}{sl:Value}(h1:Blk w g 353 #[sl,slice (some ⟨gk,0,none⟩) n n,slice (some ⟨gv,0,none⟩) n n])
 (h2:Blk w gk 4 (bY (replicate n false)).toArray)(h3:Blk w gv 30 (replicate n (Value.slice none 0 0)).toArray):PSt w g gk gv n sl (replicate n false) (replicate n []):=
 ⟨h1,h2,aI,aI,_,h3,aI,fun c hc=>by
   rw[af,af,List.getElem?_replicate,List.getElem?_replicate,bf hc,bf hc];exact⟨rfl,fun u hu=>by rw[mem_singleton.1 hu];rfl⟩⟩
theorem ConsP.begin(n:Nat)(m:Nat->List Nat):ConsP n m (replicate n false) (replicate n []):=fun c hc=>by
 rw[af,af,List.getElem?_replicate,List.getElem?_replicate,bf hc,bf hc];exact⟨fun h=>Bool.noConfusion h,fun _=>rfl⟩
theorem nP(w:World)(X Y Z:Array Value)(tX tY tZ:TypeId):Blk (((w.alloc (.cells X tX)).alloc (.cells Y tY)).alloc (.cells Z tZ)) w.heap.size tX X/\Blk (((w.alloc (.cells X tX)).alloc (.cells Y tY)).alloc (.cells Z tZ)) (w.heap.size+1) tY Y/\Blk (((w.alloc (.cells X tX)).alloc (.cells Y tY)).alloc (.cells Z tZ)) (w.heap.size+1+1) tZ Z/\Below w.heap.size w (((w.alloc (.cells X tX)).alloc (.cells Y tY)).alloc (.cells Z tZ)):=by
 have e1:(w.alloc (.cells X tX)).heap.size=w.heap.size+1:=by simp
 have e2:((w.alloc (.cells X tX)).alloc (.cells Y tY)).heap.size=w.heap.size+1+1:=by simp
 have b1:=(az w.heap.size w).alloc (ah _) (.cells X tX);have b2:=(az (w.alloc (.cells X tX)).heap.size (w.alloc (.cells X tX))).alloc (ah _) (.cells Y tY);have b3:=(az ((w.alloc (.cells X tX)).alloc (.cells Y tY)).heap.size ((w.alloc (.cells X tX)).alloc (.cells Y tY))).alloc (ah _) (.cells Z tZ);have k1:=Blk.new w tX X;have k2:=Blk.new (w.alloc (.cells X tX)) tY Y;have k3:=Blk.new ((w.alloc (.cells X tX)).alloc (.cells Y tY)) tZ Z;have k1':=(k1.below b2 k1.lt).below b3 (by rw[e2];omega);have k2':=k2.below b3 k2.lt;rw[e1] at k2';rw[e2] at k3;refine⟨k1',k2',k3,(b1.trans (b2.mono (by rw[e1];omega))).trans (b3.mono (by rw[e2];omega))⟩
theorem Iy(n N Z:Nat)(al:Option Addr)(cl:Nat)(F:Nat->Prop)(m:Nat->List Nat)(L:List (List Nat×List Nat))(w:World)
 (hL:(fG L).ok w F [slice al N cl])(hN:L.length=N)(hNb:N<=1000)(hn:n<=64)(hZ:1<=Z)(hZ2:Z<=1000)
 (hm:∀c,c<n->(m c).length=Z/\By (m c))(hR:vV n Z m L)(hU:∀x∈L,O5 x.1):
 Calls prog 233 #[int i64 n,slice al N cl] w fun e w'=>∃g gk gv C1 v kn vl,e=returned (.tuple #[slice (some ⟨gk,0,none⟩) n n,slice (some ⟨gv,0,none⟩) n n,v,int i64 0])/\
  PSt w' g gk gv n (slice al N cl) kn vl/\ConsP n m kn vl/\(w.heap.size<=g/\w.heap.size<=gk/\w.heap.size<=gv)/\(g<C1/\gk<C1/\gv<C1)/\OwnS w' C1 286 2 (Fr C1) v ((fT kn m Z L).map tH)/\Below w.heap.size w w':=by
 have HRW:=ae hR;have HM:=ae hm;have HN:=ae hN;have CR:=ae (DC n N Z al cl F L w hL hN hNb hn (fun x hx=>⟨aO (hR x hx).1 (by omega),(hR x hx).2.1,hU x hx,by rw[(hR x hx).2.2];exact eU aI fun c hc=>(hm c ((hR x hx).2.1 c hc)).1⟩));have HL:=ae hL;have hmb:∀w:World,(Instr.makeSlice 293 (int i64 (n:Int)) (int i64 (n:Int))).run prog w=.ok (slice (some ⟨w.heap.size,0,none⟩) n n) (w.alloc (cells (bY (replicate n false)).toArray 4)):=fun w=>pE (by omega) w;have hmh:∀w:World,(Instr.makeSlice 45 (int i64 (n:Int)) (int i64 (n:Int))).run prog w=.ok (slice (some ⟨w.heap.size,0,none⟩) n n) (w.alloc (cells (replicate n (Value.slice none 0 0)).toArray 30)):=fun w=>Bv (by omega) w;clear hR hm hN hL hU;go_enter func233,ntmps233;go_wp2_with fail;refine CR.out.mono ?_;rintro e w1 ⟨rfl,hb1⟩;have HB1:=ae hb1;have hs1:=hb1.size;have HL1:=ae ((fG L).bl ((fG L).new HL.out hb1));clear hb1 CR HL;go_upto_region 3 with fail;go_cut [8] (fun v wx=>∃g gk gv,v=pointer (some ⟨g,0,none⟩)/\Hid (PSt wx g gk gv n (slice al N cl) (replicate n false) (replicate n []))/\Hid (Below w1.heap.size w1 wx)/\Hid (w1.heap.size<=g/\w1.heap.size<=gk/\w1.heap.size<=gv))
 case first=>
  generalize hcb:(bY (replicate n false)).toArray=cb at*;generalize hch:(replicate n (Value.slice none 0 0)).toArray=ch at*;have HCB:=ae hcb;have HCH:=ae hch;clear hcb hch;go_region_law (first | simp only[hmb] | simp only[hmh])
  all_goals(
   go_wp2_with fail;go_meet
   first
   | (obtain⟨k1,k2,k3,kb⟩:=nP w1 cb ch #[slice al N cl,slice (some ⟨w1.heap.size,0,none⟩) n n,slice (some ⟨w1.heap.size+1,0,none⟩) n n] 4 30 353
      refine⟨_,w1.heap.size,w1.heap.size+1,rfl,ae (PSt.begin (Blk.drewN k3 1) (Blk.drewN (by rw[HCB.out];exact k1) 1) (Blk.drewN (by rw[HCH.out];exact k2) 1)),ae (below_drewN kb 1),ae ⟨by omega,by omega,by omega⟩⟩)
   | (obtain⟨k1,k2,k3,kb⟩:=nP w1 ch cb #[slice al N cl,slice (some ⟨w1.heap.size+1,0,none⟩) n n,slice (some ⟨w1.heap.size,0,none⟩) n n] 30 4 353
      refine⟨_,w1.heap.size+1,w1.heap.size,rfl,ae (PSt.begin (Blk.drewN k3 1) (Blk.drewN (by rw[HCB.out];exact k2) 1) (Blk.drewN (by rw[HCH.out];exact k1) 1)),ae (below_drewN kb 1),ae ⟨by omega,by omega,by omega⟩⟩))
 case rest=>
  clear hmb hmh;obtain⟨g,gk,gv,rfl,HP,HB2,HG⟩:=hcut;have HL2:=ae ((fG L).new HL1.out HB2.out);have CA:=ae (K5 w1.heap.size g gk gv n N Z al cl m (replicate n false) (replicate n []) L wc HP.out HG.out HL2.out HN.out hNb (by omega) hZ hZ2 HM.out HRW.out (ConsP.begin n m));go_wp2_with fail;refine CA.out.mono ?_;rintro e wp ⟨rfl,kn,vl,hP,hc,hb⟩;have HPp:=ae hP;have HC:=ae hc;have HLp:=ae ((fG L).keep HL1.out fun k hF _=>(show wp.heap[k]? =w1.heap[k]? /\Bl w1.heap.size k from⟨((HB2.out.trans hb).block k hF),hF⟩));have HBp:Hid (Below w.heap.size w wp):=ae (HB1.out.trans ((HB2.out.trans hb).mono hs1));have hsp:w1.heap.size<=wp.heap.size:=(HB2.out.trans hb).size;have HGp:Hid (w.heap.size<=g/\w.heap.size<=gk/\w.heap.size<=gv):=ae (by have:=HG.out;exact⟨by omega,by omega,by omega⟩);clear hP hc hb CA HP HL1 HL2 HB1 HB2 HG hs1 hsp;have S0:=ae ((Sx.nil wp).add (eR _ (slice al N cl) (fG L)) HLp.out);have HO0:Hid (OwnS wp wp.heap.size 286 2 (Fr wp.heap.size) (slice none 0 0) ((fT kn m Z (L.take 0)).map tH)):=ae (OwnS.nil _ _ _ _ _);have HB0:=ae (az wp.heap.size wp);clear HLp;go_wp2_with fail;go_loopw [6,27] (fun v i wr=>∃k:Nat,k<=N/\i=int i64 k/\Hid (OwnS wr wp.heap.size 286 2 (Fr wp.heap.size) v ((fT kn m Z (L.take k)).map tH))/\Hid (Below wp.heap.size wp wr)) (fun _ i _=>N-(intOf i).toNat)
  case atStart=>exact⟨0,by omega,rfl,HO0,HB0⟩
  case round=>
   clear HO0 HB0;obtain⟨k,hkN,rfl,HO,HB⟩:=hrel;have S1:=ae (S0.out.step HB.out);have HP1:=ae (HPp.out.new HB.out);have hw0:=HB.out.size;obtain⟨a6,n6,c6,rfl⟩:=HO.out.sl;by_cases hlt:k<N
   ·have hltI:(k:Int)<(N:Int):=by omega
    have hkl:k<L.length:=(by rw[HN.out];exact hlt);have hLk:L.getD k ([],[])∈L:=(by rw[af,ag hkl];exact aP _);obtain⟨hx64,hxn,hxd⟩:=HRW.out _ hLk;obtain⟨b,o,a1,q1,c1,a2,q2,c2,rfl,_,hb,he0,he1,hE1,hE2,hq1,hq2⟩:=mK (S1.out.rep 0 rfl) HN.out hlt;have hz:=E0 HC.out HM.out hxn hxd;have hxl:(L.getD k ([],[])).2.length=Z:=(by rw[hxd];exact eU aI fun c hc=>(HM.out c (hxn c hc)).1);have hxb:By (L.getD k ([],[])).2:=(by rw[hxd];exact(dF (D:=Z) (Byt.zero Z) fun c hc=>HM.out c (hxn c hc)).2);obtain rfl:q2=Z:=(by omega);obtain⟨a1',c1',e1,hR1,-⟩:=dA hE1 hq1.symm;injection e1 with e1 _ e3;subst e1 e3;obtain⟨a2',c2',e1,hR2,hnil2,-⟩:=gP hE2 hxl;injection e1 with e1 _ e3;subst e1 e3;have hba:=(az wr.heap.size wr).alloc (ah _) (cells #[slice a1 q1 c1,slice a2 q2 c2] 286);have hP1:=HP1.out.new hba;have hK:=Blk.new wr 286 #[slice a1 q1 c1,slice a2 q2 c2];have k0:=hK.cell 0;have k1:=hK.cell 1
    have CL:=ae (xY g n q1 q2 (slice (some ⟨b,o,none⟩) N cl) (some ⟨gk,0,none⟩) (some ⟨gv,0,none⟩) a1 a2 n n c1 c2 kn vl (L.getD k ([],[])).1 (L.getD k ([],[])).2 _ hP1.blk hP1.rdk hP1.rdv (hR1.below hba (ah _) |>.more hba.size) (hR2.below hba (ah _) |>.more hba.size) hnil2 hZ2 (by omega) (by omega) hxn (fun d hd hk=>by
     have:=(HC.out d (hxn d hd)).1 hk;rw[this];exact HM.out d (hxn d hd)) hxb)
    rw[hz] at CL;have HT:=ae (Iu (kn:=kn) (m:=m) (Z:=q2) hkl);have hul:(dJ kn (L.getD k ([],[])).1).length<=64:=aO (length_filter_le _ _) hx64
    have hrl:((fT kn m q2 (L.take k)).map tH).length<=1000000:=by
     rw[aC];exact aO Bu (by rw[aG];omega)
    have HSL:Hid ((bP m (dJ kn (L.getD k ([],[])).1) (replicate q2 0)).length=q2):=ae (eU aI fun c hc=>(HM.out c (hxn c (mem_filter.1 hc).1)).1);have HB1:=ae (HB.out.trans (hba.mono hw0));have HO1:=ae (HO.out.new hba);have hw1:wr.heap.size<=(wr.alloc (cells #[slice a1 q1 c1,slice a2 q2 c2] 286)).heap.size:=hba.size;unfold wu at HT;clear hba hP1 hK hxn hxd hx64 hkl hLk hE1 hE2 hq1 hq2 hz hxl hxb hR1 hR2 HO HB HP1 S1;generalize L.getD k ([],[])=x at*;generalize fT kn m q2 (L.take k)=LL at*;generalize hLn:fT kn m q2 (L.take (k+1))=LN at*;have HLN:=ae hLn;clear hLn;go_wp2_with fail;generalize wr.alloc (cells #[slice a1 q1 c1,slice a2 q2 c2] 286)=wa at*;refine CL.out.mono ?_;rintro e w2 ⟨v1,v2,rfl,hO1,hO2,hb2⟩;obtain⟨a3,c3,rfl⟩:=hO1.lenA;obtain⟨a4,c4,rfl,hRd,-⟩:=hO2.rd2 HSL.out;have hRS:(tH (dJ kn x.1,bP m (dJ kn x.1) (replicate q2 0))).ok w2 (Fr wa.heap.size) [slice a3 (dJ kn x.1).length c3,slice a4 q2 c4]:=rX (d9 hO1) (fL hO2);have hbc:=(az w2.heap.size w2).alloc (ah _) (cells #[slice a3 (dJ kn x.1).length c3,slice a4 q2 c4] 286);have HRS:=ae ((tH (dJ kn x.1,bP m (dJ kn x.1) (replicate q2 0))).new hRS hbc);have HRD:=ae ((hRd.below hbc (ah _)).more hbc.size);have hwa2:=hb2.size;have HB3:=ae (HB1.out.trans ((hb2.mono (show wp.heap.size<=wa.heap.size by omega)).trans (hbc.mono (show wp.heap.size<=w2.heap.size by omega))));have HO3:=ae ((HO1.out.new hb2).new hbc);have hK:=Blk.new w2 286 #[slice a3 (dJ kn x.1).length c3,slice a4 q2 c4];have p0:=hK.cell 0;have p1:=hK.cell 1;have hw3:=hbc.size;have hcc:q2<=c4/\c4<=maxLen:=(by obtain⟨_,_,e,_,_,h3⟩:=gP (fL hO2) HSL.out;injection e with _ _ e;subst e;exact h3);have HRX:Hid ((tH (dJ kn x.1,bP m (dJ kn x.1) (replicate q2 0))).ok (w2.alloc (cells #[slice a3 (dJ kn x.1).length c3,slice a4 q2 c4] 286)) (fun b=>Fr wp.heap.size b/\some b≠(Value.slice a6 n6 c6).ownBlock) [slice a3 (dJ kn x.1).length c3,slice a4 q2 c4]):=ae (HO1.out.off HRS.out fun b hb=>⟨aO (aO hw0 hw1) hb,.inr hb⟩);clear hRS hbc hRd hb2 HB1 HO1 hK hO1 hO2 CL k0 k1;by_cases h0:(dJ kn x.1).length=0
    ·have hu0:dJ kn x.1=[]:=eq_nil_of_length_eq_zero h0
     have hs0:bP m (dJ kn x.1) (replicate q2 0)=replicate q2 0:=(by rw[hu0];rfl);rw[hs0] at HRD;rw[bf h0] at HT;rw[h0] at HRD HB3 HO3 p0 p1 ⊢;have CZ:=ae (AK q2 c4 _ a4 _ HRD.out hcc.1 hcc.2);clear HRD HRS HRX h0 hu0 hs0 HSL hul;go_wp2_with fail;generalize w2.alloc (cells #[slice a3 0 c3,slice a4 q2 c4] 286)=w3 at*;refine CZ.out.mono ?_;rintro e w4 ⟨rfl,j,rfl⟩;have HB4:=ae (below_drewN HB3.out j);have HO4:=ae (HO3.out.drewN j);clear p0 p1;generalize w3.drewN j=w5 at*;have hk1:fT kn m q2 (L.take (k+1))=LL:=(by rw[HLN.out,HT.out]);rw[<-hk1] at HO4;clear hk1;go_wp2_with fail;go_roundw
     case rel=>exact⟨k+1,by omega,by go_num,HO4,HB4⟩
     case measure=>simp[intOf];omega
    ·rw[bg h0] at HT
     have h0I:(0:Int)<(((dJ kn x.1).length:Nat):Int):=(by omega);clear h0 HRD;generalize dJ kn x.1=uk at*;generalize bP m uk (replicate q2 0)=sm at*;generalize uk.length=q3 at*;go_upto_region 10 with fail;generalize w2.alloc (cells #[slice a3 q3 c3,slice a4 q2 c4] 286)=w3 at*;have hw03:wp.heap.size<=w3.heap.size:=HB3.out.size;clear HRS
     go_wp2_with (at_builtin;refine fF (w:=w3) (w1:=w3) rfl _ _ rfl underlying284 Ff rfl (by decide) (by decide) HO3.out (az _ _) hw03 hrl (R:=tH (uk,sm)) HRX.out rfl rfl rfl ?_)
     intro v6 w6 hO6 hb6;have hk1:(fT kn m q2 (L.take (k+1))).map tH=LL.map tH++[tH (uk,sm)]:=(by rw[HLN.out,HT.out,aQ];rfl);rw[<-hk1] at hO6;have HO6:=ae hO6;have HB6:=ae (HB3.out.trans hb6);clear hO6 hb6 HO3 HRX HB3 hk1;obtain⟨b6,n6,c6,rfl⟩:=HO6.out.sl;go_wp2_with fail;go_roundw
     case rel=>exact⟨k+1,by omega,by go_num,HO6,HB6⟩
     case measure=>simp[intOf];omega
   ·obtain rfl:k=N:=by omega
    rw[aJ (by rw[HN.out];exact ah _)] at HO;have kg1:=HP1.out.blk.cell 1;have kg2:=HP1.out.blk.cell 2;go_wp2_with fail
    go_quiet (fail)
    go_wp2_with fail
    (try simp only[Exit.inBlock,Exit.then])
    refine bodyPost_ret (zt rfl _ _ _) rfl ?_;obtain⟨g1,g2,g3⟩:=HGp.out;refine⟨g,gk,gv,wp.heap.size,_,kn,vl,rfl,(HP1.out).new (below_drewN (az _ _) _),HC.out,⟨g1,g2,g3⟩,?_,HO.out.drewN _,below_drewN (HBp.out.trans (HB.out.mono HBp.out.size)) _⟩;obtain⟨hs,h1,-⟩:=HPp.out.hs;exact⟨HPp.out.blk.lt,HPp.out.knb.lt,h1.lt⟩
def l7(l:List (List Nat)):Rp:=rS 1 (l.map rI)
theorem zu{l:List (List Nat)}{w:World}{F:Nat->Prop}{a:Option Addr}{n c i:Nat}(h:(l7 l).ok w F [slice a n c])(hl:l.length=n)(hi:i<n):
 ∃b o a1 q1 c1,a=some ⟨b,o,none⟩/\F b/\b<w.heap.size/\w.cell? ⟨b,o+i,none⟩=some (slice a1 q1 c1)/\(rI (l.getD i [])).ok w F [slice a1 q1 c1]/\q1=(l.getD i []).length/\Rd w w.heap.size a1 q1 (bG (l.getD i [])):=by
 have hiL:i<l.length:=by omega
 have hR:(l.map rI)[i]? =some (rI (l.getD i [])):=by rw[List.getElem?_map,af,ag hiL];rfl
 obtain⟨b,o,ds,rfl,hF,hb,hok,hlen,hc⟩:=rY h (by decide) hi hR;obtain⟨u,rfl⟩:=length_eq_one_iff.1 hlen;obtain⟨a1,c1,rfl,h1,-⟩:=dA hok rfl;have:=hc 0 _ rfl;rw[Nat.mul_one,Nat.add_zero] at this;exact⟨b,o,a1,_,c1,rfl,hF,hb,this,hok,rfl,h1⟩
theorem Bw(n N:Nat)(al:Option Addr)(cl:Nat)(F:Nat->Prop)(L:List (List Nat))(w:World)
 (hL:(l7 L).ok w F [slice al N cl])(hN:L.length=N)(hNb:N<=2000)(hn:n<=64)
 (hcn:∀x∈L,x.length<=1000/\(∀c∈x,c<n)/\O5 x):
 Calls prog 353 #[int i64 n,slice al N cl] w fun e w'=>e=returned (bool true)/\w'=w:=by
 have HL:=ae hL;have HN:=ae hN;have HCN:=ae hcn;clear hL hN hcn;go_enter func353,ntmps353;have hn1:¬(n:Int)<0:=by omega
 have hn2:¬64<(n:Int):=by omega
 go_wp2_with fail;clear hn1 hn2;go_loopw [17] (fun i wr=>∃k:Nat,k<=N/\i=int i64 k/\wr=w) (fun i _=>N-(intOf i).toNat)
 case atStart=>exact⟨0,by omega,rfl,rfl⟩
 case round=>
  obtain⟨k,hkN,rfl,hw⟩:=hrel;have HW:=ae hw;clear hw;by_cases hlt:k<N
  ·have hltI:(k:Int)<(N:Int):=by omega
   have hLk:L.getD k []∈L:=(by rw[af,ag (by rw[HN.out];exact hlt)];exact aP _);obtain⟨hq,hcx,hup⟩:=HCN.out _ hLk;obtain⟨b,o,a1,q1,c1,rfl,_,hb,he0,_,hq1,hRd⟩:=zu HL.out HN.out hlt;have HRD2:=ae hRd;have HCX:=ae hcx;have HUP:=ae hup;have HQ1:=ae hq1;have hlq:q1<=1000:=(by omega);clear hLk hRd hcx hq hup;generalize L.getD k []=x at*;clear hq1;rw[<-HW.out] at he0;go_wp2_with fail;clear he0;go_loopw [23] (fun i wq=>∃j:Nat,j<=q1/\i=int i64 j/\wq=w) (fun i _=>q1-(intOf i).toNat)
   case atStart=>exact⟨0,by omega,rfl,HW.out⟩
   case round=>
    obtain⟨j,hjq,rfl,hw⟩:=hrel;clear HW;have HW:=ae hw;clear hw;by_cases hlj:j<q1
    ·have hljI:(j:Int)<(q1:Int):=by omega
     have hjl:j<x.length:=(by rw[<-HQ1.out];exact hlj);obtain⟨bc,oc,rfl,hbc,hcc⟩:=iz HRD2.out hlj;have hcx:x.getD j 0<n:=HCX.out _ (by rw[getD_at hjl];exact aP hjl);have hcx1:¬((x.getD j 0:Nat):Int)<0:=(by omega);have hcx2:¬(n:Int)<=((x.getD j 0:Nat):Int):=(by omega);rw[<-HW.out] at hcc;by_cases hj0:j=0
     ·subst hj0
      clear hjl;generalize x.getD 0 0=y at*;rw[Nat.add_zero] at hcc;go_wp2_with fail;go_roundw
      case rel=>exact⟨0+1,by omega,by go_num,HW.out⟩
      case measure=>simp[intOf];omega
     ·obtain⟨_,_,e,hbc',hcc'⟩:=iz HRD2.out (show j-1<q1 by omega)
      injection e with e;injection e with e1 e2 _;subst e1 e2;rw[<-HW.out] at hcc';have hu:=HUP.out (j-1) (by omega);rw[show j-1+1=j by omega] at hu;have huI:¬((x.getD j 0:Nat):Int)<=((x.getD (j-1) 0:Nat):Int):=(by omega);have hj0I:(0:Int)<(j:Int):=(by omega);have hj1:IntKind.i64.wrap ((j:Int)-1)=((j-1:Nat):Int):=(by rw[IntKind.wrap_i64];omega);have hj2:((j:Int)-1)=((j-1:Nat):Int):=(by omega);have hj3:((j-1:Nat):Int)<(q1:Int):=(by omega);have HJ:Hid (j+1<=q1/\q1-(j+1)<q1-j):=ae (by omega);clear hjl hu;generalize x.getD j 0=y at*;generalize hj1e:j-1=j1 at*;generalize x.getD j1 0=z at*;clear hj1e;go_wp2_with fail;go_roundw
      case rel=>exact⟨j+1,by omega,by go_num,HW.out⟩
      case measure=>simp[intOf];omega
    ·obtain rfl:j=q1:=by omega
     go_wp2_with fail;go_roundw
     case rel=>exact⟨k+1,by omega,by go_num,HW.out⟩
     case measure=>simp[intOf];omega
  ·obtain rfl:k=N:=by omega
   go_wp2_with fail;go_ret;exact⟨rfl,HW.out⟩
structure PlSt (w:World) (g gl gu n N:Nat) (sl:Value) (op us:List Bool):Prop where
 blk:Blk w g 416 #[sl,slice (some ⟨gl,0,none⟩) n n,slice (some ⟨gu,0,none⟩) N N]
 opb:Blk w gl 4 (bY op).toArray
 usb:Blk w gu 4 (bY us).toArray
 ol:op.length=n
 ul:us.length=N
 ne:gl≠gu
theorem PlSt.nes{w:World}{g gl gu n N:Nat}{sl:Value}{op us:List Bool}(h:PlSt w g gl gu n N sl op us):g≠gl/\g≠gu/\gl≠gu:=⟨Blk.ne h.blk h.opb (by decide),Blk.ne h.blk h.usb (by decide),h.ne⟩
theorem PlSt.new{w w':World}{g gl gu n N:Nat}{sl:Value}{op us:List Bool}(h:PlSt w g gl gu n N sl op us)(hb:Below w.heap.size w w'):PlSt w' g gl gu n N sl op us:=
 ⟨h.blk.below hb h.blk.lt,h.opb.below hb h.opb.lt,h.usb.below hb h.usb.lt,h.ol,h.ul,h.ne⟩
theorem PlSt.cellO{w:World}{g gl gu n N:Nat}{sl:Value}{op us:List Bool}(h:PlSt w g gl gu n N sl op us){c:Nat}(hc:c<n):w.cell? ⟨gl,c,none⟩=some (bool (op.getD c false)):=by
 rw[h.opb.cell c,af];have:c<op.length:=by rw[h.ol];exact hc
 simp[bY,this]
theorem PlSt.cellU{w:World}{g gl gu n N:Nat}{sl:Value}{op us:List Bool}(h:PlSt w g gl gu n N sl op us){c:Nat}(hc:c<N):w.cell? ⟨gu,c,none⟩=some (bool (us.getD c false)):=by
 rw[h.usb.cell c,af];have:c<us.length:=by rw[h.ul];exact hc
 simp[bY,this]
def gU(op:List Bool)(r:List Nat):List Nat:=r.filter fun c=>op.getD c false
theorem Lf{op:List Bool}{r:List Nat}{k:Nat}(h:k<r.length):gU op (r.take (k+1))=if op.getD (r.getD k 0) false=true then gU op (r.take k)++[r.getD k 0] else gU op (r.take k):=by
 unfold gU;rw[aN h,filter_append,getD_at h];by_cases hx:op.getD r[k] false=true
 ·rw[bf hx,filter_cons,bf hx];rfl
 ·rw[bg hx,filter_cons,bg hx,filter_nil,append_nil]
theorem zw(g gl gu n N q c:Nat)(sl:Value)(op us:List Bool)(a:Option Addr)(r:List Nat)(w:World)(hP:PlSt w g gl gu n N sl op us)(hr:Rd w w.heap.size a q (bG r))(hq:q<=1000)(hcn:∀c∈r,c<n):
 Calls prog 382 #[pointer (some ⟨g,0,none⟩),slice a q c] w fun e w'=>e=returned (.tuple #[int i64 ((gU op r).getLastD 0:Nat),bool (decide ((gU op r).length=1))])/\w'=w:=by
 have hl:r.length=q:=by have:=hr.len;simpa[bG] using this
 have HP:=ae hP;have HR:=ae hr;have HL:=ae hl;have HCN:=ae hcn;clear hP hr hl hcn;go_enter func382,ntmps382;go_wp2_with fail;go_loopw [6,7,12] (fun u v i wr=>∃k:Nat,k<=q/\i=int i64 k/\u=int i64 ((gU op (r.take k)).getLastD 0:Nat)/\v=int i64 ((gU op (r.take k)).length:Nat)/\wr=w) (fun _ _ i _=>q-(intOf i).toNat)
 case atStart=>exact⟨0,by omega,rfl,rfl,rfl,rfl⟩
 case round=>
  obtain⟨k,hkq,rfl,rfl,rfl,hw⟩:=hrel;have HW:=ae hw;clear hw;have hul:(gU op (r.take k)).length<=1000:=aO (length_filter_le _ _) (by rw[aG];omega);by_cases hlt:k<q
  ·have hltI:(k:Int)<(q:Int):=by omega
   have hkl:k<r.length:=(by rw[HL.out];exact hlt);obtain⟨bc,oc,rfl,hbc,hcc⟩:=iz HR.out hlt;have hcx:r.getD k 0<n:=HCN.out _ (by rw[getD_at hkl];exact aP hkl);have hko:=HP.out.cellO hcx;have p1:=HP.out.blk.cell 1;have HU:=ae (Lf (op:=op) hkl);have hcxI:((r.getD k 0:Nat):Int)<(n:Int):=(by omega);rw[<-HW.out] at hcc hko p1;clear hkl;generalize r.getD k 0=y at*;cases hky:op.getD y false with
   | false=>
     rw[hky] at hko HU;rw[bg (by decide)] at HU;generalize gU op (r.take k)=z at*;have HU1:Hid ((gU op (r.take (k+1))).length=z.length):=ae (by rw[HU.out]);have HU2:Hid ((gU op (r.take (k+1))).getLastD 0=z.getLastD 0):=ae (by rw[HU.out]);generalize z.length=zl at*;generalize z.getLastD 0=zz at*;go_wp2_with fail;go_roundw
     case rel=>exact⟨k+1,by omega,by go_num,by rw[HU2.out],by rw[HU1.out],HW.out⟩
     case measure=>simp[intOf];omega
   | true=>
     rw[hky] at hko HU;rw[bf rfl] at HU;generalize gU op (r.take k)=z at*;have HU1:Hid ((gU op (r.take (k+1))).length=z.length+1):=ae (by rw[HU.out,aH];rfl);have HU2:Hid ((gU op (r.take (k+1))).getLastD 0=y):=ae (by rw[HU.out];simp);generalize z.length=zl at*;generalize z.getLastD 0=zz at*;go_wp2_with fail;go_roundw
     case rel=>exact⟨k+1,by omega,by go_num,by rw[HU2.out],by rw[HU1.out];go_num,HW.out⟩
     case measure=>simp[intOf];omega
  ·obtain rfl:k=q:=by omega
   rw[aJ (by rw[HL.out];exact ah _)] at hul ⊢;by_cases h1:(gU op r).length=1
   ·rw[h1]
    have H1:=ae h1;clear h1 hul;go_wp2_with fail;go_ret2;exact⟨by rw[ba H1.out];rfl,HW.out⟩
   ·have h1I:¬(((gU op r).length:Nat):Int)=1:=by omega
    generalize hz:(gU op r).length=z at*;have HZ:=ae hz;have H1:=ae h1;have h1B:((z:Int) == 1)=false:=beq_eq_false_iff_ne.2 h1I;clear h1 hz;go_wp2_with fail;go_ret2;exact⟨by rw[HZ.out,decide_eq_false H1.out];rfl,HW.out⟩
def wM(obj blk id K H Z seed:Nat)(v:Value):Value:=.agg #[int i64 obj,int i64 blk,int i64 id,int i64 K,int i64 H,int i64 Z,.int .u32 seed,v]
def ru(obj blk id K H Z seed:Nat)(v:Value):Array Value:=#[int i64 obj,int i64 blk,int i64 id,int i64 K,int i64 H,int i64 Z,.int .u32 seed,v]
theorem sH{w:World}{g:Nat}{t:TypeId}{a b c d e f x y:Value}(h:Blk w g t #[a,b,c,d,e,f,x,y]):
 w.cell? ⟨g,0,none⟩=some a/\w.cell? ⟨g,1,none⟩=some b/\w.cell? ⟨g,2,none⟩=some c/\w.cell? ⟨g,3,none⟩=some d/\w.cell? ⟨g,4,none⟩=some e/\w.cell? ⟨g,5,none⟩=some f/\w.cell? ⟨g,6,none⟩=some x/\w.cell? ⟨g,7,none⟩=some y:=
 ⟨h.cell 0,h.cell 1,h.cell 2,h.cell 3,h.cell 4,h.cell 5,h.cell 6,h.cell 7⟩
theorem uM(obj blk id K H Z seed:Nat)(a:Option Addr)(c:Nat)(w:World)(ho:obj<=16777215)(hb:blk<=255)(hi:id<=65535)(hk:eD K H Z=true):
 Calls prog 226 #[wM obj blk id K H Z seed (slice a Z c)] w fun e w'=>e=returned (bool (decide (blk<8)))/\Below w.heap.size w w':=by
 have CM:=ae fun w=>fS K H Z w;rw[hk] at CM;have HX0:=ae (Blk.new w 178 (ru obj blk id K H Z seed (slice a Z c)));have HB0:=ae ((az w.heap.size w).alloc (ah _) (cells (ru obj blk id K H Z seed (slice a Z c)) 178));unfold cE at CM;unfold wM;have hoI:(obj:Int)<=16777215:=by omega
 have hiI:(id:Int)<=65535:=by omega
 clear ho hi hb;go_enter func226,ntmps226;by_cases h8:blk<8
 ·have h8I:(blk:Int)<8:=by omega
  rw[ba h8];go_wp2_with fail;unfold ru at HX0 HB0;generalize w.alloc (cells #[int i64 obj,int i64 blk,int i64 id,int i64 K,int i64 H,int i64 Z,.int .u32 seed,slice a Z c] 178)=w0 at*;refine(CM.out _).mono ?_;rintro e w1 ⟨rfl,hb⟩;have HB1:=ae (HB0.out.trans (hb.mono HB0.out.size));have HX1:=ae (HX0.out.below hb HX0.out.lt);obtain⟨k0,k1,k2,k3,k4,k5,k6,k7⟩:=sH HX1.out;clear hb HB0 HX0 CM;go_wp2_with fail;go_ret;exact⟨rfl,HB1.out⟩
 ·have h8I:¬(blk:Int)<8:=by omega
  rw[decide_eq_false h8];go_wp2_with fail;go_ret;exact⟨rfl,HB0.out⟩
theorem uN(obj blk id K H Z seed:Nat)(d:List Nat)(a:Option Addr)(c:Nat)(w:World)(ho:obj<=16777215)(h8:blk<8)(hi:id<=65535)(hk:eD K H Z=true)(hs:seed<4294967296)
 (hd:Rd w w.heap.size a Z (bF d))(hby:By d)(hnil:a=none->c=0):
 Calls prog 162 #[wM obj blk id K H Z seed (slice a Z c)] w fun e w'=>∃g,e=returned (slice (some ⟨g,0,none⟩) 64 64)/\w.heap.size<=g/\Blk w' g 5 (bJ (cellL 1 (jH obj blk id K H Z seed d)))/\Below w.heap.size w w':=by
 have hok:=aZ hk;have hdl:d.length=Z:=by have:=hd.len;rwa [bI] at this
 have CM:=ae fun w=>uM obj blk id K H Z seed a c w ho (by omega) hi hk;rw[ba h8] at CM;have HX0:=ae (Blk.new w 178 (ru obj blk id K H Z seed (slice a Z c)));have HB0:=ae ((az w.heap.size w).alloc (ah _) (cells (ru obj blk id K H Z seed (slice a Z c)) 178));unfold wM at CM ⊢;unfold ru at HB0 HX0;have HD:=ae hd;have HDL:=ae hdl;have HBY:=ae hby;clear hd hdl hby;have hKm:(K:Int)%256=(K:Int):=by omega
 have hHm:(H:Int)%256=(H:Int):=by omega
 have hZm:(Z:Int)%256=(Z:Int):=by omega
 have CN:=ae fun (v:Value) (xs:List Nat) (C n s:Nat) (w:World) (ho:OwnB w C v xs) (hC:C<=w.heap.size) (hn:n<4294967296) (hs:s<=4) (hl:xs.length<=1000)=>wQ v xs C n s w ho hC hn hs hl;go_enter func162,ntmps162;go_wp2_with fail;generalize hw0:w.alloc (cells #[int i64 obj,int i64 blk,int i64 id,int i64 K,int i64 H,int i64 Z,.int .u32 seed,slice a Z c] 178)=w0 at*;have hsz0:w0.heap.size=w.heap.size+1:=by rw[<-hw0];simp
 clear hw0;refine(CM.out _).mono ?_;rintro e w1 ⟨rfl,hb⟩;have HB1:=ae (HB0.out.trans (hb.mono HB0.out.size));have HX1:=ae (HX0.out.below hb HX0.out.lt);have hC1:w.heap.size+1<=w1.heap.size:=by have:=hb.size;omega
 obtain⟨k0,k1,k2,k3,k4,k5,k6,k7⟩:=sH HX1.out;clear hb HB0 HX0 CM;go_wp2_with fail;refine(CN.out (slice none 0 0) [] (w.heap.size+1) obj 3 w1 (OwnB.nil _ _) hC1 (by omega) (by omega) (by simp)).mono ?_;rintro e w2 ⟨v2,rfl,hO,hb⟩;clear k0 k1 k2 k3 k4 k5 k6 k7;have HB2:=ae (HB1.out.trans (hb.mono (by omega)));have HX2:=ae (HX1.out.below hb (by omega));have hC2:w.heap.size+1<=w2.heap.size:=aO hC1 hb.size;have HO:=ae hO;obtain⟨k0,k1,k2,k3,k4,k5,k6,k7⟩:=sH HX2.out;clear hb hO HB1 HX1;obtain⟨a2,c2,rfl,-⟩:=HO.out.rd;rw[nil_append] at HO;go_wp2_with fail;refine(CN.out _ _ _ blk 1 w2 HO.out hC2 (by omega) (by omega) (by rw[cG];omega)).mono ?_;rintro e w3 ⟨v3,rfl,hO,hb⟩;clear k0 k1 k2 k3 k4 k5 k6 k7;have HB3:=ae (HB2.out.trans (hb.mono (by omega)));have HX3:=ae (HX2.out.below hb (by omega));have hC3:w.heap.size+1<=w3.heap.size:=aO hC2 hb.size;have HO:=ae hO;obtain⟨k0,k1,k2,k3,k4,k5,k6,k7⟩:=sH HX3.out;clear hb hO HB2 HX2;obtain⟨a3,c3,rfl,-⟩:=HO.out.rd;go_wp2_with fail;refine(CN.out _ _ _ id 2 w3 HO.out hC3 (by omega) (by omega) (by simp[cG])).mono ?_;rintro e w4 ⟨v4,rfl,hO,hb⟩;clear k0 k1 k2 k3 k4 k5 k6 k7;have HB4:=ae (HB3.out.trans (hb.mono (by omega)));have HX4:=ae (HX3.out.below hb (by omega));have hC4:w.heap.size+1<=w4.heap.size:=aO hC3 hb.size;have HO:=ae hO;obtain⟨k0,k1,k2,k3,k4,k5,k6,k7⟩:=sH HX4.out;clear hb hO HB3 HX3;obtain⟨a4,c4,rfl,-⟩:=HO.out.rd;have hba:=(az w4.heap.size w4).alloc (ah _) (cells (bJ [K,H,Z]) 5);have HOA:=ae (HO.out.below hba);have HRA:=ae (nk (Blk.new w4 5 (bJ [K,H,Z])));have hrow:bJ [K,H,Z]= #[.int .u8 (K:Int),.int .u8 (H:Int),.int .u8 (Z:Int)]:=rfl;have hsA:(w4.alloc (cells (bJ [K,H,Z]) 5)).heap.size=w4.heap.size+1:=by simp
 have HBA:Hid (Below (w.heap.size+1) w4 (w4.alloc (cells (bJ [K,H,Z]) 5))):=ae (hba.mono hC4);have HXA:=ae (HX4.out.below hba (HX4.out.lt));rw[hrow] at HOA HRA hsA HBA HXA;clear hba hrow
 go_wp2_with (at_builtin;refine nC rfl _ _ rfl HOA.out ?c1 ?c2 rfl rfl ?c3 HRA.out ?_)
 case c1=>omega
 case c2=>simp[cG]
 case c3=>intro e;cases e
 intro v5 w5 hO hb _ _;clear k0 k1 k2 k3 k4 k5 k6 k7;have HB5:=ae (HB4.out.trans ((HBA.out.mono (by omega)).trans (hb.mono (by omega))));have HX5:=ae (HXA.out.below hb (by omega));have hC5:w.heap.size+1<=w5.heap.size:=by have:=hb.size;omega
 have HO:=ae hO;obtain⟨k0,k1,k2,k3,k4,k5,k6,k7⟩:=sH HX5.out;clear hb hO HB4 HX4 HXA HBA HRA HOA hsA;obtain⟨a5,c5,rfl,-⟩:=HO.out.rd;go_wp2_with fail;refine(CN.out _ _ _ seed 4 w5 HO.out hC5 (by omega) (by omega) (by simp[cG])).mono ?_;rintro e w6 ⟨v6,rfl,hO,hb⟩;clear k0 k1 k2 k3 k4 k5 k6 k7;have HB6:=ae (HB5.out.trans (hb.mono (by omega)));have HX6:=ae (HX5.out.below hb (by omega));have hC6:w.heap.size+1<=w6.heap.size:=aO hC5 hb.size;have HO:=ae hO;obtain⟨k0,k1,k2,k3,k4,k5,k6,k7⟩:=sH HX6.out;clear hb hO HB5 HX5;obtain⟨a6,c6,rfl,-⟩:=HO.out.rd;have HD6:=ae (HD.out.below HB6.out (ah _))
 go_wp2_with (at_builtin;refine nC rfl _ _ rfl HO.out ?c1 ?c2 rfl rfl ?c3 HD6.out ?_)
 case c1=>exact hC6
 case c2=>simp[cG];omega
 case c3=>exact hnil
 intro v7 w7 hO hb _ _;clear k0 k1 k2 k3 k4 k5 k6 k7;have hle:([]++bT obj 3++bT blk 1++bT id 2++[K,H,Z]++bT seed 4++d).length=13+Z:=by simp[cG,HDL.out];omega
 have HB7:=ae (HB6.out.trans (hb.mono (by omega)))
 have hO':OwnB w7 (w.heap.size+1) v7 (jH obj blk id K H Z seed d):=by
  unfold jH;first | exact hO | (simpa using hO)
 have hrl:=kX obj blk id K H Z seed d;have HO:=ae hO'
 have HBY2:Hid (By (jH obj blk id K H Z seed d)):=ae (by
  unfold jH;intro x hx;simp only[bz] at hx;rcases hx with((((hx | hx) | hx) | hx) | hx) | hx
  ·exact fC _ _ x hx
  ·exact fC _ _ x hx
  ·exact fC _ _ x hx
  ·simp at hx;omega
  ·exact fC _ _ x hx
  ·exact HBY.out x hx)
 clear hb hO hO' HB6 HX6 hle;obtain⟨a7,c7,rfl,hr7⟩:=HO.out.rd;rw[hrl] at hr7;have CP:=ae (uh 1 (jH obj blk id K H Z seed d) a7 _ c7 w7 (by omega) (by omega) hr7 HBY2.out (by have:=HDL.out;omega));rw[hrl];rw[HDL.out] at CP ⊢;clear hr7 hrl;go_wp2_with fail;refine CP.out.mono ?_;rintro e w8 ⟨g,rfl,hg,hK,hb⟩;have HK:=ae hK;have hsz7:=HB7.out.size;have HB8:=ae (HB7.out.trans (hb.mono hsz7));clear hK hb;go_wp2_with fail;go_ret;exact⟨g,rfl,by omega,HK.out,HB8.out⟩
theorem eH{P:Program}{fn:Func}{p q:Tmp}{ty:TypeId}(h:fn.results= #[.cell p ty,.tmp q])(tmps:Array Value)(w:World)(g:Nat)(t:TypeId)(cs:Array Value)(fr:Nat×Nat)(d:TypeDesc)
 (hp:tmps.getD p undef=pointer (some ⟨g,0,none⟩))(hg:w.heap[g]? =some (.cells cs t fr))
 (hu:P.underlying ty=some d)(hd:(match d with | .struct _ | .array _ _=>true | _=>false)=true)(hi:(P.info? ty).map (·.size)=some cs.size):
 (results fn tmps).run P w=.ok (.tuple #[.agg cs,tmps.getD q undef]) w:=by
 rw[results_cell_tmp h];have hp':tmps[p]?.getD undef=pointer (some ⟨g,0,none⟩):=by simpa using hp
 simp[hp',asAddr,run_loadVar_row w g t ty cs fr d hg hu hd hi,Result.andThen]
def iG:Array Value:=#[int i64 0,int i64 0,int i64 0,int i64 0,int i64 0,int i64 0,.int .u32 0,slice none 0 0]
theorem Al:iG.all (·.oneCell')=true:=by kernel_rfl
theorem JP(obj blk id K H Z seed:Nat)(a:Option Addr)(n c:Nat):(ru obj blk id K H Z seed (slice a n c)).all (·.oneCell')=true:=by kernel_rfl
theorem uP(bs:List Nat)(a:Option Addr)(c:Nat)(w:World)(hx:Rd w w.heap.size a 64 (bF bs))(hb:By bs)(hc:64<=c/\c<=maxLen)(hno:¬(kx bs/\bs.getD 3 0=1)):
 Calls prog 178 #[slice a 64 c] w fun e w'=>e=returned (.tuple #[.agg iG,bool false])/\Below w.heap.size w w':=by
 have S0:Hid (Sx w (w.alloc (cells (iG) 178)) [bQ w.heap.size 178 (iG),kT a 64 (bF bs)]):=
  ae (((((Sx.nil w).add (kT a 64 (bF bs)) hx).alloc _).add (bQ _ _ _) (Blk.new w 178 _)))
 have CT:=ae fun w (h:Rd w w.heap.size a 64 (bF bs))=>xE bs a c w h hb hc;have HNO:=ae hno;have h256:=getD_lt hb 3;have hg0:w.heap.size<(w.alloc (cells (iG) 178)).heap.size:=by simp
 clear hx hb hc hno;unfold iG at S0 hg0;go_enter func178,ntmps178;go_wp2_with fail;generalize hw0:w.alloc (cells #[int i64 0,int i64 0,int i64 0,int i64 0,int i64 0,int i64 0,.int .u32 0,slice none 0 0] 178)=w0 at*;clear hw0;refine(CT.out _ (S0.out.rd 1 rfl)).mono ?_;rintro e w1 ⟨h1,h2,hb⟩;have S1:=ae (S0.out.step hb);have hP:w.heap.size<=w.heap.size:=ah _;have HP:=ae hP;clear hP;by_cases hcell:kx bs
 ·obtain⟨v,rfl,hO⟩:=h1 hcell
  have hk:¬bs.getD 3 0=1:=fun h=>HNO.out ⟨hcell,h⟩;obtain⟨b1,c1,rfl,-⟩:=hO.rd;clear h1 h2 hb hO CT;generalize bs.getD 3 0=kd at*;have hkI:¬(kd:Int)=1:=(by omega);have SB:=S1.out.blk 0 rfl;have hB5:=ae (S1.out.1);have HSB:=ae SB;clear SB
  go_wp2_with (change wpList _ _ _ (Oper.mk none (Op.store 178 _ _) _ _ _ _ :: _) _ _;refine wpList_store_row rfl 178 _ _ rfl w.heap.size iG rfl rfl 178 _ HSB.out (by kernel_rfl) rfl Al ?_)
  have HR:=ae (HSB.out.row iG);have HB6:=ae (bW hB5.out HP.out iG);clear hB5;generalize w1.setRow w.heap.size iG=w2 at*;go_wp2_with fail
  (try simp only[Exit.inBlock,Exit.then])
  refine bodyPost_ret (eH rfl _ _ w.heap.size 178 iG (0,0) _ rfl HR.out underlying178 rfl (by kernel_rfl)) rfl ?_;exact⟨rfl,HB6.out⟩
 ·obtain rfl:=h2 hcell
  have HSB:=ae (S1.out.blk 0 rfl);have hB5:=ae (S1.out.1);clear h1 h2 hb CT
  go_wp2_with (change wpList _ _ _ (Oper.mk none (Op.store 178 _ _) _ _ _ _ :: _) _ _;refine wpList_store_row rfl 178 _ _ rfl w.heap.size iG rfl rfl 178 _ HSB.out (by kernel_rfl) rfl Al ?_)
  have HR:=ae (HSB.out.row iG);have HB6:=ae (bW hB5.out HP.out iG);clear hB5;generalize w1.setRow w.heap.size iG=w2 at*;go_wp2_with fail
  (try simp only[Exit.inBlock,Exit.then])
  refine bodyPost_ret (eH rfl _ _ w.heap.size 178 iG (0,0) _ rfl HR.out underlying178 rfl (by kernel_rfl)) rfl ?_;exact⟨rfl,HB6.out⟩
theorem DT(g gl gu n N:Nat)(al:Option Addr)(cl:Nat)(F:Nat->Prop)(op us:List Bool)(L:List (List Nat))(w:World)(hP:PlSt w g gl gu n N (slice al N cl) op us)
 (hL:(l7 L).ok w F [slice al N cl])(hN:L.length=N)(hNb:N<=2000)(hcn:∀x∈L,x.length<=1000/\(∀c∈x,c<n)):
 Calls prog 355 #[pointer (some ⟨g,0,none⟩)] w fun e w'=>((∃r c:Nat,e=returned (.tuple #[.agg #[int i64 r,int i64 c],bool true])/\r<N/\us.getD r false=false/\gU op (L.getD r [])=[c])\/
  (e=returned (.tuple #[.agg #[int i64 0,int i64 0],bool false])/\∀r,r<N->us.getD r false=false->(gU op (L.getD r [])).length≠1))/\Below w.heap.size w w':=by
 have hba:=(az w.heap.size w).alloc (ah _) (cells #[int i64 0,int i64 0] 359);have HP:=ae (hP.new hba);have HL:=ae ((l7 L).new hL hba);have HK:=ae (Blk.new w 359 #[int i64 0,int i64 0]);have HB:=ae hba;have HN:=ae hN;have HCN:=ae hcn;have p0:=(hP.new hba).blk.cell 0;clear hba hP hL hN hcn;go_enter func355,ntmps355;go_wp2_with fail;clear p0;generalize w.alloc (cells #[int i64 0,int i64 0] 359)=w0 at*;go_loopw [13] (fun i wr=>∃k:Nat,k<=N/\i=int i64 k/\Hid (∀r,r<k->us.getD r false=false->(gU op (L.getD r [])).length≠1)/\wr=w0) (fun i _=>N-(intOf i).toNat)
 case atStart=>exact⟨0,by omega,rfl,ae (fun r h=>absurd h (Nat.not_lt_zero r)),rfl⟩
 case round=>
  obtain⟨k,hkN,rfl,HI,hw⟩:=hrel;have HW:=ae hw;clear hw;by_cases hlt:k<N
  ·have hltI:(k:Int)<(N:Int):=by omega
   have hLk:L.getD k []∈L:=(by rw[af,ag (by rw[HN.out];exact hlt)];exact aP _);obtain⟨hq,hcx⟩:=HCN.out _ hLk;obtain⟨b,o,a1,q1,c1,rfl,_,hb,he0,_,hq1,hRd⟩:=zu HL.out HN.out hlt;have hku:=HP.out.cellU hlt;have p2:=HP.out.blk.cell 2;have CS:=ae (zw g gl gu n N q1 c1 _ op us a1 _ w0 HP.out hRd (by omega) hcx);rw[<-HW.out] at he0 hku p2 CS;clear hLk hRd hcx hq;generalize hx:L.getD k []=x at*;have HX:=ae hx;clear hq1 hx;cases hky:us.getD k false with
   | true=>
     rw[hky] at hku;have HKY:=ae hky;clear hky;go_wp2_with fail;go_roundw
     case rel=>
      have hn:Hid (∀r,r<k+1->us.getD r false=false->(gU op (L.getD r [])).length≠1):=ae fun r hr hu=>by
       rcases Nat.lt_succ_iff_lt_or_eq.1 hr with h | rfl
       ·exact HI.out r h hu
       ·rw[HKY.out] at hu;exact Bool.noConfusion hu
      exact⟨k+1,by omega,by go_num,hn,HW.out⟩
     case measure=>simp[intOf];omega
   | false=>
     rw[hky] at hku;have HKY:=ae hky;clear hky;by_cases h1:(gU op x).length=1
     ·rw[ba h1] at CS
      have H1:=ae h1;clear h1;obtain⟨c,hc⟩:=length_eq_one_iff.1 H1.out;have e:(gU op x).getLastD 0=c:=(by rw[hc];rfl);rw[e] at CS;have HC:=ae hc;clear hc e;go_wp2_with fail;refine CS.out.mono ?_;rintro e w1 ⟨rfl,hw1⟩;have HKr:Hid (Blk w1 w.heap.size 359 #[int i64 0,int i64 0]):=ae (by rw[hw1,HW.out];exact HK.out);have HBr:Hid (Below w.heap.size w w1):=ae (by rw[hw1,HW.out];exact HB.out);clear hw1 he0 hku p2 CS
      go_wp2_with (change wpList _ _ _ (Oper.mk none (Op.store 359 _ _) _ _ _ _ :: _) _ _;refine wpList_store_row rfl 359 _ _ rfl w.heap.size #[int i64 k,int i64 c] rfl rfl 359 _ HKr.out (by kernel_rfl) rfl (by kernel_rfl) ?_)
      have HR:=ae (HKr.out.row #[int i64 k,int i64 c]);have HB6:=ae (bW HBr.out (ah _) #[int i64 k,int i64 c]);clear HKr HBr;generalize w1.setRow w.heap.size #[int i64 k,int i64 c]=w2 at*;go_wp2_with fail
      (try simp only[Exit.inBlock,Exit.then])
      refine bodyPost_ret (eH rfl _ _ w.heap.size 359 #[int i64 k,int i64 c] (0,0) _ rfl HR.out underlying359 rfl (by kernel_rfl)) rfl ?_;exact⟨.inl ⟨k,c,rfl,hlt,HKY.out,by rw[HX.out];exact HC.out⟩,HB6.out⟩
     ·rw[decide_eq_false h1] at CS
      have H1:=ae h1;clear h1;go_wp2_with fail;refine CS.out.mono ?_;rintro e w1 ⟨rfl,hw1⟩;have HW1:Hid (w1=w0):=ae (hw1.trans HW.out);clear hw1;go_wp2_with fail;go_roundw
      case rel=>
       have hn:Hid (∀r,r<k+1->us.getD r false=false->(gU op (L.getD r [])).length≠1):=ae fun r hr hu=>by
        rcases Nat.lt_succ_iff_lt_or_eq.1 hr with h | rfl
        ·exact HI.out r h hu
        ·rw[HX.out];exact H1.out
       exact⟨k+1,by omega,by go_num,hn,HW1.out⟩
      case measure=>simp[intOf];omega
  ·obtain rfl:k=N:=by omega
   have HKr:Hid (Blk wr w.heap.size 359 #[int i64 0,int i64 0]):=ae (by rw[HW.out];exact HK.out);have HBr:Hid (Below w.heap.size w wr):=ae (by rw[HW.out];exact HB.out);clear HW
   go_wp2_with (change wpList _ _ _ (Oper.mk none (Op.store 359 _ _) _ _ _ _ :: _) _ _;refine wpList_store_row rfl 359 _ _ rfl w.heap.size #[int i64 0,int i64 0] rfl rfl 359 _ HKr.out (by kernel_rfl) rfl (by kernel_rfl) ?_)
   have HR:=ae (HKr.out.row #[int i64 0,int i64 0]);have HB6:=ae (bW HBr.out (ah _) #[int i64 0,int i64 0]);clear HKr HBr;generalize wr.setRow w.heap.size #[int i64 0,int i64 0]=w2 at*;go_wp2_with fail
   (try simp only[Exit.inBlock,Exit.then])
   refine bodyPost_ret (eH rfl _ _ w.heap.size 359 #[int i64 0,int i64 0] (0,0) _ rfl HR.out underlying359 rfl (by kernel_rfl)) rfl ?_;exact⟨.inr ⟨rfl,HI.out⟩,HB6.out⟩
def gG(zs:List Int):List Value:=zs.map (Value.int .i64)
theorem vP{w:World}{g:Nat}{t:TypeId}{zs:List Int}(h:Blk w g t (gG zs).toArray){k:Nat}(hk:k<zs.length):w.cell? ⟨g,k,none⟩=some (int i64 (zs.getD k 0)):=by
 rw[h.cell k,af];simp[gG,hk]
theorem DU{w:World}{g:Nat}{t:TypeId}{zs:List Int}(h:Blk w g t (gG zs).toArray)(k:Nat)(z:Int):Blk (w.setCell ⟨g,k,none⟩ (int i64 z)) g t (gG (zs.set k z)).toArray:=by
 have e:(gG (zs.set k z)).toArray=(gG zs).toArray.setIfInBounds k (int i64 z):=by unfold gG;simp
 rw[e];exact h.set k _
theorem Nu{n:Nat}(hn:n<=1000000)(w:World):(Instr.makeSlice 22 (int i64 (n:Int)) (int i64 (n:Int))).run prog w=.ok (slice (some ⟨w.heap.size,0,none⟩) n n) (w.alloc (cells (gG (replicate n 0)).toArray 3)):=by
 obtain⟨i0,hi,hz0,hz1,hz2⟩:=info_parts dY;have h:=run_make (P:=prog) w 22 3 i0 (int i64 0) underlying22 hi hz0 .i64 .i64 (n:Int) (n:Int) (by omega) (by omega) (by rw[hz2];omega) (by omega);rw[hz1,Nat.mul_one,Int.toNat_natCast] at h;have e:(gG (replicate n 0)).toArray=madeCells #[Value.int .i64 0] n:=by rw[ww];unfold gG;simp
 rw[e];exact h
theorem DV(g gl gu n N:Nat)(al:Option Addr)(cl:Nat)(F:Nat->Prop)(op us:List Bool)(L:List (List Nat))(w:World)(hP:PlSt w g gl gu n N (slice al N cl) op us)(hn:n<=1000)
 (hL:(l7 L).ok w F [slice al N cl])(hN:L.length=N)(hNb:N<=2000)(hcn:∀x∈L,x.length<=1000/\(∀c∈x,c<n))(hop:∃c,c<n/\op.getD c false=true):
 Calls prog 356 #[pointer (some ⟨g,0,none⟩)] w fun e w'=>(∃c:Nat,e=returned (int i64 c)/\c<n/\op.getD c false=true)/\Below w.heap.size w w':=by
 have HP:=ae hP;have HL:=ae hL;have HN:=ae hN;have HCN:=ae hcn;have HOP:=ae hop;have hmk:∀w:World,(Instr.makeSlice 22 (int i64 (n:Int)) (int i64 (n:Int))).run prog w=.ok (slice (some ⟨w.heap.size,0,none⟩) n n) (w.alloc (cells (gG (replicate n 0)).toArray 3)):=fun w=>Nu (by omega) w;have hba:=(az w.heap.size w).alloc (ah _) (cells (gG (replicate n 0)).toArray 3);have HQ0:Hid (∃zs:List Int,zs.length=n/\Blk (w.alloc (cells (gG (replicate n 0)).toArray 3)) w.heap.size 3 (gG zs).toArray):=ae ⟨_,aI,Blk.new w _ _⟩;have HB0:=ae hba;have p1:=hP.blk.cell 1;have q0:=(hP.new hba).blk.cell 0;clear hba hP hL hN hcn hop;go_enter func356,ntmps356;generalize hz:(gG (replicate n 0)).toArray=cz at*
 go_wp2_with (simp only[hmk])
 clear p1 q0 hz hmk;generalize w.alloc (.cells cz 3)=w0 at*;go_loopw [22] (fun i wr=>∃k:Nat,k<=N/\i=int i64 k/\Hid (∃zs:List Int,zs.length=n/\Blk wr w.heap.size 3 (gG zs).toArray)/\Hid (Below w.heap.size w wr)) (fun i _=>N-(intOf i).toNat)
 case atStart=>exact⟨0,by omega,rfl,HQ0,HB0⟩
 case round=>
  clear HQ0 HB0;obtain⟨k,hkN,rfl,HQ,HB⟩:=hrel;have HP1:=ae (HP.out.new HB.out);by_cases hlt:k<N
  ·have hltI:(k:Int)<(N:Int):=by omega
   have hLk:L.getD k []∈L:=(by rw[af,ag (by rw[HN.out];exact hlt)];exact aP _);obtain⟨hq,hcx⟩:=HCN.out _ hLk;obtain⟨b,o,a1,q1,c1,rfl,_,hb,he0,_,hq1,hRd⟩:=zu HL.out HN.out hlt;have HRD:=ae hRd;have HCX:=ae hcx;have HQ1:=ae hq1;have hlq:q1<=1000:=(by omega);have he1:=(HB.out.cell (p:=⟨b,o+k,none⟩) hb).trans he0;have p0:=HP1.out.blk.cell 0;clear hLk hRd hcx hq he0;generalize L.getD k []=x at*;clear hq1 HP1;go_wp2_with fail;clear he1 p0;go_loopw [29] (fun i wq=>∃j:Nat,j<=q1/\i=int i64 j/\Hid (∃zs:List Int,zs.length=n/\Blk wq w.heap.size 3 (gG zs).toArray)/\Hid (Below w.heap.size w wq)) (fun i _=>q1-(intOf i).toNat)
   case atStart=>exact⟨0,by omega,rfl,HQ,HB⟩
   case round=>
    clear HQ HB;obtain⟨j,hjq,rfl,HQ,HB⟩:=hrel;have HP1:=ae (HP.out.new HB.out);by_cases hlj:j<q1
    ·have hljI:(j:Int)<(q1:Int):=by omega
     have hjl:j<x.length:=(by rw[<-HQ1.out];exact hlj);obtain⟨bc,oc,rfl,hbc,hcc⟩:=iz HRD.out hlj;have hcx:x.getD j 0<n:=HCX.out _ (by rw[getD_at hjl];exact aP hjl);have hcc1:=(HB.out.cell (p:=⟨bc,oc+j,none⟩) hbc).trans hcc;have hku:=HP1.out.cellU hlt;have p2:=HP1.out.blk.cell 2;have hcxI:((x.getD j 0:Nat):Int)<(n:Int):=(by omega);clear hjl hcc;generalize x.getD j 0=y at*;cases hky:us.getD k false with
     | true=>
       rw[hky] at hku;go_wp2_with fail;go_roundw
       case rel=>exact⟨j+1,by omega,by go_num,HQ,HB⟩
       case measure=>simp[intOf];omega
     | false=>
       rw[hky] at hku;obtain⟨zs,hzl,hZ⟩:=HQ.out;have hc:=vP hZ (k:=y) (by omega);have hf:=hZ.frozen y;have HZn:=ae fun z=>DU hZ y z;have HZl:Hid (∀z,(zs.set y z).length=n):=ae fun z=>(by rw[length_set];exact hzl);have HBn:Hid (∀u,Below w.heap.size w (wr.setCell ⟨w.heap.size,y,none⟩ u)):=ae fun u=>HB.out.setCell (p:=⟨w.heap.size,y,none⟩) (ah _) u;clear hzl hZ HQ HP1;go_wp2_with fail;go_roundw
       case rel=>exact⟨j+1,by omega,by go_num,ae ⟨_,HZl.out _,HZn.out _⟩,ae (HBn.out _)⟩
       case measure=>simp[intOf];omega
    ·obtain rfl:j=q1:=by omega
     go_wp2_with fail;go_roundw
     case rel=>exact⟨k+1,by omega,by go_num,HQ,HB⟩
     case measure=>simp[intOf];omega
  ·obtain rfl:k=N:=by omega
   have p1:=HP1.out.blk.cell 1;obtain⟨zs,hzl,hZ⟩:=HQ.out;have HZL:=ae hzl;have HZ:=ae hZ;clear HQ hzl hZ;go_wp2_with fail;clear p1;go_loopw [8,54] (fun u i wq=>∃j:Nat,j<=n/\i=int i64 j/\Hid ((u=int i64 (-1)/\∀c,c<j->op.getD c false=false)\/∃c:Nat,u=int i64 c/\c<n/\op.getD c false=true)/\Hid (Below wr.heap.size wr wq)) (fun _ i _=>n-(intOf i).toNat)
   case atStart=>exact⟨0,by omega,rfl,ae (.inl ⟨rfl,fun c h=>absurd h (Nat.not_lt_zero c)⟩),ae (az _ _)⟩
   case round=>
    obtain⟨j,hjn,rfl,HU,HBq⟩:=hrel;by_cases hlj:j<n
    ·have hljI:(j:Int)<(n:Int):=by omega
     have hko:=(HP1.out.new HBq.out).cellO hlj;have hzc:∀c,c<n->∃z,(‹World›:World).cell? ⟨w.heap.size,c,none⟩=some (int i64 z):=fun c hc=>⟨_,(HBq.out.cell (p:=⟨w.heap.size,c,none⟩) HZ.out.lt).trans (vP HZ.out (k:=c) (by rw[HZL.out];exact hc))⟩;obtain⟨z1,hc1⟩:=hzc j hlj;have HN2:op.getD j false=true->Hid ((Value.int .i64 j=int i64 (-1)/\∀c,c<j+1->op.getD c false=false)\/∃c:Nat,Value.int .i64 j=int i64 c/\c<n/\op.getD c false=true):=fun h=>ae (.inr ⟨j,rfl,hlj,h⟩);cases hky:op.getD j false with
     | false=>
       rw[hky] at hko;have HKY:=ae hky;clear hky HN2 hzc
       have HN1:Hid ((_=Value.int .i64 (-1)/\∀c,c<j+1->op.getD c false=false)\/∃c:Nat,_=Value.int .i64 c/\c<n/\op.getD c false=true):=ae (by
        rcases HU.out with⟨h1,h2⟩ | h
        ·exact .inl ⟨h1,fun c hc=>by
          rcases Nat.lt_succ_iff_lt_or_eq.1 hc with h | rfl
          ·exact h2 c h
          ·exact HKY.out⟩
        ·exact .inr h)
       go_wp2_with fail
       go_quiet (fail)
       go_wp2_with fail;go_roundw
       case rel=>exact⟨j+1,by omega,by go_num,HN1,ae (below_drewN HBq.out _)⟩
       case measure=>simp[intOf];omega
     | true=>
       rw[hky] at hko;have HN3:=HN2 hky;have HKY:=ae hky;clear HN2 hky;rcases HU.out with⟨rfl,-⟩ | ⟨c,rfl,hcn,hcop⟩
       ·clear hzc
        go_wp2_with fail
        go_quiet (fail)
        go_wp2_with fail;go_roundw
        case rel=>exact⟨j+1,by omega,by go_num,HN3,ae (below_drewN HBq.out _)⟩
        case measure=>simp[intOf];omega
       ·obtain⟨z2,hc2⟩:=hzc c hcn
        have hcI:(c:Int)<(n:Int):=(by omega);have hcI0:¬(c:Int)<0:=(by omega);have HN4:Hid ((Value.int .i64 c=int i64 (-1)/\∀c,c<j+1->op.getD c false=false)\/∃d:Nat,Value.int .i64 c=int i64 d/\d<n/\op.getD d false=true):=ae (.inr ⟨c,rfl,hcn,hcop⟩);clear hzc hcop HU;by_cases hzz:z2<z1
        ·go_wp2_with fail
         go_quiet (fail)
         go_wp2_with fail;go_roundw
         case rel=>exact⟨j+1,by omega,by go_num,HN3,ae (below_drewN HBq.out _)⟩
         case measure=>simp[intOf];omega
        ·go_wp2_with fail
         go_quiet (fail)
         go_wp2_with fail;go_roundw
         case rel=>exact⟨j+1,by omega,by go_num,HN4,ae (below_drewN HBq.out _)⟩
         case measure=>simp[intOf];omega
    ·obtain rfl:j=n:=by omega
     obtain⟨c,rfl,hcn,hcop⟩:∃c:Nat,_=Value.int .i64 c/\c<j/\op.getD c false=true:=by
      rcases HU.out with⟨h1,h2⟩ | h
      ·obtain⟨c,h3,h4⟩:=HOP.out
       rw[h2 c h3] at h4;exact Bool.noConfusion h4
      ·exact h
     clear HU;go_wp2_with fail;go_ret;exact⟨⟨c,rfl,hcn,hcop⟩,HB.out.trans (HBq.out.mono HB.out.size)⟩
structure PlInv (n:Nat) (L:List (List Nat)) (op us:List Bool) (St:List (Nat×Nat)) (De:List Nat):Prop where
 ol:op.length=n
 ul:us.length=L.length
 step:∀(k r c:Nat),St[k]? =some (r,c)->r<L.length/\c∈L.getD r []/\∀d∈L.getD r [],d≠c->d∈De\/∃k' r',k'<k/\St[k']? =some (r',d)
 used:∀r,r<L.length->(us.getD r false=true↔r∈St.map Prod.fst)
 opn:∀c,c<n->(op.getD c false=false↔c∈St.map Prod.snd\/c∈De)
 lt:∀c,c∈St.map Prod.snd\/c∈De->c<n
 rows:(St.map Prod.fst).Nodup
 cols:(St.map Prod.snd++De).Nodup
 nodead:∀c∈De,∀r,r<L.length->L.getD r []≠[c]
theorem wE{n c:Nat}:(replicate n false).getD c false=false:=by
 rw[af,List.getElem?_replicate];split <;> rfl
theorem wX{n c:Nat}(h:c<n):(replicate n true).getD c false=true:=by
 rw[af,List.getElem?_replicate,bf h];rfl
theorem PlInv.begin(n:Nat)(L:List (List Nat)):PlInv n L (replicate n true) (replicate L.length false) [] [] where
 ol:=aI
 ul:=aI
 step:=fun k r c h=>by simp at h
 used:=fun r hr=>by rw[wE];simp
 opn:=fun c hc=>by rw[wX hc];simp
 lt:=fun c h=>by simp at h
 rows:=by simp
 cols:=by simp
 nodead:=fun c h=>by simp at h
theorem nQ{l:List Bool}{i j:Nat}{b:Bool}(hi:i<l.length):(l.set i b).getD j false=if i=j then b else l.getD j false:=by
 rw[af,List.getElem?_set,af];split
 ·rename_i h;subst h;simp[]
 ·rfl
theorem PlInv.told{n:Nat}{L:List (List Nat)}{op us:List Bool}{St:List (Nat×Nat)}{De:List Nat}(h:PlInv n L op us St De)(hL:∀x∈L,∀c∈x,c<n){r c:Nat}(hr:r<L.length)(hu:us.getD r false=false)(hc:gU op (L.getD r [])=[c]):
 PlInv n L (op.set c false) (us.set r true) (St++[(r,c)]) De:=by
 have hrm:L.getD r []∈L:=by rw[af,ag hr];exact aP hr
 have hcm:c∈gU op (L.getD r []):=by rw[hc];simp
 obtain⟨hcr,hco⟩:=mem_filter.1 hcm;have hcn:c<n:=hL _ hrm c hcr;have hnot:¬(c∈St.map Prod.snd\/c∈De):=fun e=>by rw[(h.opn c hcn).2 e] at hco;exact Bool.noConfusion hco
 have hrn:r∉St.map Prod.fst:=fun e=>by rw[(h.used r hr).2 e] at hu;exact Bool.noConfusion hu
 refine⟨by rw[length_set];exact h.ol,by rw[length_set];exact h.ul,?_,?_,?_,?_,?_,?_,h.nodead⟩
 ·intro k r' c' hk
  rcases bq k St.length with hlt | hge
  ·rw[List.getElem?_append_left hlt] at hk
   obtain⟨h1,h2,h3⟩:=h.step k r' c' hk;refine⟨h1,h2,fun d hd hdc=> ?_⟩;rcases h3 d hd hdc with h4 | ⟨k',r'',h4,h5⟩
   ·exact .inl h4
   ·exact .inr ⟨k',r'',h4,by rw[List.getElem?_append_left (by omega)];exact h5⟩
  ·rw[List.getElem?_append_right hge] at hk
   have hk0:k-St.length=0:=by
    rcases Nat.eq_zero_or_pos (k-St.length) with h | h
    ·exact h
    ·rw[List.getElem?_eq_none (by simp;omega)] at hk;cases hk
   rw[hk0] at hk;injection hk with hk;injection hk with e1 e2;subst e1 e2;refine⟨hr,hcr,fun d hd hdc=> ?_⟩;have hdn:=hL _ hrm d hd
   have hdo:op.getD d false=false:=by
    cases ho:op.getD d false with
    | false=>rfl
    | true=>
      have:d∈gU op (L.getD r []):=mem_filter.2 ⟨hd,ho⟩;rw[hc] at this;exact absurd (mem_singleton.1 this) hdc
   rcases(h.opn d hdn).1 hdo with h4 | h4
   ·obtain⟨⟨r',d'⟩,h5,e⟩:=aW.1 h4
    obtain⟨k',hk',h6⟩:=bC h5;have:d'=d:=e;subst this;exact .inr ⟨k',r',by omega,by rw[List.getElem?_append_left hk',ag hk',h6]⟩
   ·exact .inl h4
 ·intro r' hr'
  rw[nQ (by rw[h.ul];exact hr),aQ,bz];split
  ·rename_i e;subst e;simp
  ·rename_i e
   rw[h.used r' hr'];constructor
   ·exact .inl
   ·rintro(h1 | h1)
    ·exact h1
    ·simp at h1;exact absurd h1.symm e
 ·intro c' hc'
  rw[nQ (by rw[h.ol];exact hcn),aQ,bz];split
  ·rename_i e;subst e;simp
  ·rename_i e
   rw[h.opn c' hc'];constructor
   ·rintro(h1 | h1)
    ·exact .inl (.inl h1)
    ·exact .inr h1
   ·rintro((h1 | h1) | h1)
    ·exact .inl h1
    ·simp at h1;exact absurd h1.symm e
    ·exact .inr h1
 ·intro c' hc'
  rw[aQ,bz] at hc';rcases hc' with(h1 | h1) | h1
  ·exact h.lt c' (.inl h1)
  ·simp at h1;subst h1;exact hcn
  ·exact h.lt c' (.inr h1)
 ·rw[aQ,nodup_append]
  refine⟨h.rows,by simp,fun a ha b hb e=> ?_⟩;simp at hb;subst hb e;exact hrn ha
 ·have h1:=h.cols
  rw[nodup_append] at h1;rw[aQ,append_assoc,nodup_append];refine⟨h1.1,?_,fun a ha b hb e=> ?_⟩
  ·show(c :: De).Nodup
   exact nodup_cons.2 ⟨fun e=>hnot (.inr e),h1.2.1⟩
  ·subst e
   rcases bz.1 hb with h2 | h2
   ·simp at h2;subst h2;exact hnot (.inl ha)
   ·exact h1.2.2 a ha a h2 rfl
theorem PlInv.dead{n:Nat}{L:List (List Nat)}{op us:List Bool}{St:List (Nat×Nat)}{De:List Nat}(h:PlInv n L op us St De)(hno:∀r,r<L.length->us.getD r false=false->(gU op (L.getD r [])).length≠1){c:Nat}(hcn:c<n)(hco:op.getD c false=true):
 PlInv n L (op.set c false) us St (De++[c]):=by
 have hnot:¬(c∈St.map Prod.snd\/c∈De):=fun e=>by rw[(h.opn c hcn).2 e] at hco;exact Bool.noConfusion hco
 refine⟨by rw[length_set];exact h.ol,h.ul,?_,h.used,?_,?_,h.rows,?_,?_⟩
 ·intro k r' c' hk
  obtain⟨h1,h2,h3⟩:=h.step k r' c' hk;refine⟨h1,h2,fun d hd hdc=> ?_⟩;rcases h3 d hd hdc with h4 | h4
  ·exact .inl (mem_append_left _ h4)
  ·exact .inr h4
 ·intro c' hc'
  rw[nQ (by rw[h.ol];exact hcn),bz];split
  ·rename_i e;subst e;simp
  ·rename_i e
   rw[h.opn c' hc'];constructor
   ·rintro(h1 | h1)
    ·exact .inl h1
    ·exact .inr (.inl h1)
   ·rintro(h1 | h1 | h1)
    ·exact .inl h1
    ·exact .inr h1
    ·simp at h1;exact absurd h1.symm e
 ·intro c' hc'
  rw[bz] at hc';rcases hc' with h1 | h1 | h1
  ·exact h.lt c' (.inl h1)
  ·exact h.lt c' (.inr h1)
  ·simp at h1;subst h1;exact hcn
 ·have h1:=h.cols
  rw[<-append_assoc,nodup_append];refine⟨h1,by simp,fun a ha b hb e=> ?_⟩;simp at hb;subst hb e;exact hnot (bz.1 ha)
 ·intro c' hc' r hr e
  rcases bz.1 hc' with h1 | h1
  ·exact h.nodead c' h1 r hr e
  ·simp at h1
   subst h1;cases hu:us.getD r false with
   | false=>
     apply hno r hr hu;rw[e];unfold gU;rw[filter_cons,bf hco,filter_nil];rfl
   | true=>
     obtain⟨⟨r',d⟩,h5,e5⟩:=aW.1 ((h.used r hr).1 hu);obtain⟨k,hk,h6⟩:=bC h5;have:r'=r:=e5;subst this;obtain⟨_,h7,_⟩:=h.step k r' d (by rw[ag hk,h6]);rw[e] at h7;have:=mem_singleton.1 h7;subst this;exact hnot (.inl (aW.2 ⟨_,h5,rfl⟩))
theorem PlInv.done{n:Nat}{L:List (List Nat)}{op us:List Bool}{St:List (Nat×Nat)}{De:List Nat}(h:PlInv n L op us St De)(hno:∀c,c<n->op.getD c false=false):
 oM n L St De ((range L.length).filter fun i=> !us.getD i false) where
 step:=h.step
 rows:=h.rows
 cols:=h.cols
 all:=fun c=>⟨fun hc=>(h.opn c hc).1 (hno c hc),h.lt c⟩
 left:=by
  refine filter_congr fun i hi=> ?_;have hi':=bA.1 hi;have:=h.used i hi';cases hu:us.getD i false with
  | true=>
    have h1:=this.1 hu;simp[h1]
  | false=>
    have h1:i∉St.map Prod.fst:=fun e=>(by rw[this.2 e] at hu;exact Bool.noConfusion hu);simp;simpa using h1
 nodead:=h.nodead
theorem jB{l:List Nat}{n:Nat}(h:l.Nodup)(hl:∀x∈l,x<n):l.length<=n:=by
 induction n generalizing l with
 | zero=>
   cases l with
   | nil=>simp
   | cons x l=>exact absurd (hl x (by simp)) (Nat.not_lt_zero x)
 | succ n ih=>
   by_cases hn:n∈l
   ·have h1:=ih (h.erase n) fun x hx=>by
     have hx2:=h.mem_erase_iff.1 hx;have:=hl x hx2.2;have:=hx2.1;omega
    rw[length_erase_of_mem hn] at h1;omega
   ·have h1:=ih h fun x hx=>by
     have:=hl x hx;have:x≠n:=fun e=>hn (e▸hx);omega
    omega
def sK(op:List Bool):Nat:=(op.filter fun b=>b).length
theorem Bx{op:List Bool}{c:Nat}(h:op.getD c false=true):sK (op.set c false)<sK op:=by
 induction op generalizing c with
 | nil=>simp at h
 | cons b op ih=>
   cases c with
   | zero=>
     have hb:b=true:=h;subst hb;simp[sK]
   | succ c=>
     have:=ih (c:=c) (by simpa using h);unfold sK at this ⊢;rw[set_cons_succ,filter_cons,filter_cons];cases b <;> simp_all
theorem PlInv.count{n:Nat}{L:List (List Nat)}{op us:List Bool}{St:List (Nat×Nat)}{De:List Nat}(h:PlInv n L op us St De):St.length<=L.length/\De.length<=n:=by
 constructor
 ·have h1:(St.map Prod.fst).length<=L.length:=jB h.rows fun r hr=>by
   obtain⟨⟨r',d⟩,h5,e5⟩:=aW.1 hr;obtain⟨k,hk,h6⟩:=bC h5;have:r'=r:=e5;subst this;exact(h.step k r' d (by rw[ag hk,h6])).1
  simpa using h1
 ·exact jB (nodup_append.1 h.cols).2.1 fun r hr=>h.lt r (.inr hr)
