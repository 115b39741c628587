import Derived.Test.YtofgapdnadbgkaaGreatDoorW25
import Derived.Test.YtofgapdnadbgkaaGreatDoorW26
import Derived.Test.YtofgapdnadbgkaaGreatDoorW27
set_option linter.unusedVariables false
set_option maxRecDepth 100000
set_option maxHeartbeats 400000000
namespace Go.Proofs.YtofgapdnadbgkaaGreatDoor
open Go.RowKit _root_.Go.Proofs.Tryz
theorem fR{w:World}{P K H Z:Nat}(h:Blk w P 26 #[.int .i64 K,.int .i64 H,.int .i64 Z]):w.cell? ⟨P,0,none⟩=some (.int .i64 K)∧w.cell? ⟨P,1,none⟩=some (.int .i64 H)∧w.cell? ⟨P,2,none⟩=some (.int .i64 Z):=⟨h.cell 0,h.cell 1,h.cell 2⟩
theorem IA{K H Z:Nat}{s:Int}{L:List (Nat×List Nat)}{k:Nat}(h:k<L.length):xz K H Z s (L.take (k+1))=xz K H Z s (L.take k)++[(gq K H Z s ((L.getD k (0,[])).1:Nat),(L.getD k (0,[])).2)]:=by
 unfold xz;rw[aP h,aW,af,ag h];rfl
theorem SvSt.lt{w:World}{g gf K H Z n gv gw gm:Nat}{rest vS vD vL:Value}{F:Nat→Prop}{V W M:Nat→List Nat}(h:SvSt w g gf K H Z n gv gw gm rest vS vD vL F V W M):SvSt w g gf K H Z n gv gw gm rest vS vD vL (fun b=>F b∧b<w.heap.size) V W M:=by
 obtain⟨hs,a1,a2,a3⟩:=h.vls;exact⟨h.blk,h.fld,⟨hs,a1,a2,fun c hc=>(rN _).more (a3 c hc) fun b hb hlt=>⟨hb,hlt⟩⟩,h.way.keep rfl fun b hb hlt=>⟨rfl,hb,hlt⟩,h.mor.keep rfl fun b hb hlt=>⟨rfl,hb,hlt⟩,h.ne,fun b hb=>h.off b hb.1⟩
theorem qB{l:List (List Nat)}{i:Nat}(h:i<l.length):l.getD i []∈l:=by rw[af,ag h];exact aU _
theorem KT(K H Z N c:Nat)(s:Int)(a:Option Addr)(F:Nat→Prop)(L:List (Nat×List Nat))(mm:List (List Nat))(w:World)(hk:ed K H Z=true)(hs0:0≤s)(hs1:s<4294967296)
 (hL:(eu L).ok w F [.slice a N c])(hl:L.length=N)(hN:N≤1000)(hm:MidOK K H Z s mm)(hx:∀x∈L,x.1≤65535∧x.2=dn K H Z s mm x.1)(hf:dP K H Z s (L.map Prod.fst)=true):
 Calls prog 42 #[bL K H Z,.int .u32 s,.slice a N c] w fun e w'=>∃gv,e=.returned (.tuple #[.slice (some ⟨gv,0,none⟩) (K+H) (K+H),.int .i64 0])∧Vls w' gv (K+H) Any (fun c=>mm.getD c [])∧Below w.heap.size w w':=by
 have hok:=of_decide_eq_true hk;have hK16:K≤16:=by omega
 have hH4:H≤4:=by omega
 have hZ24:Z≤24:=by omega
 have hZ1:1≤Z:=by omega
 have hK1:1≤K:=by omega
 have HBL:=ae ((eu L).bl hL);have CL:=ae fun (id:Nat) w=>ym K H Z s id w hs0 hs1;have hb0:=(az w.heap.size w).alloc (ah _) (.cells #[.int .i64 K,.int .i64 H,.int .i64 Z] 26)
 have S0:Hid (Sx (w.alloc (.cells #[.int .i64 K,.int .i64 H,.int .i64 Z] 26)) (w.alloc (.cells #[.int .i64 K,.int .i64 H,.int .i64 Z] 26)) [bu w.heap.size 26 #[.int .i64 K,.int .i64 H,.int .i64 Z],eR (Bl w.heap.size) (.slice a N c) (eu L)]):=
  ae (((Sx.nil _).add (eR (Bl w.heap.size) (.slice a N c) (eu L)) ((eu L).new HBL.out hb0)).add (bu _ _ _) (Blk.new w _ _))
 have HBW:=ae hb0;have hs00:w.heap.size<(w.alloc (.cells #[.int .i64 K,.int .i64 H,.int .i64 Z] 26)).heap.size:=by simp
 have HLN:=ae hl;have HX:=ae hx;have HM:=ae hm;have HF:=ae hf;have HK:=ae hk;unfold bL at CL;clear hok hk hL hb0 hl hx hm hf HBL;unfold bL;go_enter func42,ntmps42;refine wp_seq_k fun K1 hK1=> ?_;have HK1:=ae hK1;clear hK1;go_wp2_with fail;refine HK1.out _ _ ?_;clear HK1;generalize w.alloc (.cells #[.int .i64 K,.int .i64 H,.int .i64 Z] 26)=w0 at*;refine zi 1 2 (by rfl) (by rfl) fun X h1 h2=> ?_;have H1:=ae h1;have H2:=ae h2;clear h1 h2;go_wp2_with fail;have HO0:Hid (OwnS w0 w0.heap.size 126 2 Any (.slice none 0 0) ((xz K H Z s (L.take 0)).map rU)):=ae (OwnS.nil _ _ _ _ _);have HB0:=ae (az w0.heap.size w0);go_loopw [8,23] (fun v i wr=>∃k:Nat,k≤N∧i=.int .i64 k∧Hid (OwnS wr w0.heap.size 126 2 Any v ((xz K H Z s (L.take k)).map rU))∧Hid (Below w0.heap.size w0 wr)) (fun _ i _=>N-(intOf i).toNat)
 case atStart=>exact⟨0,by omega,rfl,HO0,HB0⟩
 case round=>
  clear HO0 HB0;obtain⟨k,hkN,rfl,HO,HB⟩:=hrel;have S1:=ae (S0.out.step HB.out);have hw0:=HB.out.size;obtain⟨a6,n6,c6,rfl⟩:=HO.out.sl;by_cases hlt:k<N
  ·have hltI:(k:Int)<(N:Int):=by omega
   have hkl:k<L.length:=(by rw[HLN.out];exact hlt);obtain⟨b,o,a2,q2,c2,rfl,-,hb,c0,c1,hrb,-⟩:=rK (S1.out.rep 1 rfl) HLN.out hlt;have HT:Hid ((xz K H Z s (L.take (k+1))).map rU=(xz K H Z s (L.take k)).map rU++[rU (gq K H Z s ((L.getD k (0,[])).1:Nat),(L.getD k (0,[])).2)]):=ae (by rw[IA hkl,aW];rfl);have hrl:((xz K H Z s (L.take k)).map rU).length≤1000000:=(by unfold xz;rw[aG,aG,aI];omega);generalize (xz K H Z s (L.take k)).map rU=LL at*;generalize L.getD k (0,[])=x at*;have hba:=(az wr.heap.size wr).alloc (ah _) (.cells #[.int .i64 (x.1:Nat),.slice a2 q2 c2] 42);have hKB:=Blk.new wr 42 #[.int .i64 (x.1:Nat),.slice a2 q2 c2];have S2:=ae ((S1.out.step hba).add (bu _ _ _) hKB);have HO1:=ae (HO.out.new hba);have HB1:=ae (HB.out.trans (hba.mono hw0));have HRD:=ae ((rB x.2).new hrb hba);have hw01:w0.heap.size≤(wr.alloc (.cells #[.int .i64 (x.1:Nat),.slice a2 q2 c2] 42)).heap.size:=aQ hw0 hba.size;have CLx:=ae (CL.out x.1);clear hba hKB hrb S1 HO HB hkl;go_upto_region 5 with fail;clear c0 c1;generalize hGB:wr.heap.size=GB at*;clear hGB;generalize wr.alloc (.cells #[.int .i64 (x.1:Nat),.slice a2 q2 c2] 42)=wa at*;obtain⟨p0,p1,p2⟩:=fR (S2.out.blk 1 rfl);have i0:=(S2.out.blk 0 rfl).cell 0;have i1:=(S2.out.blk 0 rfl).cell 1
   go_region_held3 (fun w'=>(w'.cell? ⟨w.heap.size,0,none⟩=some (.int .i64 K)∧w'.cell? ⟨w.heap.size,1,none⟩=some (.int .i64 H)∧w'.cell? ⟨w.heap.size,2,none⟩=some (.int .i64 Z))∧w'.cell? ⟨GB,0,none⟩=some (.int .i64 (x.1:Nat))∧w'.cell? ⟨GB,1,none⟩=some (.slice a2 q2 c2)) (go_keep) (first
    | (go_at_call 43
       refine(CLx.out _).mono ?_;rintro e w2 ⟨v,rfl,hO,hb2⟩;have hB2:Below wa.heap.size wa w2:=(az wa.heap.size wa).drew.trans hb2;have S3:=ae (S2.out.step hB2);obtain⟨m0,m1,m2⟩:=fR (S3.out.blk 1 rfl);have j0:=(S3.out.blk 0 rfl).cell 0;have j1:=(S3.out.blk 0 rfl).cell 1;obtain⟨av,cv,rfl⟩:=hO.lenA;have HO2:=ae (HO1.out.new hB2);have HB2:=ae (HB1.out.trans (hB2.mono hw01));have hw02:w0.heap.size≤w2.heap.size:=aQ hw01 hB2.size
       have HR2:Hid ((rU (gq K H Z s (x.1:Nat),x.2)).ok w2 (fun b=>Any b∧some b≠(Value.slice a6 n6 c6).ownBlock) [.slice av (gq K H Z s (x.1:Nat)).length cv,.slice a2 q2 c2]):=ae (HO1.out.off (G:=fun b=>b<w0.heap.size∨wa.heap.size≤b)
        (nJ ((rI _).more (gI hO) fun b hb _=>.inr hb) ((rB _).more ((rB _).new HRD.out hB2) fun b hb _=>.inl (Nat.lt_trans hb hs00))) fun b hb=>⟨trivial,hb⟩)
       have hGBne:some GB≠(Value.slice a6 n6 c6).ownBlock:=HO2.out.ty (S3.out.blk 0 rfl) (by decide);have hGBl:GB<w2.heap.size:=(S3.out.blk 0 rfl).lt;clear hO hb2 hB2)
    | (change (if _=true then Oper.wp _ (Oper.mk (some 37) _ _ _ _ _) _ _ _ _ else _)
       refine qq (w:=w2) rfl _ _ rfl underlying124 D5 rfl (by decide) (by decide) HO2.out hw02 hrl (R:=rU (gq K H Z s (x.1:Nat),x.2)) HR2.out rfl rfl rfl ?_;intro v6 w6 hO6 hb6 hs6 hk6 hat6;rw[←HT.out] at hO6;have HO6:=ae hO6;have HB6:=ae (HB2.out.trans hb6);have r0:=(hb6.cell (p:=⟨w.heap.size,0,none⟩) hs00).trans m0;have r1:=(hb6.cell (p:=⟨w.heap.size,1,none⟩) hs00).trans m1;have r2:=(hb6.cell (p:=⟨w.heap.size,2,none⟩) hs00).trans m2;have r3:=(World.cell?_of_block (a:=⟨GB,0,none⟩) (hk6 GB hGBl hGBne)).trans j0;have r4:=(World.cell?_of_block (a:=⟨GB,1,none⟩) (hk6 GB hGBl hGBne)).trans j1;clear hO6 hb6 hs6 hk6 hat6))
   all_goals(
    go_wp2_with fail;go_roundw
    case rel=>(try((repeat apply Exists.intro);refine⟨?_,rfl⟩));exact⟨k+1,by omega,by go_num,HO6,HB6⟩
    case measure=>simp[intOf];omega)
  ·obtain rfl:k=N:=by omega
   rw[aO (by rw[HLN.out];exact ah _)] at HO;have hEl:(xz K H Z s L).length=k:=(by unfold xz;rw[aG];exact HLN.out);obtain⟨hn6,-⟩:=HO.out.len;rw[aG,hEl] at hn6;subst hn6;have hmmB:∀c,c<K+H→Byt Z (mm.getD c []):=fun c h=>HM.out.row h
   have HEP:Hid (uU (K+H) Z (fun c=>mm.getD c []) (xz K H Z s L)∧∀x∈xz K H Z s L,x.1.Pairwise (·< ·)):=ae (by
    refine⟨fun x hx=> ?_,fun x hx=> ?_⟩
    ·obtain⟨y,hy,rfl⟩:=List.mem_map.1 hx
     obtain⟨c1,c2⟩:=ku (s:=s) (id:=(y.1:Nat)) HK.out;refine⟨?_,c1,(HX.out y hy).2⟩;have:=iW (lG c2) c1;show(gq K H Z s (y.1:Nat)).length≤64;omega
    ·obtain⟨y,hy,rfl⟩:=List.mem_map.1 hx
     exact(ku (s:=s) (id:=(y.1:Nat)) HK.out).2)
   have HEL:=ae hEl;have HMB:=ae hmmB;obtain⟨E,hE⟩:∃E,E=xz K H Z s L:=⟨_,rfl⟩;rw[←hE] at HEP HEL HO;have HEE:=ae hE;clear hE hEl hmmB;rename World=>wl;obtain⟨p0,p1,p2⟩:=fR (S1.out.blk 0 rfl);go_upto_region 7 with fail;go_cut [11] (fun v wx=>∃g gf,v=.pointer (some ⟨g,0,none⟩)∧Hid (Blk wx g 132 (svC gf K H Z (.slice none 0 0) (.slice none 0 0) (.slice none 0 0) (.slice none 0 0) (.slice none 0 0) (.slice none 0 0) (.slice none 0 0))∧Fld wx gf∧wl.heap.size≤g∧wl.heap.size≤gf∧Below wl.heap.size wl wx))
   case first=>
    go_region_held3 (fun w'=>w'.cell? ⟨w.heap.size,0,none⟩=some (.int .i64 K)∧w'.cell? ⟨w.heap.size,1,none⟩=some (.int .i64 H)∧w'.cell? ⟨w.heap.size,2,none⟩=some (.int .i64 Z)) (go_keep) (first
     | (go_at_call 28
        refine(ou _).mono ?_;rintro e wA ⟨gf,rfl,hg,hF,hb⟩;have hbA:Below wl.heap.size wl wA:=(az wl.heap.size wl).drew.trans hb;obtain⟨n0,n1,n2⟩:=fR ((S1.out.step hbA).blk 0 rfl);have HFA:=ae hF;have hgA:wl.heap.size≤gf:=hg;have HBA:=ae hbA;clear hF hb hbA hg))
    all_goals(
     go_wp2_with fail;go_meet;exact⟨wA.heap.size,gf,rfl,ae ⟨Blk.new wA _ _,Blk.below (t:=119) HFA.out ((az _ _).alloc (ah _) _) (Blk.lt (t:=119) HFA.out),HBA.out.size,hgA,HBA.out.alloc HBA.out.size _⟩⟩)
   case rest=>
    obtain⟨g,gf,rfl,HG⟩:=hcut;obtain⟨hG0,hF0,hgl,hgfl,hbc⟩:=HG.out;have S2:=ae (((S1.out.step hbc).add (bu gf 119 oI) hF0).add (bu g _ _) hG0);have HO2:=ae (HO.out.new hbc);have hsc:=hbc.size;have HBc:=ae (HB.out.trans (hbc.mono hw0));obtain⟨q0,q1,q2⟩:=fR (S2.out.blk 2 rfl);obtain⟨n,hn⟩:∃n,n=K+H:=⟨_,rfl⟩;have hcol:gV K H Z=(n:Int):=(by unfold gV;rw[if_pos HK.out,hn,Int.natCast_add]);have CP:=ae (fun W=>lU K H Z W);unfold bL at CP;rw[hcol] at CP;have hn64:n≤64:=(by omega);have HMB2:Hid (∀c,c<n→Byt Z (mm.getD c [])):=(by rw[hn];exact HMB);have HEP2:Hid (uU n Z (fun c=>mm.getD c []) E∧∀x∈E,x.1.Pairwise (·< ·)):=(by rw[hn];exact HEP);have HN:=ae hn;clear hG0 hF0 hbc HG HO HB S1 p0 p1 p2 HMB HEP hcol hn;go_wp2_with fail;refine(CP.out _).mono ?_;rintro e w4 ⟨rfl,hb4⟩;have S3:=ae (S2.out.step hb4);have HO3:=ae (HO2.out.new hb4);have hs4:=hb4.size;have HB4:=ae (HBc.out.trans (hb4.mono (by omega)));have CQ:=ae (FM n k Z a6 c6 _ (fun c=>mm.getD c []) E w4 HO3.out.rep HEL.out (by omega) (by omega) hZ1 (by omega) (fun c h=>HMB2.out c h) HEP2.out.1 (fun x hx=>JX (HEP2.out.2 x hx)));clear hb4 CP S2 HO2 HBc q0 q1 q2;go_wp2_with fail;refine CQ.out.mono ?_;rintro e w5 ⟨gp,gk,gv,C1,v,kn,vl,rfl,hPS,hCo,hlo,hhi,hRo,hb5⟩;have S4:=ae (S3.out.step hb5);have hgw4:g<w4.heap.size:=(S3.out.blk 0 rfl).lt;have hs5:=hb5.size;have B5:Below w.heap.size w w5:=(HBW.out.trans (HB4.out.mono (by omega))).trans (hb5.mono (by omega));obtain⟨aR,NR,cR,rfl⟩:=hRo.sl;have hNR:=hRo.len.1;rw[aG] at hNR;have hNRk:NR≤k:=(by rw[←hNR,←HEL.out];exact zO);have hRC:=GG (kn:=kn) HEP2.out.1 HEP2.out.2 HMB2.out;obtain⟨rest,hrest⟩:∃rest,rest=fe kn (fun c=>mm.getD c []) Z E:=⟨_,rfl⟩;rw[←hrest] at hRo hNR hRC;obtain⟨hs,v1,v2,v3⟩:=hPS.hs;obtain⟨ne1,ne2,ne3⟩:=hPS.ne;have hG5:=S4.out.blk 0 rfl;have hF5:Fld w5 gf:=S4.out.blk 1 rfl;have hG6:Blk ((w5.setCell ⟨g,4,none⟩ (.slice (some ⟨gv,0,none⟩) n n)).setCell ⟨g,5,none⟩ (.slice aR NR cR)) g 132 (svC gf K H Z (.slice (some ⟨gv,0,none⟩) n n) (.slice aR NR cR) (.slice none 0 0) (.slice none 0 0) (.slice none 0 0) (.slice none 0 0) (.slice none 0 0)):=(hG5.set 4 _).set 5 _;have far6:∀b,b≠g→((w5.setCell ⟨g,4,none⟩ (.slice (some ⟨gv,0,none⟩) n n)).setCell ⟨g,5,none⟩ (.slice aR NR cR)).heap[b]? =w5.heap[b]? :=fun b hb=>(aZ _ _ _ _ hb).trans (aZ _ _ _ _ hb);have hF6:Fld ((w5.setCell ⟨g,4,none⟩ (.slice (some ⟨gv,0,none⟩) n n)).setCell ⟨g,5,none⟩ (.slice aR NR cR)) gf:=(far6 gf (Blk.ne (t:=119) hF5 hG5 (by decide))).trans hF5
    have hR6:(eM rest).ok ((w5.setCell ⟨g,4,none⟩ (.slice (some ⟨gv,0,none⟩) n n)).setCell ⟨g,5,none⟩ (.slice aR NR cR)) (fun b=>b≠g∧b≠gv) [.slice aR NR cR]:=(eM rest).keep hRo.fr fun b hb _=>by
     have hb':C1≤b:=hb;exact⟨far6 b (by omega),by omega,by omega⟩
    have hk6:Rd ((w5.setCell ⟨g,4,none⟩ (.slice (some ⟨gv,0,none⟩) n n)).setCell ⟨g,5,none⟩ (.slice aR NR cR)) ((w5.setCell ⟨g,4,none⟩ (.slice (some ⟨gv,0,none⟩) n n)).setCell ⟨g,5,none⟩ (.slice aR NR cR)).heap.size (some ⟨gk,0,none⟩) n (bJ kn):=by
     have hb:Blk ((w5.setCell ⟨g,4,none⟩ (.slice (some ⟨gv,0,none⟩) n n)).setCell ⟨g,5,none⟩ (.slice aR NR cR)) gk 4 (bJ kn).toArray:=(far6 gk (by omega)).trans hPS.knb;exact⟨by rw[kV];exact hPS.kl,fun _=>⟨gk,0,rfl,hb.lt,fun i u hu=>by rw[Nat.zero_add,hb.cell i];simpa using hu⟩⟩
    have hV6:∃hs:List Value,Blk ((w5.setCell ⟨g,4,none⟩ (.slice (some ⟨gv,0,none⟩) n n)).setCell ⟨g,5,none⟩ (.slice aR NR cR)) gv 23 hs.toArray∧hs.length=n∧∀c,c<n→(rN (vl.getD c [])).ok ((w5.setCell ⟨g,4,none⟩ (.slice (some ⟨gv,0,none⟩) n n)).setCell ⟨g,5,none⟩ (.slice aR NR cR)) (fun b=>b≠g∧b≠gv) [hs.getD c undef]:=
     ⟨hs,(far6 gv (by omega)).trans v1,v2,fun c hc=>(rN _).keep (NB (v3 c hc) hG5 (fun q=>by unfold svC;simp)) fun b hb _=>⟨far6 b hb.2,hb.2,hb.1.2.2⟩⟩
    have B6:=(B5.setCell (p:=⟨g,4,none⟩) (by show w.heap.size≤g;omega) (.slice (some ⟨gv,0,none⟩) n n)).setCell (p:=⟨g,5,none⟩) (by show w.heap.size≤g;omega) (.slice aR NR cR);have hs6:((w5.setCell ⟨g,4,none⟩ (.slice (some ⟨gv,0,none⟩) n n)).setCell ⟨g,5,none⟩ (.slice aR NR cR)).heap.size=w5.heap.size:=(by simp);have CO:=ae (FC g gf K H Z n NR cR n aR (some ⟨gk,0,none⟩) (.slice (some ⟨gv,0,none⟩) n n) (.slice none 0 0) (.slice none 0 0) (.slice none 0 0) (.slice none 0 0) (.slice none 0 0) _ kn rest _ hG6 hR6 (fun b hb=>hb.1) hk6 (fun p e=>by cases e;show gk≠g;omega) hNR (by omega) (by omega) (fun x hx=>⟨(hRC x hx).1,(hRC x hx).2.1,(hRC x hx).2.2.2⟩));have g4:=hG5.cell 4;have g5:=hG5.cell 5;have y4:=hG5.frozen 4;have y5:=hG5.frozen 5;unfold svC at g4 g5;have HF6:=ae hF6;have HR6:=ae hR6;have HV6:=ae hV6;have HB6:=ae B6;have HS6:=ae hs6;have HNR:=ae hNR;have HRC:=ae hRC;have HRS:=ae hrest;have HCO:=ae hCo;have hgvg:gv≠g:=(by omega);have hgw:w.heap.size≤g∧w.heap.size≤gv∧g<w5.heap.size∧gv<w5.heap.size∧gf<w5.heap.size∧gf≠g:=⟨by omega,by omega,by omega,v1.lt,Blk.lt (t:=119) hF5,Blk.ne (t:=119) hF5 hG5 (by decide)⟩;have HGV:=ae hgvg;have HGW:=ae hgw;clear hG6 far6 hF6 hR6 hk6 hV6 B6 hs6 hG5 hF5 hPS hRo v1 v2 v3 hRC hNR hrest hCo hb5 B5 CQ S3 HO3 S4 HB4 hlo hhi ne1 ne2 ne3 hgvg hgw;go_upto_region 12 with fail;clear g4 g5 y4 y5;generalize (w5.setCell ⟨g,4,none⟩ (.slice (some ⟨gv,0,none⟩) n n)).setCell ⟨g,5,none⟩ (.slice aR NR cR)=w6 at*;go_wp2_with fail;refine CO.out.mono ?_;rintro e w7 ⟨rfl,vS,vD,vL,St0,De,Le0,hP,hT7,hD7,hL7,hG7,hb67,hk7⟩;obtain⟨hgv,⟨u1,u2,u3,u4,u5,u6⟩⟩:=And.intro HGV.out HGW.out;have hs6:=HS6.out;have hpl:=JY hP
    have hlenL:(rest.map Prod.fst++bT n fun c=>kn.getD c false).length≤1100:=by
     have:=lK n fun c=>kn.getD c false;rw[aJ,aG,HNR.out];omega
    obtain⟨St,hSt⟩:∃St,St=St0.filter fun s=> !decide (NR≤s.1):=⟨_,rfl⟩;obtain⟨Le,hLe⟩:∃Le,Le=Le0.filter fun i=> !decide (NR≤i):=⟨_,rfl⟩;rw[←hSt] at hT7;rw[←hLe] at hL7
    have hSl:St.length≤2000:=by
     have:=List.length_filter_le (fun s:Nat×Nat=> !decide (NR≤s.1)) St0;rw[hSt];omega
    have hLn:Le.Nodup:=by rw[hLe];exact hpl.2.2.filter _
    have ML:=KD (D:=De.length) (W:=fT (fun c=>vl.getD c []) (fun _=>List.replicate De.length 0) (bX (rest.map Prod.fst) (fun _=>List.replicate De.length 0) (gF (dI De.length) De De.length) St) (K+H))
     (M:=fT (fun c=>vl.getD c []) (fun c=>vl.getD c []) (bX (rest.map Prod.fst) (fun r=>(rest.getD r ([],[])).2) (gF (fun _=>List.replicate Z 0) De De.length) St) (K+H)) (V:=fun c=>vl.getD c []) (z:=fun r=>(rest.getD r ([],[])).2) (St:=St) (Le:=Le) (De:=De) (rest:=rest) (kn:=kn) (vl:=vl)
     HK.out HM.out HX.out (by rw[←HN.out];exact HCO.out) (by rw[HRS.out,HEE.out]) (by rw[←HN.out];exact hP) HF.out rfl (by rw[HNR.out];exact hSt) (by rw[HNR.out];exact hLe) rfl rfl rfl rfl
    rw[←HN.out] at ML;obtain⟨m1,m2,m3,m4,m5,m6,m7,m8,m9,m10⟩:=ML
    have hLl:Le.length≤1000:=by
     have:=iW hLn m4;rw[HNR.out] at this;omega
    have hDl:De.length≤64:=(by omega);obtain⟨aT,cT,rfl,-⟩:=bV hT7;obtain⟨aD,cD,rfl⟩:=hD7.lenA;obtain⟨aL,cL,rfl⟩:=hL7.lenA;have hF7:Fld w7 gf:=(hk7 gf (by omega) u6).trans HF6.out;have hR7:=(eM rest).keep HR6.out fun b hb hlt=>⟨hk7 b hlt hb.1,hb⟩
    have hV7:∃hs:List Value,Blk w7 gv 23 hs.toArray∧hs.length=n∧∀c,c<n→(rN (vl.getD c [])).ok w7 (fun b=>b≠g∧b≠gv) [hs.getD c undef]:=by
     obtain⟨hs,a1,a2,a3⟩:=HV6.out;exact⟨hs,(hk7 gv a1.lt hgv).trans a1,a2,fun c hc=>(rN _).keep (a3 c hc) fun b hb hlt=>⟨hk7 b hlt hb.1,hb⟩⟩
    have hT7r:=(rS 2 (St.map gU)).more (G:=fun b=>b≠g∧b≠gv) (Ho hT7) fun b hb _=>by
     have hb':w6.heap.size≤b:=hb;exact⟨by omega,by omega⟩
    have hD7r:=(rI De).more (G:=fun b=>b≠g∧b≠gv) (gI hD7) fun b hb _=>by
     have hb':w6.heap.size≤b:=hb;exact⟨by omega,by omega⟩
    have hL7r:=(rI Le).more (G:=fun b=>b≠g∧b≠gv) (gI hL7) fun b hb _=>by
     have hb':w6.heap.size≤b:=hb;exact⟨by omega,by omega⟩
    have hs7:=hb67.size;have B7:=qd HB6.out hb67 fun b hb=>hk7 b (by omega) (by omega);have CPL:=ae (GQ g gf K H Z n gv NR cR De.length cD St.length cT aR aD aT (.slice aL Le.length cL) (.slice none 0 0) (.slice none 0 0) _ (fun c=>vl.getD c []) rest St De w7 hG7 hF7 hV7 hR7 hT7r hD7r (fun b hb=>hb) HNR.out rfl rfl (by omega) hSl hn64 hDl hZ1 (by omega) m1 m3 m2 (fun x hx=>⟨(HRC.out x hx).1,(HRC.out x hx).2.1,(HRC.out x hx).2.2.1⟩));have HR7:=ae hR7;have HL7:=ae hL7r;have HB7:=ae B7;have M4:=ae m4;have M6:=ae m6;have M7:=ae m7;have M8:=ae m8;have M9:=ae m9;have M10:=ae m10;have M5:=ae m5;have M2:=ae m2;have HDe:=ae (rfl:De.length=De.length);obtain⟨D,hD⟩:∃D,De.length=D:=⟨_,rfl⟩;obtain⟨T,hT⟩:∃T,St.length=T:=⟨_,rfl⟩;obtain⟨NL,hNL⟩:∃NL,Le.length=NL:=⟨_,rfl⟩;rw[hD] at CPL M7 M8 M9 M10 hDl;rw[hT] at CPL;rw[hNL] at CPL hLl;have HDL:=ae hD;have HNL:=ae hNL;clear hP hT7 hD7 hL7 hG7 hb67 hpl hlenL hSt hLe hLn m1 m2 m3 m4 m5 m6 m7 m8 m9 m10 hF7 hR7 hV7 hT7r hD7r hL7r B7 HF6 HR6 HV6 HB6 CO HRS HS6 hk7 hD hT hNL HDe;go_wp2_with fail;refine CPL.out.mono ?_;rintro e w8 ⟨rfl,gw,gm,hgw,hgm,hS8,hs78,hk8,hb78⟩;have B8:=qd HB7.out hb78 fun b hb=>hk8 b (by omega) (by omega);have CFI:=ae (JV g gf K H Z n gv gw gm D cD aD _ _ _ _ _ _ _ w8 hS8 (by omega) (by omega) fun b hb=>.inr (by omega));have HK8:=ae hk8;have HB8:=ae B8;clear hS8 hk8 B8 hb78 CPL HB7;go_wp2_with fail;refine CFI.out.mono ?_;rintro e w9 ⟨rfl,hS9,hk9⟩;have hs9:=hk9.1.size;have B9:=qd HB8.out hk9.1 fun b hb=>hk9.2 b (by omega) (by omega) (by omega);have hR9:=(eM rest).keep (G:=Any) HR7.out fun b hb hlt=>⟨(hk9.2 b (by omega) (by omega) (by omega)).trans (HK8.out b hlt hb.1),trivial⟩;have hL9:=(rI Le).keep (G:=Any) HL7.out fun b hb hlt=>⟨(hk9.2 b (by omega) (by omega) (by omega)).trans (HK8.out b hlt hb.1),trivial⟩;rw[HNL.out] at hL9;have CDE:=ae (GJ g gf K H Z n gv gw gm NR cR D cD NL cL aR aD aL _ _ _ _ _ rest Le w9 hS9 hR9 hL9 HNR.out HNL.out (by omega) hLl hDl HK.out HN.out (fun i hi=>by have:=M4.out i hi;rw[HNR.out] at this;exact this) (fun x hx=>⟨(HRC.out x hx).1,(HRC.out x hx).2.1,(HRC.out x hx).2.2.1⟩) M7.out);have HS9:=ae hS9;have HB9:=ae B9;clear hS9 hk9 B9 hR9 hL9 CFI HB8 HK8 HR7 HL7;go_wp2_with fail;refine CDE.out.mono ?_;rintro e w10 ⟨va,vb,rfl,hTw,hb10⟩;have hs10:=hb10.size;have hS10:=HS9.out.new hb10;have B10:=HB9.out.trans (hb10.mono (by omega));obtain⟨aA,nA,cA,rfl⟩:=hTw.oa.sl;obtain⟨aB,nB,cB,rfl⟩:=hTw.ob.sl;obtain⟨wA,wB,lA,lB⟩:=NC (K:=K) (H:=H) (D:=D) (Z:=Z) HN.out M5.out (fun r hr=>M6.out r (M4.out r hr)) M7.out
    have hnA:=hTw.oa.len.1;have hnB:=hTw.ob.len.1;rw[aG,lA,HNL.out] at hnA;rw[aG,lB,HNL.out] at hnB;rw[HNL.out] at lA lB;obtain⟨a',c',e1,hRA,-⟩:=dS (M:=rE K H D (rest.map Prod.fst) _ Le) hTw.oa.rep (lA.trans hnA);injection e1 with e1 _ e3;subst e1 e3;have hRBr:(rM (vF K H Z (rest.map Prod.fst) (fun r=>(rest.getD r ([],[])).2) _ Le)).ok w10 _ [.slice aB nB cB]:=hTw.ob.rep;obtain⟨a',c',e1,hRB,-⟩:=dS hRBr (lB.trans hnB);injection e1 with e1 _ e3;subst e1 e3
    have CPUT:=ae (fun (W:World) (aX:Option Addr) (cX:Nat) (hW:Below w10.heap.size w10 W) (hX':(rM (De.map fun c=>mm.getD c [])).ok W (fun b=>b≠gv) [.slice aX D cX])=>
     (KF g gf K H Z n gv gw gm D cX aX _ _ _ _ _ _ _ _ (fun c=>mm.getD c []) (De.map fun c=>mm.getD c []) W (hS10.new hW).lt (fun b hb=>hb.2) hX' (by rw[aG];exact HDL.out) (fun r hr=>by
       obtain⟨c,hc,rfl⟩:=List.mem_map.1 hr
       exact HMB2.out c (M2.out c hc)) hn64 hDl hZ1 (by omega) M7.out (fun c hc=>⟨M10.out c hc,fun hne=>by
        cases hkc:kn.getD c false with
        | true=>exact(HCO.out c hc).1 hkc
        | false=>exact absurd ((HCO.out c hc).2 hkc) hne⟩) (fun c hc e=>by
       have h1:=(HMB2.out c hc).1;rw[e] at h1;simp at h1;omega)).mono fun e w' (h:e=.returned (.tuple #[])∧Vls w' gv n _ (fun c=>mm.getD c [])∧Kept2 W w' gv gv)=>
     (by
       obtain⟨h1,h2,h3⟩:=h;have hlt:=(hS10.new hW).blk.lt;have hsW:=hW.size;refine⟨h1,?_,Vls.more h2 fun _ _=>trivial,qd (B10.trans (hW.mono (by omega))) h3.1 fun b hb=>h3.2 b (by omega) (by omega) (by omega)⟩;have e4:=(hS10.new hW).blk.cell 4;exact(World.cell?_of_block (a:=⟨g,4,none⟩) (h3.2 g hlt (fun e=>hgv e.symm) (fun e=>hgv e.symm))).trans e4:e=.returned (.tuple #[])∧w'.cell? ⟨g,4,none⟩=some (.slice (some ⟨gv,0,none⟩) n n)∧Vls w' gv n Any (fun c=>mm.getD c [])∧Below w.heap.size w w'))
    have p7:=hS10.blk.cell 7;have p0:=hS10.blk.cell 0;unfold svC at p7 p0;have HF10:=ae (Fp.of hS10.fld);have HRA:=ae hRA;have HRB:=ae hRB;have WA:=ae wA;have WB:=ae wB;have LB:=ae (lB.trans hnB);have HDI:=ae hn64;clear hTw hb10 hS10 B10 wA wB lA lB hRA hRB hRBr CDE HS9 HB9 HCO HRC M4 M5 M6;by_cases hD0:D=0
    ·have hdI:((D:Int) == 0)=true:=by rw[hD0];rfl
     have CPN:=ae (fun (W:World) (hW:Below w10.heap.size w10 W)=>CPUT.out W none 0 hW (by
      have e:De.map (fun c=>mm.getD c [])=[]:=by
       rw[List.map_eq_nil_iff];exact List.eq_nil_of_length_eq_zero (by rw[HDL.out];exact hD0)
      rw[e,hD0];exact⟨none,0,0,rfl,ah _,Nat.zero_le _,fun _=>rfl,rfl,[],rfl,fun h=>absurd h (by decide),fun i R h=>by simp at h⟩))
     rw[hD0] at CPN;have HZ0:=ae (M9.out hD0);clear CPUT M8 M10 HRA WA HF10 M9 M7;go_wp2_with fail;refine wp_goto ?_;refine H1.out _ _ ?_;clear p7 p0 hdI;have HB0:=ae (az w10.heap.size w10);go_wp2_with fail;go_loopw [95] (fun i wr=>∃q:Nat,q≤nB∧i=.int .i64 q∧Hid (Below w10.heap.size w10 wr)) (fun i _=>nB-(intOf i).toNat)
     case atStart=>exact⟨0,by omega,rfl,HB0⟩
     case round=>
      clear HB0;obtain⟨q,hqn,rfl,HBq⟩:=hrel;by_cases hlq:q<nB
      ·have hlqI:(q:Int)<(nB:Int):=by omega
       obtain⟨br,or,a8,c8,rfl,hbr,hc8,hr8,-,hq1,hq2⟩:=(HRB.out.below HBq.out (ah _)).at hlq;have hrow:=HZ0.out _ (qB (l:=vF K H Z (rest.map Prod.fst) (fun r=>(rest.getD r ([],[])).2) _ Le) (i:=q) (by rw[LB.out];exact hlq));rw[hrow,aN] at hc8 hr8 hq1;have CT:=ae (ut Z c8 _ a8 wr hr8 hq1 hq2);clear hr8 hrow hq1 hq2;go_wp2_with fail;refine CT.out.mono ?_;rintro e w11 ⟨rfl,j,hj⟩;have HB11:Hid (Below w10.heap.size w10 w11):=ae (by rw[hj];exact below_drewN HBq.out j);clear hj CT HBq hc8;go_wp2_with fail;go_roundw
       case rel=>(try((repeat apply Exists.intro);refine⟨?_,rfl⟩));exact⟨q+1,by omega,by go_num,HB11⟩
       case measure=>simp[intOf];omega
      ·have CP1:=ae (CPN.out wr HBq.out)
       clear CPN HRB HZ0 HBq;go_wp2_with fail;refine wp_label ?_;go_wp2_with fail;refine CP1.out.mono ?_;rintro e w12 ⟨rfl,c4,hV,hB⟩;have HV:=ae hV;have HBE:=ae hB;clear hV hB CP1;go_wp2_with fail;simp only[cE];go_ret2;have hn:=HN.out;subst hn;exact⟨gv,rfl,HV.out,HBE.out⟩
    ·have hdI:((D:Int) == 0)=false:=by rw[beq_eq_false_iff_ne];omega
     obtain⟨r1,r2⟩:=M8.out (by omega);have hH1:1≤H:=(by have:=of_decide_eq_true HK.out;omega);have CS:=wF (some ⟨gf,0,none⟩) D Z nA cA cB _ _ aA aB w10 HF10.out HRA.out (by have h:=HRB.out;rw[←hnB,hnA] at h;exact h) WA.out WB.out hDl (by omega) (by omega) (by omega);rw[r1,r2] at CS;have hnn:nB=nA:=(by omega);subst hnn;have CS:=ae CS;clear r1 r2 M8 M9 M10 M7 HRA HRB WA WB HF10 LB;go_wp2_with fail;refine CS.out.mono ?_;rintro e w11 ⟨v,rfl,hMO,hb11⟩;have hrm:=Ct hMO;obtain⟨aX,cX,rfl,-⟩:=Jv hrm;rw[aG,aG,HDL.out] at hrm
     have CP1:=ae (CPUT.out w11 aX cX hb11 ((rM _).more hrm fun b hb _=>by
      have hb':w10.heap.size≤b:=hb;omega))
     have HEX:Hid ((List.map rB (De.map fun c=>mm.getD c [])).length=D):=ae (by rw[aG,aG];exact HDL.out);rw[HEX.out];clear hMO hb11 hrm CPUT CS;go_wp2_with fail;refine wp_goto ?_;refine H2.out _ _ ?_;go_wp2_with fail;refine CP1.out.mono ?_;rintro e w12 ⟨rfl,c4,hV,hB⟩;have HV:=ae hV;have HBE:=ae hB;clear hV hB CP1 p7 p0;go_wp2_with fail;simp only[cE];go_ret2;have hn:=HN.out;subst hn;exact⟨gv,rfl,HV.out,HBE.out⟩
end Go.Proofs.YtofgapdnadbgkaaGreatDoor
