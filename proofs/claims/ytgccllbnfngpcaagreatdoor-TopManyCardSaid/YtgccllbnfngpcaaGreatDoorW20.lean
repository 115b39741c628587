import Derived.Test.YtgccllbnfngpcaaGreatDoorW19
import Derived.Laws.FloatArith
import Derived.Laws.ComplexArith
set_option linter.unusedVariables false
set_option maxRecDepth 100000
set_option maxHeartbeats 400000000
namespace Go.Proofs.YtgccllbnfngpcaaGreatDoor
open Go.RowKit _root_.Go.Proofs.Tryz List
open Value (int slice pointer bool)
open IntKind (i64)
open Ending (returned)
open Obj (cells)
theorem Gt(m:cQ)(a1:Option Addr)(n1 c1:Nat)(F:Nat->Prop)(w:World)(hd:(rI m.drives).ok w F [slice a1 n1 c1])(hdl:m.drives.length=n1)(hn:n1<=1000):
 Calls prog 49 #[.agg (cH m (slice a1 n1 c1) (slice none 0 0))] w fun e w'=>∃v,e=returned (.agg (cH m v (slice none 0 0)))/\OwnI w' w.heap.size v m.drives/\Below w.heap.size w w':=by
 have CC:=ae fun w (h:(rI m.drives).ok w F [slice a1 n1 c1])=>lM m.drives F a1 n1 c1 w h hdl (by omega);have CE:=ae fun w=>wW w;obtain⟨w0,hw0⟩:∃w0,w0=(w.alloc (cells #[int i64 m.seq,int i64 m.next,int i64 m.K,int i64 m.H,int i64 m.Z,int i64 m.extra,slice a1 n1 c1,slice none 0 0] 68)).alloc (cells #[int i64 0,int i64 0,int i64 0,int i64 0,int i64 0,int i64 0,slice none 0 0,slice none 0 0] 68):=⟨_,rfl⟩;have hsz1:(w.alloc (cells #[int i64 m.seq,int i64 m.next,int i64 m.K,int i64 m.H,int i64 m.Z,int i64 m.extra,slice a1 n1 c1,slice none 0 0] 68)).heap.size=w.heap.size+1:=by simp
 have HX0:Hid (Blk w0 w.heap.size 68 #[int i64 m.seq,int i64 m.next,int i64 m.K,int i64 m.H,int i64 m.Z,int i64 m.extra,slice a1 n1 c1,slice none 0 0]):=ae (by rw[hw0];exact(Blk.new w _ _).alloc _);have HZ0:Hid (Blk w0 (w.heap.size+1) 68 #[int i64 0,int i64 0,int i64 0,int i64 0,int i64 0,int i64 0,slice none 0 0,slice none 0 0]):=ae (by rw[hw0,<-hsz1];exact Blk.new _ _ _);have HB0:Hid (Below w.heap.size w w0):=ae (by rw[hw0];exact((az _ _).alloc (ah _) _).alloc (by simp) _);have HD0:=ae ((rI _).new hd HB0.out);have HW0:=ae hw0;unfold cH;clear hd hdl hn hw0 hsz1;go_enter func49,ntmps49;go_upto_region 1 with fail;rw[<-HW0.out];have hGs:w.heap.size<w0.heap.size:=HX0.out.lt;clear HW0;obtain⟨G,hG⟩:∃G,G=w.heap.size:=⟨_,rfl⟩;rw[<-hG] at HX0 HZ0 hGs ⊢;have c6:w0.cell? ⟨G,6,none⟩=some (slice a1 n1 c1):=HX0.out.cell 6;have c7:w0.cell? ⟨G,7,none⟩=some (slice none 0 0):=HX0.out.cell 7;have HG:=ae hG;clear hG;go_cut [] (fun wx=>∃v,Hid (OwnI wx w0.heap.size v m.drives)/\Hid (Blk wx G 68 #[int i64 m.seq,int i64 m.next,int i64 m.K,int i64 m.H,int i64 m.Z,int i64 m.extra,v,slice none 0 0])/\Hid (Blk wx (G+1) 68 #[int i64 0,int i64 0,int i64 0,int i64 0,int i64 0,int i64 0,slice none 0 0,slice none 0 0])/\Hid (Below G w0 wx))
 case first=>
  go_region_law (first
   | (go_simp
      go_at_call 99;refine(CC.out w0.drew HD0.out).mono ?_;rintro e w3 ⟨v3,rfl,ho,hb⟩;replace hb:=bR hb;have HX3:=ae (HX0.out.below hb HX0.out.lt);have HZ3:=ae (HZ0.out.below hb HZ0.out.lt);have HB3:Hid (Below G w0 w3):=ae (hb.mono (by omega));have HO3:Hid (OwnI w3 w0.heap.size v3 m.drives):=ae ho;obtain⟨a3,n3,c3,rfl⟩:=HO3.out.sl;have c6':w3.cell? ⟨G,6,none⟩=some (slice a1 n1 c1):=HX3.out.cell 6;have c7':w3.cell? ⟨G,7,none⟩=some (slice none 0 0):=HX3.out.cell 7;have f6':=HX3.out.frozen 6;have f7':=(HX3.out.set 6 (slice a3 n3 c3)).frozen 7;have c7'':(w3.setCell ⟨G,6,none⟩ (slice a3 n3 c3)).cell? ⟨G,7,none⟩=some (slice none 0 0):=(by simpa using(HX3.out.set 6 (slice a3 n3 c3)).cell 7);clear ho hb;go_simp)
   | (go_simp
      go_at_call 100;refine(CE.out _).mono ?_;rintro e wx ⟨rfl,rfl⟩;go_simp))
  all_goals(
   have hne:∀b,(Value.slice a3 n3 c3).ownBlock=some b->b≠G:=fun b hb e=>Ty.ne2 e (HO3.out.ty b hb) (Blk.ty HX3.out) (by decide);go_simp;refine ‹∀(a':Act) (w':World),Met _ a' w'->_› _ _ ?_;go_meet;refine⟨slice a3 n3 c3,ae (HO3.out.keepO fun b hb=>(bE _ _ _ b (hne b hb)).trans (bE _ _ _ b (hne b hb))),ae ?_,ae ((HZ3.out.far (show G+1≠G by omega) _).far (show G+1≠G by omega) _),ae ((HB3.out.setCell (p:=⟨G,6,none⟩) (ah _) _).setCell (p:=⟨G,7,none⟩) (ah _) _)⟩;simpa using(HX3.out.set 6 (slice a3 n3 c3)).set 7 (slice none 0 0))
 case rest=>
  obtain⟨v,HO,HX,HZ,HB⟩:=hcut;rename World=>w5;clear c6 c7;obtain⟨a3,n3,c3,rfl⟩:=HO.out.sl;have c7:w5.cell? ⟨G,7,none⟩=some (slice none 0 0):=HX.out.cell 7;go_wp2_with fail;clear c7;go_loopw [15] (fun i wr=>∃k:Nat,k<=0/\i=int i64 k/\Hid (wr=w5)) (fun _ _=>0)
  case atStart=>exact⟨0,by omega,rfl,ae rfl⟩
  case round=>
   obtain⟨k,hk0,rfl,HW⟩:=hrel;obtain rfl:k=0:=(by omega);obtain rfl:=HW.out;obtain⟨x0,x1,x2,x3,x4,x5,x6,x7⟩:=cZ HX.out
   go_wp2_with (change wpList _ _ _ (Oper.mk none (Op.store 68 _ _) _ _ _ _ :: _) _ _;refine wpList_store_row rfl 68 _ _ rfl (G+1) #[int i64 m.seq,int i64 m.next,int i64 m.K,int i64 m.H,int i64 m.Z,int i64 m.extra,slice a3 n3 c3,slice none 0 0] rfl rfl 68 _ HZ.out (by kernel_rfl) rfl (by kernel_rfl) ?_)
   have HR:=ae (HZ.out.row #[int i64 m.seq,int i64 m.next,int i64 m.K,int i64 m.H,int i64 m.Z,int i64 m.extra,slice a3 n3 c3,slice none 0 0]);have HB6:=ae (bW HB.out (Nat.le_succ G) #[int i64 m.seq,int i64 m.next,int i64 m.K,int i64 m.H,int i64 m.Z,int i64 m.extra,slice a3 n3 c3,slice none 0 0]);have HO6:Hid (OwnI (wr.setRow (G+1) #[int i64 m.seq,int i64 m.next,int i64 m.K,int i64 m.H,int i64 m.Z,int i64 m.extra,slice a3 n3 c3,slice none 0 0]) w0.heap.size (slice a3 n3 c3) m.drives):=ae (HO.out.keepO fun b hb=>setRow_other _ _ _ _ fun e=>Ty.ne2 (by first | exact e | exact e.symm) (HO.out.ty b hb) (Blk.ty HZ.out) (by decide));clear HX HZ HB HO x0 x1 x2 x3 x4 x5 x6 x7;generalize wr.setRow (G+1) #[int i64 m.seq,int i64 m.next,int i64 m.K,int i64 m.H,int i64 m.Z,int i64 m.extra,slice a3 n3 c3,slice none 0 0]=w6 at*;go_wp2_with fail
   (try simp only[Exit.inBlock,Exit.then])
   refine bodyPost_ret (results_cell_row rfl _ _ (G+1) 68 #[int i64 m.seq,int i64 m.next,int i64 m.K,int i64 m.H,int i64 m.Z,int i64 m.extra,slice a3 n3 c3,slice none 0 0] (0,0) _ rfl HR.out underlying68 rfl (by kernel_rfl)) rfl ?_;refine⟨_,rfl,HO6.out.base (by rw[<-HG.out];omega),?_⟩;rw[<-HG.out];exact(HG.out▸HB0.out).trans HB6.out
theorem oL{cur:Array Value}{a b c d:Value}(h:cur.toList.take 4=[a,b,c,d]):cur[0]? =some a/\cur[1]? =some b/\cur[2]? =some c/\cur[3]? =some d:=by
 have e:∀i,i<4->cur[i]? =[a,b,c,d][i]? :=fun i hi=>by rw[<-h,List.getElem?_take,bf hi];simp
 exact⟨e 0 (by omega),e 1 (by omega),e 2 (by omega),e 3 (by omega)⟩
theorem FJ{cur:Array Value}{a b c d:Value}(h:cur.toList.take 4=[a,b,c,d])(v:Value):(cur.setIfInBounds 3 v).toList.take 4=[a,b,c,v]:=by
 rw[Array.toList_setIfInBounds,take_set,h];rfl
structure EntB (w:World) (g cap:Nat) (cur:Array Value) (e:dN) (v:Value):Prop where
 blk:Blk w g 65 cur
 size:cur.size=cap*4
 c1:1<=cap
 c2:cap<=maxLen
 take:cur.toList.take 4=[.string e.name,int i64 e.obj,int i64 e.len,v]
theorem EntB.of{w:World}{C:Nat}{F:Nat->Prop}{v:Value}{e:dN}(h:OwnS w C 65 4 F v [cN e]):∃g cap cur a c,v=slice (some ⟨g,0,none⟩) 1 cap/\C<=g/\EntB w g cap cur e (slice a e.tries.length c)/\(rI e.tries).ok w F [slice a e.tries.length c]:=by
 obtain⟨cs,h1,h2⟩:=h;have h3:=h2 0 _ rfl;have hlen:cs.length=4:=by have:=h1.1;simpa using this
 rw[Nat.zero_mul,drop_zero,aJ (by omega)] at h3;obtain⟨x,y,rfl,hx,hy⟩:=h3;have hx1:x=[.string e.name,int i64 e.obj,int i64 e.len]:=hx.1;subst hx1;have l2:=(rI e.tries).len hy;obtain⟨u2,rfl⟩:=length_eq_one_iff.1 l2;obtain⟨a2,c2,e2,-⟩:=dA hy rfl;subst e2;rcases h1.2 with⟨_,h⟩ | ⟨g,cap,cur,rfl,hg,hh,p1,p2,p3,p4⟩
 ·simp at h
 ·exact⟨g,cap,cur,a2,c2,rfl,hg,⟨hh,p3,p1,p2,by simpa using p4⟩,(rI _).more hy fun b hb _=>hb.1⟩
theorem EntB.rep{w:World}{g cap:Nat}{cur:Array Value}{e:dN}{v:Value}{F:Nat->Prop}(h:EntB w g cap cur e v)(hv:(rI e.tries).ok w F [v])(hF:F g):(rS 4 ([e].map cN)).ok w F [slice (some ⟨g,0,none⟩) 1 cap]:=by
 obtain⟨h1,h2,h3,h4,h5⟩:=h;obtain⟨d0,d1,d2,d3⟩:=oL h5;refine⟨_,1,cap,rfl,h3,h4,fun e=>(by cases e),rfl,[.string e.name,int i64 e.obj,int i64 e.len,v],rfl,fun _=>⟨g,0,rfl,hF,fun i u hu=> ?_⟩,fun i R hR=> ?_⟩
 ·rw[Nat.zero_add,h1.cell]
  rcases i with _ | _ | _ | _ | i
  ·exact d0.trans hu
  ·exact d1.trans hu
  ·exact d2.trans hu
  ·exact d3.trans hu
  ·simp at hu
 ·cases i with
  | succ i=>simp at hR
  | zero=>
    obtain rfl:cN e=R:=(by simpa using hR);exact⟨[.string e.name,int i64 e.obj,int i64 e.len],[v],rfl,yR (by intro u hu;simp at hu;rcases hu with rfl | rfl | rfl <;> rfl),hv⟩
theorem EntB.below{w w':World}{g cap:Nat}{cur:Array Value}{e:dN}{v:Value}(h:EntB w g cap cur e v)(hb:Below w.heap.size w w'):EntB w' g cap cur e v:=⟨h.blk.below hb h.blk.lt,h.size,h.c1,h.c2,h.take⟩
theorem EntB.set{w:World}{g cap:Nat}{cur:Array Value}{e:dN}{v:Value}(h:EntB w g cap cur e v)(u:Value):EntB (w.setCell ⟨g,3,none⟩ u) g cap (cur.setIfInBounds 3 u) e u:=⟨h.blk.set 3 u,by rw[Array.size_setIfInBounds];exact h.size,h.c1,h.c2,FJ h.take u⟩
theorem I4{w:World}{C:Nat}{v:Value}{l:List Nat}(h:OwnI w C v l):(rI l).ok w (fun b=>Ty 3 w b/\C<=b) [v]:=by
 have hty:=h.ty;obtain⟨a,c,rfl,h1,h2,h3,h4,h5⟩:=dB (k:=1) h;rw[Nat.mul_one] at h4 h5;refine⟨a,l.length,c,rfl,h2,h3,h1,h4,fun hn=> ?_⟩;obtain⟨b,o,e1,⟨hb,_⟩,hv,hc⟩:=h5 hn;exact⟨b,o,e1,⟨hty b hv,hb⟩,hc⟩
theorem xc(m:cQ)(e:dN)(hone:m.objs=[e])(a1 a2:Option Addr)(n1 c1 c2:Nat)(F:Nat->Prop)(w:World)(hd:(rI m.drives).ok w F [slice a1 n1 c1])(hdl:m.drives.length=n1)(hn:n1<=1000)(ho:(rS 4 (m.objs.map cN)).ok w F [slice a2 1 c2])(htr:e.tries.length<=1000):
 Calls prog 49 #[.agg (cH m (slice a1 n1 c1) (slice a2 1 c2))] w fun r w'=>∃v a c,r=returned (.agg (cH m v (slice a 1 c)))/\OwnI w' w.heap.size v m.drives/\(rS 4 (m.objs.map cN)).ok w' (fun b=>Fu w' b/\w.heap.size<=b) [slice a 1 c]/\Below w.heap.size w w':=by
 have CC:=ae fun w (h:(rI m.drives).ok w F [slice a1 n1 c1])=>lM m.drives F a1 n1 c1 w h hdl (by omega)
 obtain⟨ad2,rfl⟩:∃ad,a2=some ad:=by
  obtain⟨a',n',c',e',_,_,_,_,cs,_,h6,_⟩:=ho;injection e' with e' _;injection e' with q1 q2 q3;subst q1 q2 q3;obtain⟨b,o,e,_⟩:=h6 (by omega);exact⟨_,e⟩
 have CE:=ae fun w' (h:(rS 4 (m.objs.map cN)).ok w' (Bl w.heap.size) [slice (some ad2) 1 c2])=>Ii m.objs (Bl w.heap.size) ad2 1 c2 w' h (by omega);rw[hone] at ho ⊢;rw[hone] at CE;obtain⟨a2,ha2⟩:∃a2,a2=some ad2:=⟨_,rfl⟩;rw[<-ha2] at ho CE ⊢;obtain⟨w0,hw0⟩:∃w0,w0=(w.alloc (cells #[int i64 m.seq,int i64 m.next,int i64 m.K,int i64 m.H,int i64 m.Z,int i64 m.extra,slice a1 n1 c1,slice a2 1 c2] 68)).alloc (cells #[int i64 0,int i64 0,int i64 0,int i64 0,int i64 0,int i64 0,slice none 0 0,slice none 0 0] 68):=⟨_,rfl⟩;have hsz1:(w.alloc (cells #[int i64 m.seq,int i64 m.next,int i64 m.K,int i64 m.H,int i64 m.Z,int i64 m.extra,slice a1 n1 c1,slice a2 1 c2] 68)).heap.size=w.heap.size+1:=by simp
 have HX0:Hid (Blk w0 w.heap.size 68 #[int i64 m.seq,int i64 m.next,int i64 m.K,int i64 m.H,int i64 m.Z,int i64 m.extra,slice a1 n1 c1,slice a2 1 c2]):=ae (by rw[hw0];exact(Blk.new w _ _).alloc _);have HZ0:Hid (Blk w0 (w.heap.size+1) 68 #[int i64 0,int i64 0,int i64 0,int i64 0,int i64 0,int i64 0,slice none 0 0,slice none 0 0]):=ae (by rw[hw0,<-hsz1];exact Blk.new _ _ _);have HB0:Hid (Below w.heap.size w w0):=ae (by rw[hw0];exact((az _ _).alloc (ah _) _).alloc (by simp) _);have HD0:=ae ((rI _).new hd HB0.out);have HE0:=ae ((rS 4 _).new ((rS 4 _).bl ho) HB0.out);have HW0:=ae hw0;have HTR:=ae htr;unfold cH;clear hd hdl hn hw0 hsz1 ho htr hone ha2;go_enter func49,ntmps49;go_upto_region 1 with fail;rw[<-HW0.out];have hGs:w.heap.size<w0.heap.size:=HX0.out.lt;clear HW0;obtain⟨G,hG⟩:∃G,G=w.heap.size:=⟨_,rfl⟩;rw[<-hG] at HX0 HZ0 hGs HE0 CE ⊢;have c6:w0.cell? ⟨G,6,none⟩=some (slice a1 n1 c1):=HX0.out.cell 6;have c7:w0.cell? ⟨G,7,none⟩=some (slice a2 1 c2):=HX0.out.cell 7;have HG:=ae hG;clear hG;go_cut [] (fun wx=>∃v vo,Hid (OwnI wx w0.heap.size v m.drives)/\Hid (OwnS wx w0.heap.size 65 4 (Bl G) vo [cN e])/\Hid (Blk wx G 68 #[int i64 m.seq,int i64 m.next,int i64 m.K,int i64 m.H,int i64 m.Z,int i64 m.extra,v,vo])/\Hid (Blk wx (G+1) 68 #[int i64 0,int i64 0,int i64 0,int i64 0,int i64 0,int i64 0,slice none 0 0,slice none 0 0])/\Hid (Below G w0 wx))
 case first=>
  go_region_law (first
   | (have HQ:=HO3
      go_simp;go_at_call 100;refine(CE.out w3 ((rS 4 _).new HE0.out hb3)).mono ?_;rintro r w4 ⟨v4,rfl,ho4,hb4⟩;have HO4:Hid (OwnI w4 w0.heap.size v3 m.drives):=ae (HO3.out.below hb4);have HE4:Hid (OwnS w4 w0.heap.size 65 4 (Bl G) v4 [cN e]):=ae (ho4.base hb3.size fun b hb=>hb.1);replace hb4:=hb3.trans (hb4.mono hb3.size);have HX4:=ae (HX0.out.below hb4 HX0.out.lt);have HZ4:=ae (HZ0.out.below hb4 HZ0.out.lt);have HB4:=ae hb4;obtain⟨a4,n4,c4,rfl⟩:=HE4.out.sl;obtain⟨a3,n3,c3,rfl⟩:=HO4.out.sl;have c6'':w4.cell? ⟨G,6,none⟩=some (slice a1 n1 c1):=HX4.out.cell 6;have c7'':w4.cell? ⟨G,7,none⟩=some (slice a2 1 c2):=HX4.out.cell 7;have f6':=HX4.out.frozen 6;have f7':=(HX4.out.set 6 (slice a3 n3 c3)).frozen 7;have c7s:(w4.setCell ⟨G,6,none⟩ (slice a3 n3 c3)).cell? ⟨G,7,none⟩=some (slice a2 1 c2):=(by simpa using(HX4.out.set 6 (slice a3 n3 c3)).cell 7);clear ho4 hb4 ho3 hb3;go_simp)
   | (have HQ:=HE3
      go_simp;go_at_call 99;refine(CC.out w3 ((rI _).new HD0.out hb3)).mono ?_;rintro r w4 ⟨v3,rfl,ho4,hb4⟩;have HE4:Hid (OwnS w4 w0.heap.size 65 4 (Bl G) v4 [cN e]):=ae (HE3.out.new hb4);have HO4:Hid (OwnI w4 w0.heap.size v3 m.drives):=ae (OwnI.base ho4 hb3.size);replace hb4:=hb3.trans (hb4.mono hb3.size);have HX4:=ae (HX0.out.below hb4 HX0.out.lt);have HZ4:=ae (HZ0.out.below hb4 HZ0.out.lt);have HB4:=ae hb4;obtain⟨a4,n4,c4,rfl⟩:=HE4.out.sl;obtain⟨a3,n3,c3,rfl⟩:=HO4.out.sl;have c6'':w4.cell? ⟨G,6,none⟩=some (slice a1 n1 c1):=HX4.out.cell 6;have c7'':w4.cell? ⟨G,7,none⟩=some (slice a2 1 c2):=HX4.out.cell 7;have f6':=HX4.out.frozen 6;have f7':=(HX4.out.set 6 (slice a3 n3 c3)).frozen 7;have c7s:(w4.setCell ⟨G,6,none⟩ (slice a3 n3 c3)).cell? ⟨G,7,none⟩=some (slice a2 1 c2):=(by simpa using(HX4.out.set 6 (slice a3 n3 c3)).cell 7);clear ho4 hb4 ho3 hb3;go_simp)
   | (go_simp
      go_at_call 99;refine(CC.out w0.drew HD0.out).mono ?_;rintro r w3 ⟨v3,rfl,ho3,hb3⟩;replace hb3:=bR hb3;have HO3:Hid (OwnI w3 w0.heap.size v3 m.drives):=ae ho3;have HX3:=ae (HX0.out.below hb3 HX0.out.lt);have c6':w3.cell? ⟨G,6,none⟩=some (slice a1 n1 c1):=HX3.out.cell 6;have c7':w3.cell? ⟨G,7,none⟩=some (slice a2 1 c2):=HX3.out.cell 7;go_simp)
   | (go_simp
      go_at_call 100;refine(CE.out w0.drew HE0.out).mono ?_;rintro r w3 ⟨v4,rfl,ho3,hb3⟩;replace hb3:=bR hb3;have HE3:Hid (OwnS w3 w0.heap.size 65 4 (Bl G) v4 [cN e]):=ae (ho3.base (ah _) fun b hb=>hb.1);have HX3:=ae (HX0.out.below hb3 HX0.out.lt);have c6':w3.cell? ⟨G,6,none⟩=some (slice a1 n1 c1):=HX3.out.cell 6;have c7':w3.cell? ⟨G,7,none⟩=some (slice a2 1 c2):=HX3.out.cell 7;go_simp))
  all_goals(
   have hne:∀b,(Value.slice a3 n3 c3).ownBlock=some b->b≠G:=fun b hb e=>Ty.ne2 e (HO4.out.ty b hb) (Blk.ty HX4.out) (by decide);have hBG:Below G w0 w4:=HB4.out.mono (by omega);go_simp;refine ‹∀(a':Act) (w':World),Met _ a' w'->_› _ _ ?_;go_meet;refine⟨slice a3 n3 c3,slice a4 n4 c4,ae (HO4.out.keepO fun b hb=>(bE _ _ _ b (hne b hb)).trans (bE _ _ _ b (hne b hb))),ae (HE4.out.keepAt (fun b hb=> ?_) fun b hb _ _=> ?_),ae ?_,ae ((HZ4.out.far (show G+1≠G by omega) _).far (show G+1≠G by omega) _),ae ((hBG.setCell (p:=⟨G,6,none⟩) (ah _) _).setCell (p:=⟨G,7,none⟩) (ah _) _)⟩
   ·have h:b≠G:=fun e=>Ty.ne2 e (HE4.out.ownTy b hb) (Blk.ty HX4.out) (by decide)
    exact(bE _ _ _ b h).trans (bE _ _ _ b h)
   ·have h:b≠G:=fun e=>by have h1:b<G:=hb;omega
    exact(bE _ _ _ b h).trans (bE _ _ _ b h)
   ·simpa using(HX4.out.set 6 (slice a3 n3 c3)).set 7 (slice a4 n4 c4))
 case rest=>
  obtain⟨v,vo,HO,HOE,HX,HZ,HB⟩:=hcut;rename World=>w5;clear c6 c7 CE HE0 HD0;obtain⟨a3,n3,c3,rfl⟩:=HO.out.sl;obtain⟨GO,cO,cur,at_,ct,rfl,hgo,hEB,hRT⟩:=EntB.of HOE.out;have HEB:=ae hEB;have HRT:=ae hRT;have HGO:=ae hgo;clear hEB hRT hgo HOE CC;obtain⟨nm,ob,ln,tr⟩:=e;simp only at*;have c7:w5.cell? ⟨G,7,none⟩=some (slice (some ⟨GO,0,none⟩) 1 cO):=HX.out.cell 7;go_wp2_with fail;clear c7;go_loopw [15] (fun i wr=>(i=int i64 0/\Hid (wr=w5))\/(i=int i64 1/\∃cur' at' ct',Hid (OwnI wr w0.heap.size (slice a3 n3 c3) m.drives)/\Hid (Blk wr G 68 #[int i64 m.seq,int i64 m.next,int i64 m.K,int i64 m.H,int i64 m.Z,int i64 m.extra,slice a3 n3 c3,slice (some ⟨GO,0,none⟩) 1 cO])/\Hid (Blk wr (G+1) 68 #[int i64 0,int i64 0,int i64 0,int i64 0,int i64 0,int i64 0,slice none 0 0,slice none 0 0])/\Hid (Below G w0 wr)/\Hid (EntB wr GO cO cur' ⟨nm,ob,ln,tr⟩ (slice at' tr.length ct'))/\Hid ((rI tr).ok wr (fun b=>Ty 3 wr b/\G<=b) [slice at' tr.length ct']))) (fun i _=>1-(intOf i).toNat)
  case atStart=>exact .inl ⟨rfl,ae rfl⟩
  case round=>
   rcases hrel with⟨rfl,HW⟩ | ⟨rfl,cur',at',ct',HO',HX',HZ',HB',HEB',HRT'⟩
   ·obtain rfl:=HW.out
    have CT:=ae fun W (h:(rI tr).ok W (Bl G) [slice at_ tr.length ct])=>lM tr (Bl G) at_ tr.length ct W h rfl (by have:=HTR.out;omega);have c7:wr.cell? ⟨G,7,none⟩=some (slice (some ⟨GO,0,none⟩) 1 cO):=HX.out.cell 7;have e3:wr.cell? ⟨GO,3,none⟩=some (slice at_ tr.length ct):=(Blk.cell HEB.out.blk 3).trans (oL HEB.out.take).2.2.2;have HRG:=ae (show G<=wr.heap.size from HB.out.size |> aO (Nat.le_of_lt hGs));go_upto_region 5 with fail
    go_region_law (go_simp
                   go_at_call 99;refine(CT.out wr.drew HRT.out).mono ?_;rintro r w6 ⟨v6,rfl,ho6,hb6⟩;replace hb6:=bR hb6;have HX6:=ae (HX.out.below hb6 HX.out.lt);have HZ6:=ae (HZ.out.below hb6 HZ.out.lt);have HEB6:=ae (HEB.out.below hb6);have HO6:=ae (HO.out.below hb6);have HB6:=ae (HB.out.trans (hb6.mono HRG.out));have HN6:=ae ho6;obtain⟨a6,c6,rfl⟩:=ho6.lenA;have c7':w6.cell? ⟨G,7,none⟩=some (slice (some ⟨GO,0,none⟩) 1 cO):=HX6.out.cell 7;have e3':w6.cell? ⟨GO,3,none⟩=some (slice at_ tr.length ct):=(Blk.cell HEB6.out.blk 3).trans (oL HEB6.out.take).2.2.2;have f3':w6.frozen? ⟨GO,3,none⟩=false:=HEB6.out.blk.frozen 3;clear ho6 hb6;go_simp)
    all_goals(
     clear c7 e3 c7' e3' f3' CT;have hGG:G≠GO:=(by have:=HGO.out;omega);have hGH:G+1≠GO:=(by have:=HGO.out;have:=HZ0.out.lt;omega);have HX7:=ae (HX6.out.far (p:=⟨GO,3,none⟩) hGG (slice a6 tr.length c6));have HZ7:=ae (HZ6.out.far (p:=⟨GO,3,none⟩) hGH (slice a6 tr.length c6));have HE7:=ae (HEB6.out.set (slice a6 tr.length c6));have HO7:Hid (OwnI (w6.setCell ⟨GO,3,none⟩ (slice a6 tr.length c6)) w0.heap.size (slice a3 n3 c3) m.drives):=ae (HO6.out.keepO fun b hb=>bE _ _ _ b fun e=>Ty.ne2 e (HO6.out.ty b hb) (Blk.ty HEB6.out.blk) (by decide));have HB7:Hid (Below G w0 (w6.setCell ⟨GO,3,none⟩ (slice a6 tr.length c6))):=ae (HB6.out.setCell (p:=⟨GO,3,none⟩) (by show G<=GO;have:=HGO.out;omega) _)
     have HR7:Hid ((rI tr).ok (w6.setCell ⟨GO,3,none⟩ (slice a6 tr.length c6)) (fun b=>Ty 3 (w6.setCell ⟨GO,3,none⟩ (slice a6 tr.length c6)) b/\G<=b) [slice a6 tr.length c6]):=ae ((rI tr).keep (I4 HN6.out) fun b hb hl=>by
      have h:(w6.setCell ⟨GO,3,none⟩ (slice a6 tr.length c6)).heap[b]? =w6.heap[b]? :=bE _ _ _ b fun e=>Ty.ne2 e hb.1 (Blk.ty HEB6.out.blk) (by decide);exact⟨h,hb.1.keep h,aO HRG.out hb.2⟩)
     clear HX6 HZ6 HEB6 HO6 HB6 HN6 HX HZ HEB HO HB HRT hGG hGH;generalize w6.setCell ⟨GO,3,none⟩ (slice a6 tr.length c6)=w7 at*;go_wp2_with fail;go_roundw
     case rel=>exact .inr ⟨by go_num,_,_,_,HO7,HX7,HZ7,HB7,HE7,HR7⟩
     case measure=>simp[intOf])
   ·obtain⟨x0,x1,x2,x3,x4,x5,x6,x7⟩:=cZ HX'.out
    have HRP:Hid ((rS 4 ([(⟨nm,ob,ln,tr⟩:dN)].map cN)).ok wr (fun b=>(b=GO\/Ty 3 wr b)/\G<=b) [slice (some ⟨GO,0,none⟩) 1 cO]):=ae (HEB'.out.rep ((rI tr).more HRT'.out fun b hb _=>⟨.inr hb.1,hb.2⟩) ⟨.inl rfl,by have:=HGO.out;omega⟩);have HTE:=ae (Blk.ty HEB'.out.blk)
    go_wp2_with (change wpList _ _ _ (Oper.mk none (Op.store 68 _ _) _ _ _ _ :: _) _ _;refine wpList_store_row rfl 68 _ _ rfl (G+1) #[int i64 m.seq,int i64 m.next,int i64 m.K,int i64 m.H,int i64 m.Z,int i64 m.extra,slice a3 n3 c3,slice (some ⟨GO,0,none⟩) 1 cO] rfl rfl 68 _ HZ'.out (by kernel_rfl) rfl (by kernel_rfl) ?_)
    have HR:=ae (HZ'.out.row #[int i64 m.seq,int i64 m.next,int i64 m.K,int i64 m.H,int i64 m.Z,int i64 m.extra,slice a3 n3 c3,slice (some ⟨GO,0,none⟩) 1 cO]);have HB6:=ae (bW HB'.out (Nat.le_succ G) #[int i64 m.seq,int i64 m.next,int i64 m.K,int i64 m.H,int i64 m.Z,int i64 m.extra,slice a3 n3 c3,slice (some ⟨GO,0,none⟩) 1 cO])
    have hother:∀b,(b=GO\/Ty 3 wr b)->(wr.setRow (G+1) #[int i64 m.seq,int i64 m.next,int i64 m.K,int i64 m.H,int i64 m.Z,int i64 m.extra,slice a3 n3 c3,slice (some ⟨GO,0,none⟩) 1 cO]).heap[b]? =wr.heap[b]? :=fun b hb=>setRow_other _ _ _ _ (by
     intro e;rcases hb with h | h
     ·subst h
      exact Ty.ne2 (by first | exact e | exact e.symm) HTE.out (Blk.ty HZ'.out) (by decide)
     ·exact Ty.ne2 (by first | exact e | exact e.symm) h (Blk.ty HZ'.out) (by decide))
    have HO6:Hid (OwnI (wr.setRow (G+1) #[int i64 m.seq,int i64 m.next,int i64 m.K,int i64 m.H,int i64 m.Z,int i64 m.extra,slice a3 n3 c3,slice (some ⟨GO,0,none⟩) 1 cO]) w0.heap.size (slice a3 n3 c3) m.drives):=ae (HO'.out.keepO fun b hb=>hother b (.inr (HO'.out.ty b hb)))
    have HR6:Hid ((rS 4 ([(⟨nm,ob,ln,tr⟩:dN)].map cN)).ok (wr.setRow (G+1) #[int i64 m.seq,int i64 m.next,int i64 m.K,int i64 m.H,int i64 m.Z,int i64 m.extra,slice a3 n3 c3,slice (some ⟨GO,0,none⟩) 1 cO]) (fun b=>Fu (wr.setRow (G+1) #[int i64 m.seq,int i64 m.next,int i64 m.K,int i64 m.H,int i64 m.Z,int i64 m.extra,slice a3 n3 c3,slice (some ⟨GO,0,none⟩) 1 cO]) b/\G<=b) [slice (some ⟨GO,0,none⟩) 1 cO]):=ae ((rS 4 _).keep HRP.out fun b hb hl=>⟨hother b hb.1,by
     have h:=hother b hb.1;rcases hb.1 with e | e
     ·exact Mt.not (t:=65) ((e▸HTE.out).keep h) (by decide) (by decide) (by decide)
     ·exact Mt.not (e.keep h) (by decide) (by decide) (by decide),hb.2⟩)
    clear HX' HZ' HB' HO' HEB' HRT' HRP HTE hother x0 x1 x2 x3 x4 x5 x6 x7;generalize wr.setRow (G+1) #[int i64 m.seq,int i64 m.next,int i64 m.K,int i64 m.H,int i64 m.Z,int i64 m.extra,slice a3 n3 c3,slice (some ⟨GO,0,none⟩) 1 cO]=w6 at*;go_wp2_with fail
    (try simp only[Exit.inBlock,Exit.then])
    refine bodyPost_ret (results_cell_row rfl _ _ (G+1) 68 #[int i64 m.seq,int i64 m.next,int i64 m.K,int i64 m.H,int i64 m.Z,int i64 m.extra,slice a3 n3 c3,slice (some ⟨GO,0,none⟩) 1 cO] (0,0) _ rfl HR.out underlying68 rfl (by kernel_rfl)) rfl ?_;rw[<-HG.out];exact⟨_,_,_,rfl,HO6.out.base (by omega),HR6.out,(HG.out▸HB0.out).trans HB6.out⟩
def xH(seq num many:Nat)(b:List Nat):List Nat:=cellL 2 (bT seq 4++[num,many,b.length]++b)
theorem numB4(n:Nat):bT n 4=[n/16777216%256,n/65536%256,n/256%256,n%256]:=by
 simp[bT]
theorem OwnB.ofBlk{w:World}{C g:Nat}{l:List Nat}(h:Blk w g 5 (bJ l))(hC:C<=g)(hl:l.length<=maxLen):OwnB w C (slice (some ⟨g,0,none⟩) l.length l.length) l:=
 ⟨by rw[bI,Nat.mul_one],.inr ⟨g,l.length,bJ l,rfl,hC,h,ah _,hl,by simp[bJ,bI],by simp[bJ,bI,aJ]⟩⟩
theorem Kl(seq num many:Nat)(b:List Nat)(a:Option Addr)(n c:Nat)(w:World)(hs:seq<4294967296)(hnum:num<=255)(hmany:many<=255)(hx:Rd w w.heap.size a n (bF b))(hb:By b)(hn:n<=48)(hnil:a=none->c=0):
 Calls prog 125 #[int i64 seq,int i64 num,int i64 many,slice a n c] w fun e w'=>∃g,e=returned (slice (some ⟨g,0,none⟩) 64 64)/\w.heap.size<=g/\Blk w' g 5 (bJ (xH seq num many b))/\Below w.heap.size w w':=by
 have hl:b.length=n:=by have:=hx.len;rwa [bI] at this
 obtain⟨s0,hs0⟩:∃s0,s0=seq/16777216:=⟨_,rfl⟩;obtain⟨s1,hs1⟩:∃s1,s1=seq/65536%256:=⟨_,rfl⟩;obtain⟨s2,hs2⟩:∃s2,s2=seq/256%256:=⟨_,rfl⟩;obtain⟨s3,hs3⟩:∃s3,s3=seq%256:=⟨_,rfl⟩;have HH:Hid (xH seq num many b=cellL 2 ([s0,s1,s2,s3,num,many,n]++b)):=ae (by unfold xH;rw[numB4,hl,show seq/16777216%256=seq/16777216 by omega,hs0,hs1,hs2,hs3];rfl);have hi0:(seq:Int)/16777216=(s0:Int):=by omega
 have hi1:(seq:Int)/65536%256=(s1:Int):=by omega
 have hi2:(seq:Int)/256%256=(s2:Int):=by omega
 have hi3:(seq:Int)%256=(s3:Int):=by omega
 have hi4:(num:Int)%256=(num:Int):=by omega
 have hi5:(many:Int)%256=(many:Int):=by omega
 have hi6:(n:Int)%256=(n:Int):=by omega
 have HB7:Hid (By [s0,s1,s2,s3,num,many,n]):=ae (by intro x hx;simp at hx;omega);have hba:=(az w.heap.size w).alloc (ah _) (cells (bJ [s0,s1,s2,s3,num,many,n]) 5);have HBA:=ae hba;have HX1:=ae (hx.below hba (ah _));have HO1:Hid (OwnB (w.alloc (cells (bJ [s0,s1,s2,s3,num,many,n]) 5)) w.heap.size (slice (some ⟨w.heap.size,0,none⟩) 7 7) [s0,s1,s2,s3,num,many,n]):=ae (OwnB.ofBlk (Blk.new w _ (bJ [s0,s1,s2,s3,num,many,n])) (ah _) (by simp[maxLen]));have hml:[s0,s1,s2,s3,num,many,n].length+n<=1000000:=by simp;omega
 have hsz:=hba.size;have HBY:=ae hb;have HL:=ae hl;clear hs0 hs1 hs2 hs3 hx hb hba hl;go_enter func125,ntmps125
 go_wp2_with (at_builtin;refine nC (w:=w.alloc (cells (bJ [s0,s1,s2,s3,num,many,n]) 5)) (C:=w.heap.size) (xs:=[s0,s1,s2,s3,num,many,n]) (ys:=b) rfl _ _ rfl HO1.out hsz hml rfl rfl hnil HX1.out ?_)
 intro v2 w2 hO2 hb2 hg2 hat2;have hlt:([s0,s1,s2,s3,num,many,n]++b).length=n+7:=by rw[aH,HL.out];simp;omega
 obtain⟨a2,c2,rfl,hrd2,hnil2⟩:=hO2.rd2 hlt;have HB2:=ae (HBA.out.trans hb2);have CP:=ae (uh 2 ([s0,s1,s2,s3,num,many,n]++b) a2 (n+7) c2 w2 (by omega) (by omega) hrd2 (fun x hx=>(bz.1 hx).elim (HB7.out x) (HBY.out x)) (by omega));clear hO2 hb2 hg2 hat2 hlt hrd2 hnil2 HO1 HX1 HBA hi0 hi1 hi2 hi3 hi4 hi5 hi6 hml hsz;generalize [s0,s1,s2,s3,num,many,n]++b=l at*;go_wp2_with fail;refine CP.out.mono ?_;rintro e w3 ⟨g,rfl,hg,hbk,hb3⟩;have HK:=ae hbk;have HB3:=ae (HB2.out.trans (hb3.mono HB2.out.size));have HG:=ae (aO HB2.out.size hg);clear hg hbk hb3 CP;go_wp2_with fail;go_ret;exact⟨g,rfl,HG.out,by rw[HH.out];exact HK.out,HB3.out⟩
theorem vn:(prog.info? 165).map (fun i=>(i.zero,i.size,i.bytes))=some (some (.agg #[int i64 0,slice none 0 0]),2,32):=by kernel_rfl
theorem Fu.fd{w:World}{b:Nat}(h:Fu w b):Fd w b:=fun hm=>h (hm.elim .inl fun h=>.inr (.inl h))
theorem BR(L:List Nat)(F:Nat->Prop)(a:Option Addr)(n c:Nat)(w:World)(hx:(rI L).ok w F [slice a n c])(hl:L.length=n)(hn:n<=64)(h0:0<n)(hL:∀x∈L,1<=x/\x<=512):
 Calls prog 87 #[slice a n c] w fun e w'=>∃v,e=returned (.tuple #[v,bool true])/\OwnI w' w.heap.size v (range n)/\Below w.heap.size w w':=by
 have S0:Hid (Sx w w [eR F (slice a n c) (rI L)]):=ae ((Sx.nil w).add (eR F (slice a n c) (rI L)) hx);have HL:=ae hl;have HLE:=ae hL;have HO0:Hid (OwnI w w.heap.size (slice none 0 0) (range 0)):=ae (OwnI.nil _ _);have HB0:=ae (az w.heap.size w);have hnI:(n:Int)<=64:=by omega
 clear hx hl hL;go_enter func87,ntmps87;go_wp2_with fail;go_loopw [4,9] (fun v i wr=>∃k:Nat,k<=n/\i=int i64 k/\Hid (OwnI wr w.heap.size v (range k))/\Hid (Below w.heap.size w wr)) (fun _ i _=>n-(intOf i).toNat)
 case atStart=>exact⟨0,by omega,rfl,HO0,HB0⟩
 case round=>
  clear HO0 HB0;obtain⟨k,hkn,rfl,HO,HB⟩:=hrel;have S1:=ae (S0.out.step HB.out)
  obtain⟨bv,nv,cv,e1,hnv⟩:∃a n c,_=Value.slice a n c/\n=k:=by
   obtain⟨a',c',e⟩:=HO.out.lenA;exact⟨a',_,c',e,aY⟩
  subst e1;subst hnv;by_cases hlt:nv<n
  ·have hltI:(nv:Int)<(n:Int):=by omega
   have hkl:nv<L.length:=(by rw[HL.out];exact hlt);obtain⟨a',c',e,hrd,-⟩:=dA (S1.out.rep 0 rfl) HL.out;injection e with e1 e2 e3;subst e1 e3;obtain⟨b,o,rfl,hb,hcc⟩:=hrd.2 (by omega);have cq:=hcc nv (int i64 (L.getD nv 0:Nat)) (bL hkl);have hx1:=HLE.out (L.getD nv 0) (by rw[af,ag hkl];exact aP hkl);generalize L.getD nv 0=x at*;have hxI1:¬(512:Int)<(x:Int):=(by omega);have hxI2:(0:Int)<(x:Int):=(by omega);have hml:(range nv).length<=1000000:=(by rw[aY];omega);have hsz:=HB.out.size;clear hcc hrd hx1 hkl
   go_wp2_with (at_builtin;refine jv (w:=wr) (C:=w.heap.size) (y:=nv) rfl _ _ rfl rfl HO.out hsz hml rfl rfl ?_)
   intro v2 w2 hO2 hb2;rw[<-range_succ] at hO2;have HO2:=ae hO2;have HB2:=ae (HB.out.trans hb2);clear hO2 hb2 HO HB;go_wp2_with fail;go_roundw
   case rel=>exact⟨nv+1,by omega,by go_num,HO2,HB2⟩
   case measure=>simp[intOf];omega
  ·obtain rfl:nv=n:=by omega
   have h0I:(0:Int)<(nv:Int):=(by omega);go_wp2_with fail;go_ret2;exact⟨_,rfl,HO.out,HB.out⟩
section
variable {B:Nat}
end
section
variable {B:Nat}
def Dl(nm:ByteArray)(e:dN):Bool:=e.name.toList == nm.toList
theorem GM(nm:ByteArray)(y:dN)(a:Option Addr)(n c G:Nat)(w:World)(hG:Blk w G 9 #[.string nm]):
 Calls prog 168 (#[.agg (gK y (slice a n c))]++#[pointer (some ⟨G,0,none⟩)]) w fun r w'=>r=returned (bool (Dl nm y))/\Below w.heap.size w w':=by
 show Calls prog 168 #[.agg (gK y (slice a n c)),pointer (some ⟨G,0,none⟩)] w _
 have S0:Hid (Sx w (w.alloc (cells (gK y (slice a n c)) 65)) [bQ w.heap.size 65 (gK y (slice a n c)),bQ G 9 #[.string nm]]):=
  ae ((((Sx.nil w).add (bQ G _ _) hG).alloc _).add (bQ _ _ _) (Blk.new w _ _))
 clear hG;obtain⟨nm',ob',ln',tr'⟩:=y;unfold gK at*;simp only at*;obtain⟨e0,e1,e2,e3⟩:=eY (S0.out.blk 0 rfl);have f0:(w.alloc (cells #[.string nm',int i64 ob',int i64 ln',slice a n c] 65)).cell? ⟨G,0,none⟩=some (.string nm):=(S0.out.blk 1 rfl).cell 0;go_enter func168,ntmps168;go_wp2_with fail;go_ret;exact⟨rfl,S0.out.1⟩
end
section
variable {B:Nat}
def ig(o b t:Nat):Nat:=128*o+16*b+t
def rJ(K H Z o b t:Nat):Prop:=t<16/\dc K H Z (ig o b t:Nat) (range K)=true/\∀i,i<t->dc K H Z (ig o b i:Nat) (range K)=false
theorem ND(K H Z o b t:Nat)(w:World)(hk:eD K H Z=true)(ho:o<=16777215)(hb:b<=8)(ht:rJ K H Z o b t):
 Calls prog 155 #[cE K H Z,int i64 o,int i64 b] w fun e w'=>e=returned (.tuple #[int i64 t,bool true])/\Below w.heap.size w w':=by
 have S0:Hid (Sx w (w.alloc (cells #[int i64 K,int i64 H,int i64 Z] 25)) [bQ w.heap.size 25 #[int i64 K,int i64 H,int i64 Z]]):=
  ae ((((Sx.nil w).alloc _).add (bQ _ _ _) (Blk.new w 25 #[int i64 K,int i64 H,int i64 Z])))
 have CS:=ae fun (n:Nat) (hn:n<=16) w=>lC o b n w ho hb hn;have CR:=ae fun (n:Nat) (hn:n<=16) w=>lZ K H Z (ig o b n:Nat) w hk (by omega) (by unfold ig;omega);have HT:=ae ht;have ht16:=ht.1;clear hk ho hb ht;unfold cE at CR ⊢;go_enter func155,ntmps155;go_wp2_with fail;generalize w.alloc (cells #[int i64 K,int i64 H,int i64 Z] 25)=w0 at*;have HB0:=ae (az w0.heap.size w0);go_loopw [9] (fun i wr=>∃k:Nat,k<=t/\i=int i64 k/\Hid (Below w0.heap.size w0 wr)) (fun i _=>16-(intOf i).toNat)
 case atStart=>exact⟨0,by omega,rfl,HB0⟩
 case round=>
  clear HB0;obtain⟨k,hkt,rfl,HB⟩:=hrel;have S1:=ae (S0.out.step HB.out);have hk16:(k:Int)<16:=(by omega);have CS1:=ae (CS.out k (by omega));have CR1:=ae (CR.out k (by omega));obtain⟨p0,p1,p2⟩:=kU (S1.out.blk 0 rfl);have hcase:k=t\/k<t:=(by omega);rcases hcase with he | hlt
  ·have HE:=ae he
   clear he;rw[show dc (K:Nat) H Z (ig o b k:Nat) (range K)=true from by rw[HE.out];exact HT.out.2.1] at CR1;unfold ig at CR1;go_upto_region 4 with fail;clear p0 p1 p2;refine bO (by kernel_rfl) (by kernel_rfl) ?_
   iterate 6 (
    with_reducible refine wpQuiet_step (fun Kq hKq=> ?_)
    go_simp
    first
    | refine hKq _ ?_
    | refine⟨_,fun _ _=>rfl,hKq _ ?_⟩
    | (apply Exists.intro
       refine⟨fun w' hw'=> ?_,hKq _ ?_⟩
       ·obtain⟨p0',p1',p2'⟩:=kU ((S1.out.step hw').blk 0 rfl)
        first
        | (go_simp
           first | exact rfl | exact⟨rfl,rfl⟩)
        | (go_at_call 114
           refine(CS1.out w').mono ?_;rintro r w5 ⟨rfl,rfl⟩;exact⟨rfl,hw'⟩)
        | (go_at_call 214
           refine(CR1.out w').mono ?_;rintro r w5 ⟨rfl,hb5⟩;exact⟨rfl,hw'.trans (hb5.mono hw'.size)⟩))
    clear hKq Kq)
   with_reducible refine wpQuiet_nil ?_
   intro w5 hw5;go_wp2_with fail;go_ret2;exact⟨by rw[HE.out];rfl,(S1.out.step hw5).1⟩
  ·rw[show dc (K:Nat) H Z (ig o b k:Nat) (range K)=false from HT.out.2.2 k hlt] at CR1
   have HLT:=ae hlt;clear hlt;unfold ig at CR1;go_upto_region 4 with fail;clear p0 p1 p2;refine bO (by kernel_rfl) (by kernel_rfl) ?_
   iterate 6 (
    with_reducible refine wpQuiet_step (fun Kq hKq=> ?_)
    go_simp
    first
    | refine hKq _ ?_
    | refine⟨_,fun _ _=>rfl,hKq _ ?_⟩
    | (apply Exists.intro
       refine⟨fun w' hw'=> ?_,hKq _ ?_⟩
       ·obtain⟨p0',p1',p2'⟩:=kU ((S1.out.step hw').blk 0 rfl)
        first
        | (go_simp
           first | exact rfl | exact⟨rfl,rfl⟩)
        | (go_at_call 114
           refine(CS1.out w').mono ?_;rintro r w5 ⟨rfl,rfl⟩;exact⟨rfl,hw'⟩)
        | (go_at_call 214
           refine(CR1.out w').mono ?_;rintro r w5 ⟨rfl,hb5⟩;exact⟨rfl,hw'.trans (hb5.mono hw'.size)⟩))
    clear hKq Kq)
   with_reducible refine wpQuiet_nil ?_
   intro w5 hw5;have HB5:=ae (HB.out.trans (hw5.mono HB.out.size));clear hw5;go_wp2_with fail;have hlt:=HLT.out;go_roundw
   case rel=>exact⟨k+1,by omega,by go_num,HB5⟩
   case measure=>simp[intOf];omega
end
theorem Jf(x f:Value)(w:World):Calls prog 282 #[x,int i64 0,int i64 1,f] w fun e w'=>e=returned (.tuple #[])/\w'=w:=by
 go_enter func282,ntmps282;go_wp2_with fail;go_loopw [8] (fun i wr=>i=int i64 1/\Hid (wr=w)) (fun _ _=>0)
 case atStart=>exact⟨rfl,ae rfl⟩
 case round=>
  obtain⟨rfl,HW⟩:=hrel;go_wp2_with fail
  (try simp only[Exit.inBlock,Exit.then])
  refine bodyPost_end (results_none rfl _ _ _) rfl ?_;exact⟨rfl,HW.out⟩
theorem Jg(x f:Value)(l:Int)(w:World):Calls prog 228 #[x,int i64 0,int i64 1,int i64 l,f] w fun e w'=>e=returned (.tuple #[])/\w'=w:=by
 have CI:=ae fun w=>Jf x f w;go_enter func228,ntmps228;go_wp2_with fail;go_loopw [1,2] (fun i j wr=>i=int i64 0/\j=int i64 1/\Hid (wr=w)) (fun _ _ _=>0)
 case atStart=>exact⟨rfl,rfl,ae rfl⟩
 case round=>
  obtain⟨rfl,rfl,HW⟩:=hrel;go_wp2_with fail;refine(CI.out wr).mono ?_;rintro e w1 ⟨rfl,rfl⟩;go_wp2_with fail
  (try simp only[Exit.inBlock,Exit.then])
  refine bodyPost_ret (results_none rfl _ _ _) rfl ?_;exact⟨rfl,HW.out⟩
theorem F4(a:Option Addr)(c:Nat)(f:Value)(w:World):Calls prog 163 #[slice a 1 c,f] w fun e w'=>e=returned (.tuple #[])/\w'=w:=by
 have CL:=ae fun w=>Tryz.bits_Len 1 w (by omega) (by omega);have CP:=ae fun l w=>Jg (slice a 1 c) f l w;go_enter func163,ntmps163;go_wp2_with fail;refine(CL.out w).mono ?_;rintro e w1 ⟨rfl,rfl⟩;go_wp2_with fail;refine(CP.out _ _).mono ?_;rintro e w2 ⟨rfl,rfl⟩;go_wp2_with fail
 (try simp only[Exit.inBlock,Exit.then])
 refine bodyPost_end (results_none rfl _ _ _) rfl ?_;exact⟨rfl,rfl⟩
section
variable {B:Nat}
theorem BF:zeroCells96= #[int i64 0,int i64 0,int i64 0,int i64 0,int i64 0,int i64 0,slice none 0 0,slice none 0 0,pointer none,int i64 0]++Array.replicate 64 (pointer none):=by kernel_rfl
theorem IM{a0 a1 a2 a3 a4 a5 a6 a7 a8 a9 b0 b1 b2 b3 b4 b5 b6 b7 b8 b9:Value}{r:Array Value}:
 ((((((((((#[a0,a1,a2,a3,a4,a5,a6,a7,a8,a9]++r).setIfInBounds 0 b0).setIfInBounds 1 b1).setIfInBounds 2 b2).setIfInBounds 3 b3).setIfInBounds 4 b4).setIfInBounds 5 b5).setIfInBounds 6 b6).setIfInBounds 7 b7).setIfInBounds 8 b8).setIfInBounds 9 b9= #[b0,b1,b2,b3,b4,b5,b6,b7,b8,b9]++r:=by
 apply Array.ext';simp
theorem yg(k:Nat)(w:World)(F:Nat->Prop):(rS k (([]:List dN).map cN)).ok w F [slice none 0 0]:=
 ⟨none,0,0,rfl,ah _,bu _,fun _=>rfl,rfl,[],by simp,fun h=>absurd h (by omega),fun i R hR=>by simp at hR⟩
end
section
variable {B:Nat}
def Fm(w:World)(b:Nat):Prop:=Fu w b/\¬Ty 68 w b
theorem Fm.keep{w w':World}{b:Nat}(h:Fm w b)(hk:w'.heap[b]? =w.heap[b]?):Fm w' b:=⟨h.1.keep hk,fun ht=>h.2 (ht.keep hk.symm)⟩
theorem Rp.fm(R:Rp){w w':World}{us:List Value}(h:R.ok w (Fm w) us)(hb:Below w.heap.size w w'):R.ok w' (Fm w') us:=
 R.keep h fun b hF hl=>⟨hb.block b hl,hF.keep (hb.block b hl)⟩
theorem Rp.fmU(R:Rp){w:World}{us:List Value}(h:R.ok w (Fm w) us):R.ok w (Fu w) us:=R.more h fun b hb _=>hb.1
theorem OwnS.repM{w:World}{C:Nat}{e:TypeId}{k:Nat}{v:Value}{L:List Rp}(h:OwnS w C e k (Fm w) v L)(he:e≠88/\e≠30/\e≠96)(hm:e≠68):(rS k L).ok w (Fm w) [v]:=by
 have hty:=h.ownTy;obtain⟨cs,h1,h2⟩:=h;obtain⟨a,c,rfl,r1,r2,r3,r4,r5⟩:=dB h1;refine⟨a,L.length,c,rfl,r2,r3,r1,rfl,cs,r4,fun hn=> ?_,fun i R hR=>R.more (h2 i R hR) fun b hb _=>hb.1⟩;obtain⟨b,o,e1,⟨hb,_⟩,hv,hc⟩:=r5 hn;exact⟨b,o,e1,⟨Mt.not (hty b hv) he.1 he.2.1 he.2.2,fun ht=>(hty b hv).ne ht hm⟩,hc⟩
theorem pO{w:World}{C:Nat}{v:Value}{l:List Nat}(h:OwnI w C v l):(rI l).ok w (Fm w) [v]:=by
 obtain⟨a,c,rfl,h1,h2,h3,h4,h5⟩:=dB (k:=1) h;rw[Nat.mul_one] at h4 h5;refine⟨a,l.length,c,rfl,h2,h3,h1,h4,fun hn=> ?_⟩;obtain⟨b,o,e1,⟨hb,_⟩,hv,hc⟩:=h5 hn;refine⟨b,o,e1,?_,hc⟩;have ht:=h.ty b hv;exact⟨Mt.not ht (by decide) (by decide) (by decide),fun hm=>ht.ne hm (by decide)⟩
end
section
open Go Ieee
theorem vA(N P:Nat)(h:N≠0):(N*2 ^ P).log2=N.log2+P:=by
 have h1:=(Nat.log2_eq_iff (n:=N*2 ^ P) (k:=N.log2+P) (by have:=Nat.pow_pos (n:=P) (show 0<2 by omega);exact Nat.mul_ne_zero h (by omega))).2;refine h1 ⟨?_,?_⟩
 ·rw[Nat.pow_add];exact Nat.mul_le_mul_right _ (Nat.log2_self_le h)
 ·rw[show N.log2+P+1=(N.log2+1)+P by omega,Nat.pow_add]
  exact Nat.mul_lt_mul_of_pos_right Nat.lt_log2_self (Nat.pow_pos (by omega))
theorem xI(s:Bool)(K d:Nat)(hK:K≠0):Toward.even.cut s (K*2 ^ d) d=K:=by
 have hl:=vA K d hK;have hp:=Nat.pow_pos (n:=d) (show 0<2 by omega)
 have hg:(1<<<min d ((K*2 ^ d).log2+2):Nat)=2 ^ d:=by
  rw[hl,Nat.min_eq_left (by omega),Nat.one_shiftLeft]
 unfold Toward.cut;simp only[hg,Nat.mul_div_cancel _ hp,Nat.mul_mod_left];have h1:decide (2 ^ d<2*0)=false:=decide_eq_false (by omega);have h2:((2:Nat) ^ d == 2*0)=false:=by rw[beq_eq_false_iff_ne];omega
 rw[h1,h2];rfl
theorem xJ(s:Bool):double.read (double.word s 0)=.number s 0 (-1074):=by cases s <;> decide +kernel
theorem G6(s:Bool)(a K:Nat)(ha:a<=1074)(h1:4503599627370496<=K)(h2:K<9007199254740992):
 double.read (double.word s (a*4503599627370496+K))=.number s K ((a:Int)-1074):=by
 have hs:double.signWeight=9223372036854775808:=by decide
 have hb:double.binade=4503599627370496:=by decide
 have hi:double.infRung=9218868437227405312:=by decide
 have hl:double.leastPlace= -1074:=by decide
 have e1:double.word s (a*4503599627370496+K)/9223372036854775808%2=s.toNat:=by
  unfold Format.word;rw[hs];cases s <;> simp <;> omega
 have e2:double.word s (a*4503599627370496+K)%9223372036854775808=a*4503599627370496+K:=by
  unfold Format.word;rw[hs];cases s <;> simp <;> omega
 unfold Format.read;simp only[hs,hb,hi,hl,e1,e2];rw[bg (by omega),bf (by omega)];have e3:(s.toNat == 1)=s:=by cases s <;> rfl
 rw[e3,show 4503599627370496+(a*4503599627370496+K)%4503599627370496=K by omega,show(a*4503599627370496+K)/4503599627370496-1=a by omega];congr 1
 all_goals omega
theorem ze(s:Bool)(N P:Nat)(hN:N<9007199254740992):
 ∃Q:Nat,double.read (double.nearest s (N*2 ^ P) (-(P:Int)))=.number s (N*2 ^ Q) (-(Q:Int)):=by
 by_cases h0:N=0
 ·subst h0
  obtain⟨Q,hQ⟩:∃Q:Nat,Q=1074:=⟨_,rfl⟩;refine⟨Q,?_⟩;unfold Format.nearest;rw[bf (Nat.zero_mul _),xJ,Nat.zero_mul,hQ];rfl
 ·have hp:=Nat.pow_pos (n:=P) (show 0<2 by omega)
  have hl:=vA N P h0
  have he:N.log2<=52:=by
   have:=(Nat.log2_lt h0 (k:=53)).2 (by simpa using hN);omega
  have hm:N*2 ^ P≠0:=Nat.mul_ne_zero h0 (by omega);refine⟨52-N.log2,?_⟩;have hlo:=Nat.log2_self_le h0;have hhi:=Nat.lt_log2_self (n:=N);generalize N.log2=e at*;obtain⟨q,hq⟩:∃q,q=52-e:=⟨_,rfl⟩;rw[<-hq]
  have hK1:4503599627370496<=N*2 ^ q:=by
   have:2 ^ e*2 ^ q<=N*2 ^ q:=Nat.mul_le_mul_right _ hlo;rw[<-Nat.pow_add,show e+q=52 by omega] at this;simpa using this
  have hK2:N*2 ^ q<9007199254740992:=by
   have:N*2 ^ q<2 ^ (e+1)*2 ^ q:=Nat.mul_lt_mul_of_pos_right hhi (Nat.pow_pos (by omega));rw[<-Nat.pow_add,show e+1+q=53 by omega] at this;simpa using this
  have hb:double.binade=4503599627370496:=(by decide);have hi:double.infRung=9218868437227405312:=(by decide);have hlp:double.leastPlace= -1074:=(by decide);have hf:double.fractionBits=52:=rfl;unfold Format.nearest;rw[bg hm];simp only[hl,hb,hi,hlp,hf];have hlast:max (-(P:Int)+((e+P:Nat):Int)-((52:Nat):Int)) (-1074)= -(q:Int):=(by omega);rw[hlast]
  have hkept:Toward.even.cut s ((N*2 ^ P)<<<(-(P:Int)- -(q:Int)).toNat) (-(q:Int)- -(P:Int)).toNat=N*2 ^ q:=by
   rcases Nat.le_total P q with h | h
   ·rw[show(-(P:Int)- -(q:Int)).toNat=q-P by omega,show(-(q:Int)- -(P:Int)).toNat=0 by omega,Nat.shiftLeft_eq,Nat.mul_assoc,<-Nat.pow_add,show P+(q-P)=q by omega]
    have:=xI s (N*2 ^ q) 0 (by omega);simpa using this
   ·rw[show(-(P:Int)- -(q:Int)).toNat=0 by omega,show(-(q:Int)- -(P:Int)).toNat=P-q by omega,Nat.shiftLeft_zero,show N*2 ^ P=(N*2 ^ q)*2 ^ (P-q) by rw[Nat.mul_assoc,<-Nat.pow_add,show q+(P-q)=P by omega]]
    exact xI s (N*2 ^ q) (P-q) (by omega)
  rw[hkept,show(-(q:Int)- -1074).toNat=1074-q by omega,Nat.min_eq_left (by omega),G6 s (1074-q) _ (by omega) hK1 hK2];congr 1;omega
def Fz(b:Nat)(n:Int):Prop:=∃(s:Bool) (N P:Nat),double.read b=.number s (N*2 ^ P) (-(P:Int))/\n=if s then-(N:Int) else N
theorem A9{s:Bool}{N P:Nat}(hN:N<9007199254740992):Fz (double.write (.number s (N*2 ^ P) (-(P:Int)))) (if s then-(N:Int) else N):=by
 obtain⟨Q,hQ⟩:=ze s N P hN;exact⟨s,N,Q,hQ,rfl⟩
theorem nH(s:Bool)(N P M:Nat)(h:P<=M):signed s (N*2 ^ P) (M-P)=(if s then-(N:Int) else N)*2 ^ M:=by
 have e:(N*2 ^ P)<<<(M-P)=N*2 ^ M:=by rw[Nat.shiftLeft_eq,Nat.mul_assoc,<-Nat.pow_add,show P+(M-P)=M by omega]
 unfold signed;rw[e];cases s <;> simp[Int.neg_mul]
theorem Dx(n:Int)(M:Nat):(n*2 ^ M).natAbs=n.natAbs*2 ^ M:=by
 rw[Int.natAbs_mul,Int.natAbs_pow];rfl
theorem O2(M:Nat):(2:Int) ^ M≠0:=by
 have:0<(2:Int) ^ M:=Int.pow_pos (by omega);omega
theorem xK{s t:Bool}{N P L Q:Nat}{a b:Int}(ha:a=if s then-(N:Int) else N)(hb:b=if t then-(L:Int) else L)(h:(a+b).natAbs<9007199254740992):
 ∃r,(((Datum.number s (N*2 ^ P) (-(P:Int))).sum (.number t (L*2 ^ Q) (-(Q:Int)))).map double.write)=some r/\Fz r (a+b):=by
 obtain⟨M,hM⟩:∃M,M=max P Q:=⟨_,rfl⟩;have hbase:min (-(P:Int)) (-(Q:Int))= -(M:Int):=by omega
 have htot:signed s (N*2 ^ P) (-(P:Int)- -(M:Int)).toNat+signed t (L*2 ^ Q) (-(Q:Int)- -(M:Int)).toNat=(a+b)*2 ^ M:=by
  rw[show(-(P:Int)- -(M:Int)).toNat=M-P by omega,show(-(Q:Int)- -(M:Int)).toNat=M-Q by omega,nH s N P M (by omega),nH t L Q M (by omega),<-ha,<-hb,Int.add_mul]
 unfold Datum.sum;simp only[hbase,htot,Dx,Option.map_some];refine⟨_,rfl,?_⟩;have hw:=fun z=>A9 (s:=z) (P:=M) h;have h2:0<(2:Int) ^ M:=Int.pow_pos (by omega);by_cases h0:a+b=0
 ·have:=hw (if (a+b)*2 ^ M=0 then s && t else decide ((a+b)*2 ^ M<0))
  have e:(if (if (a+b)*2 ^ M=0 then s && t else decide ((a+b)*2 ^ M<0))=true then-(((a+b).natAbs:Nat):Int) else ((a+b).natAbs:Int))=a+b:=by
   rw[h0];simp
  rw[e] at this;exact this
 ·have hne:(a+b)*2 ^ M≠0:=Int.mul_ne_zero h0 (O2 M)
  rw[bg hne];have:=hw (decide ((a+b)*2 ^ M<0))
  have hs:(a+b)*2 ^ M<0↔a+b<0:=by
   constructor
   ·intro hlt
    rcases Int.lt_or_le (a+b) 0 with hh | hh
    ·exact hh
    ·have:=Int.mul_nonneg hh (Int.le_of_lt h2);omega
   ·intro hlt
    exact Int.mul_neg_of_neg_of_pos hlt h2
  have e:(if decide ((a+b)*2 ^ M<0)=true then-(((a+b).natAbs:Nat):Int) else ((a+b).natAbs:Int))=a+b:=by
   by_cases hlt:a+b<0
   ·rw[bf (ba (hs.2 hlt))];omega
   ·rw[bg (by rw[decide_eq_true_eq];exact fun hh=>hlt (hs.1 hh))];omega
  rw[e] at this;exact this
theorem zf{x y:Nat}{a b:Int}(hx:Fz x a)(hy:Fz y b)(h:(a+b).natAbs<9007199254740992):∃r,floatBits .add .f64 x y=some r/\Fz r (a+b):=by
 obtain⟨s,N,P,h1,ha⟩:=hx;obtain⟨t,L,Q,h2,hb⟩:=hy;show ∃r,((double.read x).sum (double.read y)).map double.write=some r/\_;rw[h1,h2];exact xK ha hb h
theorem Dy{x y:Nat}{a b:Int}(hx:Fz x a)(hy:Fz y b)(h:(a-b).natAbs<9007199254740992):∃r,floatBits .sub .f64 x y=some r/\Fz r (a-b):=by
 obtain⟨s,N,P,h1,ha⟩:=hx;obtain⟨t,L,Q,h2,hb⟩:=hy;show ∃r,((double.read x).sum (double.read y).opposite).map double.write=some r/\_;rw[h1,h2];rw[Int.sub_eq_add_neg] at h ⊢;exact xK (t:= !t) ha (by rw[hb];cases t <;> simp) h
theorem rG{x y:Nat}{a b:Int}(hx:Fz x a)(hy:Fz y b)(h:(a*b).natAbs<9007199254740992):∃r,floatBits .mul .f64 x y=some r/\Fz r (a*b):=by
 obtain⟨s,N,P,h1,ha⟩:=hx;obtain⟨t,L,Q,h2,hb⟩:=hy;show ∃r,((double.read x).product (double.read y)).map double.write=some r/\_;rw[h1,h2];unfold Datum.product;simp only[Option.map_some];refine⟨_,rfl,?_⟩;have e1:N*2 ^ P*(L*2 ^ Q)=(N*L)*2 ^ (P+Q):=by rw[Nat.pow_add,Nat.mul_mul_mul_comm]
 have e2: -(P:Int)+ -(Q:Int)= -((P+Q:Nat):Int):=by omega
 have hNL:N*L<9007199254740992:=by
  have:(a*b).natAbs=N*L:=by
   rw[Int.natAbs_mul,ha,hb];cases s <;> cases t <;> simp
  omega
 rw[e1,e2];have:=A9 (s:=s ^^ t) (P:=P+Q) hNL
 have e3:(if (s ^^ t)=true then-((N*L:Nat):Int) else ((N*L:Nat):Int))=a*b:=by
  rw[ha,hb];cases s <;> cases t <;> simp[Int.neg_mul,Int.mul_neg]
 rw[e3] at this;exact this
theorem Ba{x y:Nat}{a b:Int}(hx:Fz x a)(hy:Fz y b):FloatKind.f64.format.order x y=some (compare a b):=by
 obtain⟨s,N,P,h1,ha⟩:=hx;obtain⟨t,L,Q,h2,hb⟩:=hy;show(double.read x).order (double.read y)=_;rw[h1,h2];obtain⟨M,hM⟩:∃M,M=max P Q:=⟨_,rfl⟩;have hbase:min (-(P:Int)) (-(Q:Int))= -(M:Int):=by omega
 unfold Datum.order;simp only[hbase];rw[show(-(P:Int)- -(M:Int)).toNat=M-P by omega,show(-(Q:Int)- -(M:Int)).toNat=M-Q by omega,nH s N P M (by omega),nH t L Q M (by omega),<-ha,<-hb];have h2:0<(2:Int) ^ M:=Int.pow_pos (by omega);congr 1;rcases Int.lt_trichotomy a b with h | h | h
 ·rw[Int.compare_eq_lt.2 h,Int.compare_eq_lt.2 (Int.mul_lt_mul_of_pos_right h h2)]
 ·subst h;rw[Int.compare_eq_eq.2 rfl,Int.compare_eq_eq.2 rfl]
 ·rw[Int.compare_eq_gt.2 h,Int.compare_eq_gt.2 (Int.mul_lt_mul_of_pos_right h h2)]
theorem jl:Fz 0 0:=by
 obtain⟨Q,hQ⟩:∃Q:Nat,Q=1074:=⟨_,rfl⟩;refine⟨false,0,Q,?_,rfl⟩;rw[Nat.zero_mul,hQ];exact xJ false
theorem Dz:Fz 4607182418800017408 1:=⟨false,1,52,by decide +kernel,rfl⟩
def Cz(r i:Nat)(x y:Int):Prop:=Fz r x/\Fz i y
theorem O3{a b c d:Nat}{x y u v:Int}(h1:Cz a b x y)(h2:Cz c d u v)(hx:(x+u).natAbs<9007199254740992)(hy:(y+v).natAbs<9007199254740992):
 ∃r i,cSumBits .add .f64 a b c d=some (r,i)/\Cz r i (x+u) (y+v):=by
 obtain⟨r,e1,f1⟩:=zf h1.1 h2.1 hx;obtain⟨i,e2,f2⟩:=zf h1.2 h2.2 hy;exact⟨r,i,by unfold cSumBits;rw[e1,e2];rfl,f1,f2⟩
theorem O4{a b c d:Nat}{x y u v:Int}(h1:Cz a b x y)(h2:Cz c d u v)(hx:(x-u).natAbs<9007199254740992)(hy:(y-v).natAbs<9007199254740992):
 ∃r i,cSumBits .sub .f64 a b c d=some (r,i)/\Cz r i (x-u) (y-v):=by
 obtain⟨r,e1,f1⟩:=Dy h1.1 h2.1 hx;obtain⟨i,e2,f2⟩:=Dy h1.2 h2.2 hy;exact⟨r,i,by unfold cSumBits;rw[e1,e2];rfl,f1,f2⟩
theorem MX{a b:Nat}{x y:Int}(h:Cz a b x y)(hx:x.natAbs<9007199254740992)(hy:y.natAbs<9007199254740992):
 ∃r i,cMulBits a b 0 4607182418800017408=some (r,i)/\Cz r i (-y) x:=by
 obtain⟨ac,e1,f1⟩:=rG h.1 jl (by omega);obtain⟨bd,e2,f2⟩:=rG h.2 Dz (by omega);obtain⟨re,e3,f3⟩:=Dy f1 f2 (by omega);obtain⟨ad,e4,f4⟩:=rG h.1 Dz (by omega);obtain⟨bc,e5,f5⟩:=rG h.2 jl (by omega);obtain⟨im,e6,f6⟩:=zf f4 f5 (by omega);refine⟨re,im,?_,?_,?_⟩
 ·unfold cMulBits
  rw[e1,e2,Option.bind_some,Option.bind_some,e3,Option.bind_some,e4,e5,Option.bind_some,Option.bind_some,e6];rfl
 ·rw[show x*0-y*1= -y by omega] at f3;exact f3
 ·rw[show x*1+y*0=x by omega] at f6;exact f6
end
section
def tL:Nat->Int×Int->Int×Int | 0,p=>p | k+1,p=>(-(tL k p).2,(tL k p).1)
theorem IX(k:Nat)(x y:Int):((tL k (x,y)).1.natAbs=x.natAbs/\(tL k (x,y)).2.natAbs=y.natAbs)\/((tL k (x,y)).1.natAbs=y.natAbs/\(tL k (x,y)).2.natAbs=x.natAbs):=by
 induction k with
 | zero=>exact .inl ⟨rfl,rfl⟩
 | succ k ih=>simp only[tL,Int.natAbs_neg];rcases ih with h | h;exact .inr ⟨h.2,h.1⟩;exact .inl ⟨h.2,h.1⟩
theorem mod4(n:Int):(n.tmod 4+4).tmod 4=n%4:=by
 have h1:=Int.emod_nonneg n (show(4:Int)≠0 by omega);have h2:=Int.emod_lt_of_pos n (show(0:Int)<4 by omega);rw[Int.tmod_eq_emod (a:=n)];split
 ·rw[Int.tmod_eq_emod_of_nonneg (by omega)];omega
 ·rw[Int.tmod_eq_emod_of_nonneg (by omega)];omega
theorem BI(r i:Nat)(x y n:Int)(hn: -9223372036854775808<=n/\n<=9223372036854775807)(w:World)(h:Cz r i x y)(hx:x.natAbs<9007199254740992)(hy:y.natAbs<9007199254740992):
 Calls prog 340 #[.complex .f64 r i,int i64 n] w fun e w'=>∃r' i',e=returned (.complex .f64 r' i')/\Cz r' i' (tL (n%4).toNat (x,y)).1 (tL (n%4).toNat (x,y)).2/\w=w':=by
 have h4:=mod4 n;have h1:=Int.emod_nonneg n (show(4:Int)≠0 by omega);have h2:=Int.emod_lt_of_pos n (show(0:Int)<4 by omega);generalize n%4=m at*;obtain⟨m,rfl⟩:=Int.eq_ofNat_of_zero_le h1;rw[Int.toNat_natCast]
 have ht: -4<n.tmod 4/\n.tmod 4<4:=by
  rw[Int.tmod_eq_emod];have e1:=Int.emod_nonneg n (show(4:Int)≠0 by omega);have e2:=Int.emod_lt_of_pos n (show(0:Int)<4 by omega);split <;> omega
 have hm4:m<4:=by omega
 have HZ:=ae h;clear h h2;generalize hgt:n.tmod 4=t at*;go_enter func340,ntmps340;go_wp2_with fail
 go_loop [0,9] (fun z k'=>∃(k r i:Nat),k<=m/\k'=int i64 k/\z=.complex .f64 r i/\Hid (Cz r i (tL k (x,y)).1 (tL k (x,y)).2)) (fun _ k'=>m-(intOf k').toNat)
 case atStart=>exact⟨0,r,i,by omega,rfl,rfl,HZ⟩
 case round=>
  obtain⟨k,r1,i1,hk,rfl,rfl,HK⟩:=hrel;have hab:=IX k x y;by_cases hlt:k<m
  ·obtain⟨r2,i2,hc,hz⟩:=MX HK.out (by omega) (by omega)
   have hop:=fun t w=>run_complex_mul (P:=prog) w t r1 i1 0 4607182418800017408 r2 i2 hc;have HZ2:=ae hz
   go_wp2_with (simp only[hop])
   go_round
   case rel=>exact⟨k+1,r2,i2,by omega,by go_num,rfl,HZ2⟩
   case measure=>simp[intOf] <;> omega
  ·obtain rfl:k=m:=by omega
   go_wp2_with fail;go_ret;exact⟨r1,i1,rfl,HK.out,rfl⟩
structure Sp where
 x:Int
 y:Int
 dx:Int
 dy:Int
 left:Int
 leg:Int
 sec:Bool
def Sp.start:Sp:=⟨0,0,1,0,1,1,false⟩
def Sp.leg'(s:Sp):Int:=if s.sec then s.leg+1 else s.leg
def Sp.on(s:Sp):Sp:=
 if 0<s.left-1 then ⟨s.x+s.dx,s.y+s.dy,s.dx,s.dy,s.left-1,s.leg,s.sec⟩
 else ⟨s.x+s.dx,s.y+s.dy,-s.dy,s.dx,s.leg',s.leg',!s.sec⟩
def Sp.small(s:Sp):Prop:=s.x.natAbs<1000000/\s.y.natAbs<1000000/\s.dx.natAbs<1000000/\s.dy.natAbs<1000000/\(0<=s.left/\s.left<1000000)/\(0<=s.leg/\s.leg<1000000)
def LM(w:World)(g:Nat)(s:Sp):Prop:=∃ar ai sr si:Nat,Cz ar ai s.x s.y/\Cz sr si s.dx s.dy/\
 Blk w g 341 #[.complex .f64 ar ai,.complex .f64 sr si,int i64 s.left,int i64 s.leg,.bool s.sec]
theorem zG(w:World):
 Calls prog 278 #[] w fun e w'=>∃g,e=returned (pointer (some ⟨g,0,none⟩))/\w.heap.size<=g/\LM w' g Sp.start/\Below w.heap.size w w':=by
 go_enter func278,ntmps278;go_wp2_with fail;go_ret;exact⟨_,rfl,ah _,⟨0,0,4607182418800017408,0,⟨jl,jl⟩,⟨Dz,jl⟩,Blk.new _ _ _⟩,(az _ _).alloc (ah _) _⟩
theorem wJ(P:Program)(w:World)(a:Addr)(m:Mode)(k:FloatKind)(x y:Nat):(store a (.complex k x y) m).run P w=stored P w a (.complex k x y) m:=run_store P w a _ m rfl
attribute [local go_sem] wJ
theorem ed{w w':World}{g:Nat}(h:w.grownBy w' (some g))(i:Nat)(v:Value):w.grownBy (w'.setCell ⟨g,i,none⟩ v) (some g):=
 ⟨h.os,h.tape,h.output,by have:=h.size;simpa using this,fun j hj hk=>(heap_setCell_other w' ⟨g,i,none⟩ j _ (fun e=>hk (by simp[e]))).trans (h.block j hj hk)⟩
theorem IY(g:Nat)(s:Sp)(w:World)(h:LM w g s)(hs:s.small):
 Calls prog 279 #[pointer (some ⟨g,0,none⟩)] w fun e w'=>(∃v,e=returned v)/\LM w' g s.on/\w.grownBy w' (some g):=by
 obtain⟨x,y,dx,dy,left,leg,sec⟩:=s;obtain⟨ar,ai,sr,si,hz1,hz2,hB⟩:=h;obtain⟨b1,b2,b3,b4,b5,b6⟩:=hs;simp only at b1 b2 b3 b4 b5 b6 hz1 hz2 hB;obtain⟨ar',ai',hc,hz3⟩:=O3 hz1 hz2 (by omega) (by omega);have hop:=fun t w=>run_complex_sum (P:=prog) w .add (Or.inl rfl) t .f64 ar ai sr si ar' ai' hc;have c0:=hB.cell 0;have c1:=hB.cell 1;have c2:=hB.cell 2;have c3:=hB.cell 3;have c4:=hB.cell 4;have f0:=hB.frozen 0;simp at c0 c1 c2 c3 c4;go_enter func279,ntmps279
 go_wp2_with (simp only[hop])
 go_still_tail 11,(by kernel_rfl)
 change wpList _ _ _ _ _ w.drew;clear c0 c1 c2 c3 c4 f0 hop hc;have hB2:Blk w.drew g 341 #[.complex .f64 ar ai,.complex .f64 sr si,int i64 left,int i64 leg,.bool sec]:=hB;have hG:w.grownBy w.drew (some g):=⟨rfl,rfl,rfl,ah _,fun _ _ _=>rfl⟩;clear hB;generalize w.drew=w2 at*;have f0:=hB2.frozen 0;have f1:=hB2.frozen 1;have f2:=hB2.frozen 2;have f3:=hB2.frozen 3;have f4:=hB2.frozen 4;have c0:=hB2.cell 0;have c1:=hB2.cell 1;have c2:=hB2.cell 2;have c3:=hB2.cell 3;have c4:=hB2.cell 4;simp at c0 c1 c2 c3 c4;have HB:=ae hB2;have HG:=ae hG;clear hB2 hG;by_cases hl:0<left-1
 ·go_wp2_with fail
  (try simp only[Exit.inBlock,Exit.then])
  refine bodyPost_ret (results_none rfl _ _ _) rfl ?_;refine⟨⟨_,rfl⟩,?_,ed (ed HG.out _ _) _ _⟩;rw[Sp.on,bf hl];exact⟨ar',ai',sr,si,hz3,hz2,(HB.out.set 0 _).set 2 _⟩
 ·have hn:¬1<left:=by omega
  have HN:=ae hn;go_wp2_with fail;refine(BI sr si dx dy 1 (by omega) _ hz2 (by omega) (by omega)).mono ?_;rintro e w3 ⟨r2,i2,rfl,hz,rfl⟩;have HT:Hid (Cz r2 i2 (-dy) dx):=ae hz;clear hz;have HZ3:=ae hz3;have HHL:=ae hl;clear hz3 hl;cases sec
  ·go_wp2_with fail
   go_end0
   refine⟨⟨_,rfl⟩,?_,ed (ed (ed (ed (ed HG.out _ _) _ _) _ _) _ _) _ _⟩;rw[Sp.on,bg (Int.not_lt.2 HHL.out)];exact⟨ar',ai',r2,i2,HZ3.out,HT.out,((((HB.out.set 0 _).set 2 _).set 1 _).set 4 _).set 2 _⟩
  ·go_wp2_with fail
   go_end0
   refine⟨⟨_,rfl⟩,?_,ed (ed (ed (ed (ed (ed HG.out _ _) _ _) _ _) _ _) _ _) _ _⟩;rw[Sp.on,bg (Int.not_lt.2 HHL.out)];exact⟨ar',ai',r2,i2,HZ3.out,HT.out,(((((HB.out.set 0 _).set 2 _).set 1 _).set 3 _).set 4 _).set 2 _⟩
end
def Sp.it:Nat->Sp | 0=>Sp.start | n+1=>(Sp.it n).on
instance(s:Sp):Decidable s.small:=by unfold Sp.small;exact inferInstance
def Sp.chk:Nat->Sp->Bool | 0,s=>decide s.small | k+1,s=>decide s.small && Sp.chk k s.on
theorem Pu:Sp.chk 4100 Sp.start=true:=by decide +kernel
theorem Pv(n:Nat):∀(j k:Nat),k<=n->Sp.chk n (Sp.it j)=true->(Sp.it (j+k)).small:=by
 induction n with
 | zero=>intro j k hk h;obtain rfl:k=0:=Nat.le_zero.1 hk;exact aZ h
 | succ n ih=>
   intro j k hk h;rw[Sp.chk,Bool.and_eq_true] at h;cases k with
   | zero=>exact aZ h.1
   | succ k=>
     have:=ih (j+1) k (by omega) h.2
     rwa [show j+1+k=j+(k+1) by omega] at this
theorem Lt{k:Nat}(h:k<=4100):(Sp.it k).small:=by
 have:=Pv 4100 0 k h Pu
 rwa [Nat.zero_add] at this
def II(n:Int):Int×Int:=if 0<=n/\n<4096 then ((Sp.it n.toNat).x,(Sp.it n.toNat).y) else (0,0)
theorem oJ{P:Program}{Q:Exit->Act->World->Prop}{a:Act}{w:World}{p1 p2 p3 rest:Code}(l:Nat)(J:Nat->Act->World->Prop)(n₀:Nat)
 (hf:findLabel (p1.seq (p2.seq (p3.seq ((Code.label l).seq rest)))) l=some (Code.skip.seq rest))
 (first:p1.wp P (Exit.then (fun a w=>p2.wp P (Exit.then (fun a w=>p3.wp P (Exit.then (J n₀) (Exit.jump l (fun _ _=>False) Q)) a w) (Exit.jump l (fun _ _=>False) Q)) a w) (Exit.jump l (fun _ _=>False) Q)) a w)
 (pass:∀n a w,J n a w->rest.wp P (Exit.jump l (fun a' w'=>∃n',n'<n/\J n' a' w') Q) a w):(Code.scope (p1.seq (p2.seq (p3.seq ((Code.label l).seq rest))))).wp P Q a w:=by
 have up:∀ {c:Code} {K K':Act->World->Prop} {a:Act} {w:World},c.wp P (Exit.then K (Exit.jump l (fun _ _=>False) Q)) a w->(∀a w,K a w->K' a w)->c.wp P (Exit.then K' (Exit.jump l (fun a w=>∃n,J n a w) Q)) a w:=by
  intro c K K' a w h hk;refine wp_mono h ?_;intro e a' w' hq;cases e with
  | normal=>exact hk _ _ hq
  | goto l'=>exact hq.2.elim
  | exit id=>exact hq
  | ret=>exact hq
  | panic ch=>exact hq
  | outgrown=>exact hq
 refine wp_scope_jumps l (fun a w=>∃n,J n a w) (fun a w=>leastOf (fun n=>J n a w)) hf ?_ ?_
 ·refine wp_seq (up first fun a w h=>wp_seq (up h fun a w h=>wp_seq (up h fun a w h=>wp_seq (wp_label ?_))))
  refine wp_mono (pass n₀ a w h) ?_;intro e a' w' hq;cases e with
  | goto l'=>exact⟨hq.1,let ⟨n',_,hn⟩:=hq.2;⟨n',hn⟩⟩
  | normal=>exact hq
  | exit id=>exact hq
  | ret=>exact hq
  | panic ch=>exact hq
  | outgrown=>exact hq
 ·intro a w hJ
  refine wp_seq (wp_skip ?_);refine wp_mono (pass _ a w (leastOf_spec hJ).1) ?_;intro e a' w' hq;cases e with
  | goto l'=>
    obtain⟨h1,n',hlt,hn'⟩:=hq;exact⟨h1,⟨n',hn'⟩,Nat.lt_of_le_of_lt ((leastOf_spec ⟨n',hn'⟩).2 n' hn') hlt⟩
  | normal=>exact hq
  | exit id=>exact hq
  | ret=>exact hq
  | panic ch=>exact hq
  | outgrown=>exact hq
theorem Lu(n:Int)(hn: -9223372036854775808<=n/\n<=9223372036854775807)(w:World):
 Calls prog 219 #[int i64 n] w fun e w'=>∃r i,e=returned (.complex .f64 r i)/\Cz r i (II n).1 (II n).2/\Below w.heap.size w w':=by
 by_cases hin:0<=n/\n<4096
 ·have ha:II n=((Sp.it n.toNat).x,(Sp.it n.toNat).y):=bf hin
  rw[ha];clear ha;obtain⟨m,rfl⟩:=Int.eq_ofNat_of_zero_le hin.1;rw[Int.toNat_natCast];have hm:m<4096:=(by omega);clear hn hin;go_enter func219,ntmps219;go_wp2_with fail
  refine oJ 0 (fun n a' w'=>∃(k g:Nat) (u5 u6 u7 u8 u9 u10 u11 u12 u13 u14 u15 u16 u17 u18 u19 u20 u21 u22:Value),(k<=m/\n=m-k/\w.heap.size<=g/\Hid (LM w' g (Sp.it k))/\Hid (Below w.heap.size w w'))/\
   a'= { tmps:=#[int i64 m,undef,.complex .f64 0 0,pointer (some ⟨g,0,none⟩),int i64 k,u5,u6,u7,u8,u9,u10,u11,u12,u13,u14,u15,u16,u17,u18,u19,u20,u21,u22],defers:=[] }) m rfl ?_ ?_
  ·go_wp2_with fail
   refine(zG _).mono ?_;rintro e w1 ⟨g,rfl,hg,hS,hb⟩;have HS:=ae hS;have HB:=ae hb;clear hS hb;go_wp2_with fail;exact⟨0,g,_,_,_,_,_,_,_,_,_,_,_,_,_,_,_,_,_,_,⟨by omega,by omega,hg,HS,HB⟩,rfl⟩
  ·rintro n a' wr ⟨k,g,u5,u6,u7,u8,u9,u10,u11,u12,u13,u14,u15,u16,u17,u18,u19,u20,u21,u22,⟨hk,rfl,hg,HS,HB⟩,rfl⟩
   by_cases hkm:k=m
   ·have hkb:((k:Int) == (m:Int))=true:=by rw[hkm,beq_self_eq_true]
    obtain⟨ar,ai,sr,si,hz1,hz2,hB⟩:=HS.out;have c0:=hB.cell 0;simp at c0;have HZ:=ae hz1;clear hz1 hz2 hB;go_wp2_with fail;simp only[Exit.jump];go_ret;exact⟨ar,ai,rfl,by rw[<-hkm];exact HZ.out,HB.out⟩
   ·have hkb:((k:Int) == (m:Int))=false:=by rw[beq_eq_false_iff_ne];omega
    go_wp2_with fail;refine(IY g (Sp.it k) _ HS.out (Lt (by omega))).mono ?_;rintro e w2 ⟨⟨v,rfl⟩,hS2,hG⟩;have HS2:=ae hS2
    have HB2:Hid (Below w.heap.size w w2):=by
     refine HB.out.trans ?_;exact((az _ wr).grown hG HB.out.size (fun z hz=>by simp at hz;omega))
    clear hS2 hG;go_wp2_with fail;go_step3;exact⟨rfl,m-(k+1),by omega,k+1,g,_,_,_,_,_,_,_,_,_,_,_,_,_,_,_,_,_,_,⟨by omega,by omega,hg,HS2,HB2⟩,rfl⟩
 ·have ha:II n=(0,0):=bg hin
  rw[ha];clear ha;go_enter func219,ntmps219;go_wp2_with fail;refine oJ 0 (fun n a' w'=>False) 0 rfl ?_ (fun _ _ _ h=>h.elim);by_cases h0:n<0
  ·go_wp2_with fail
   simp only[Exit.jump];go_ret;exact⟨0,0,rfl,⟨jl,jl⟩,az _ _⟩
  ·have h1:4096<=n:=by omega
   clear hin;go_wp2_with fail;simp only[Exit.jump];go_ret;exact⟨0,0,rfl,⟨jl,jl⟩,az _ _⟩
