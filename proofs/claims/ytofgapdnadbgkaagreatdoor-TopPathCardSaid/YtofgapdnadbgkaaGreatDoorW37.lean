import Derived.Test.YtofgapdnadbgkaaGreatDoorW35
import Derived.Test.YtofgapdnadbgkaaGreatDoorW36
set_option linter.unusedVariables false
set_option maxRecDepth 100000
set_option maxHeartbeats 400000000
namespace Go.Proofs.YtofgapdnadbgkaaGreatDoor
open Go.RowKit _root_.Go.Proofs.Tryz
theorem Hb(m:dC)(a1:Option Addr)(n1 c1:Nat)(F:Nat→Prop)(w:World)(hd:(rI m.drives).ok w F [.slice a1 n1 c1])(hdl:m.drives.length=n1)(hn:n1≤1000):
 Calls prog 179 #[.agg (bF m (.slice a1 n1 c1) (.slice none 0 0))] w fun e w'=>∃v,e=.returned (.agg (bF m v (.slice none 0 0)))∧OwnI w' w.heap.size v m.drives∧Below w.heap.size w w':=by
 have CC:=ae fun w (h:(rI m.drives).ok w F [.slice a1 n1 c1])=>kZ m.drives F a1 n1 c1 w h hdl (by omega);have CE:=ae fun w=>vH w;obtain⟨w0,hw0⟩:∃w0,w0=(w.alloc (.cells #[.int .i64 m.seq,.int .i64 m.next,.int .i64 m.K,.int .i64 m.H,.int .i64 m.Z,.int .i64 m.extra,.slice a1 n1 c1,.slice none 0 0] 154)).alloc (.cells #[.int .i64 0,.int .i64 0,.int .i64 0,.int .i64 0,.int .i64 0,.int .i64 0,.slice none 0 0,.slice none 0 0] 154):=⟨_,rfl⟩;have hsz1:(w.alloc (.cells #[.int .i64 m.seq,.int .i64 m.next,.int .i64 m.K,.int .i64 m.H,.int .i64 m.Z,.int .i64 m.extra,.slice a1 n1 c1,.slice none 0 0] 154)).heap.size=w.heap.size+1:=by simp
 have HX0:Hid (Blk w0 w.heap.size 154 #[.int .i64 m.seq,.int .i64 m.next,.int .i64 m.K,.int .i64 m.H,.int .i64 m.Z,.int .i64 m.extra,.slice a1 n1 c1,.slice none 0 0]):=ae (by rw[hw0];exact(Blk.new w _ _).alloc _);have HZ0:Hid (Blk w0 (w.heap.size+1) 154 #[.int .i64 0,.int .i64 0,.int .i64 0,.int .i64 0,.int .i64 0,.int .i64 0,.slice none 0 0,.slice none 0 0]):=ae (by rw[hw0,←hsz1];exact Blk.new _ _ _);have HB0:Hid (Below w.heap.size w w0):=ae (by rw[hw0];exact((az _ _).alloc (ah _) _).alloc (by simp) _);have HD0:=ae ((rI _).new hd HB0.out);have HW0:=ae hw0;unfold bF;clear hd hdl hn hw0 hsz1;go_enter func179,ntmps179;go_upto_region 1 with fail;rw[←HW0.out];have hGs:w.heap.size<w0.heap.size:=HX0.out.lt;clear HW0;obtain⟨G,hG⟩:∃G,G=w.heap.size:=⟨_,rfl⟩;rw[←hG] at HX0 HZ0 hGs ⊢;have c6:w0.cell? ⟨G,6,none⟩=some (.slice a1 n1 c1):=HX0.out.cell 6;have c7:w0.cell? ⟨G,7,none⟩=some (.slice none 0 0):=HX0.out.cell 7;have HG:=ae hG;clear hG;go_cut [] (fun wx=>∃v,Hid (OwnI wx w0.heap.size v m.drives)∧Hid (Blk wx G 154 #[.int .i64 m.seq,.int .i64 m.next,.int .i64 m.K,.int .i64 m.H,.int .i64 m.Z,.int .i64 m.extra,v,.slice none 0 0])∧Hid (Blk wx (G+1) 154 #[.int .i64 0,.int .i64 0,.int .i64 0,.int .i64 0,.int .i64 0,.int .i64 0,.slice none 0 0,.slice none 0 0])∧Hid (Below G w0 wx))
 case first=>
  go_region_law (first
   | (go_simp
      go_at_call 156;refine(CC.out w0.drew HD0.out).mono ?_;rintro e w3 ⟨v3,rfl,ho,hb⟩;replace hb:=bA hb;have HX3:=ae (HX0.out.below hb HX0.out.lt);have HZ3:=ae (HZ0.out.below hb HZ0.out.lt);have HB3:Hid (Below G w0 w3):=ae (hb.mono (by omega));have HO3:Hid (OwnI w3 w0.heap.size v3 m.drives):=ae ho;obtain⟨a3,n3,c3,rfl⟩:=HO3.out.sl;have c6':w3.cell? ⟨G,6,none⟩=some (.slice a1 n1 c1):=HX3.out.cell 6;have c7':w3.cell? ⟨G,7,none⟩=some (.slice none 0 0):=HX3.out.cell 7;have f6':=HX3.out.frozen 6;have f7':=(HX3.out.set 6 (.slice a3 n3 c3)).frozen 7;have c7'':(w3.setCell ⟨G,6,none⟩ (.slice a3 n3 c3)).cell? ⟨G,7,none⟩=some (.slice none 0 0):=(by simpa using(HX3.out.set 6 (.slice a3 n3 c3)).cell 7);clear ho hb;go_simp)
   | (go_simp
      go_at_call 245;refine(CE.out _).mono ?_;rintro e wx ⟨rfl,rfl⟩;go_simp))
  all_goals(
   have hne:∀b,(Value.slice a3 n3 c3).ownBlock=some b→b≠G:=fun b hb e=>Ty.ne2 e (HO3.out.ty b hb) (Blk.ty HX3.out) (by decide);go_simp;refine ‹∀(a':Act) (w':World),Met _ a' w'→_› _ _ ?_;go_meet;refine⟨.slice a3 n3 c3,ae (HO3.out.keepO fun b hb=>(aZ _ _ _ b (hne b hb)).trans (aZ _ _ _ b (hne b hb))),ae ?_,ae ((HZ3.out.far (show G+1≠G by omega) _).far (show G+1≠G by omega) _),ae ((HB3.out.setCell (p:=⟨G,6,none⟩) (ah _) _).setCell (p:=⟨G,7,none⟩) (ah _) _)⟩;simpa using(HX3.out.set 6 (.slice a3 n3 c3)).set 7 (.slice none 0 0))
 case rest=>
  obtain⟨v,HO,HX,HZ,HB⟩:=hcut;rename World=>w5;clear c6 c7;obtain⟨a3,n3,c3,rfl⟩:=HO.out.sl;have c7:w5.cell? ⟨G,7,none⟩=some (.slice none 0 0):=HX.out.cell 7;go_wp2_with fail;clear c7;go_loopw [15] (fun i wr=>∃k:Nat,k≤0∧i=.int .i64 k∧Hid (wr=w5)) (fun _ _=>0)
  case atStart=>exact⟨0,by omega,rfl,ae rfl⟩
  case round=>
   obtain⟨k,hk0,rfl,HW⟩:=hrel;obtain rfl:k=0:=(by omega);obtain rfl:=HW.out;obtain⟨x0,x1,x2,x3,x4,x5,x6,x7⟩:=dc HX.out
   go_wp2_with (change wpList _ _ _ (Oper.mk none (Op.store 154 _ _) _ _ _ _ :: _) _ _;refine wpList_store_row rfl 154 _ _ rfl (G+1) #[.int .i64 m.seq,.int .i64 m.next,.int .i64 m.K,.int .i64 m.H,.int .i64 m.Z,.int .i64 m.extra,.slice a3 n3 c3,.slice none 0 0] rfl rfl 154 _ HZ.out (by kernel_rfl) rfl (by kernel_rfl) ?_)
   have HR:=ae (HZ.out.row #[.int .i64 m.seq,.int .i64 m.next,.int .i64 m.K,.int .i64 m.H,.int .i64 m.Z,.int .i64 m.extra,.slice a3 n3 c3,.slice none 0 0]);have HB6:=ae (bR HB.out (Nat.le_succ G) #[.int .i64 m.seq,.int .i64 m.next,.int .i64 m.K,.int .i64 m.H,.int .i64 m.Z,.int .i64 m.extra,.slice a3 n3 c3,.slice none 0 0]);have HO6:Hid (OwnI (wr.setRow (G+1) #[.int .i64 m.seq,.int .i64 m.next,.int .i64 m.K,.int .i64 m.H,.int .i64 m.Z,.int .i64 m.extra,.slice a3 n3 c3,.slice none 0 0]) w0.heap.size (.slice a3 n3 c3) m.drives):=ae (HO.out.keepO fun b hb=>setRow_other _ _ _ _ fun e=>Ty.ne2 (by first | exact e | exact e.symm) (HO.out.ty b hb) (Blk.ty HZ.out) (by decide));clear HX HZ HB HO x0 x1 x2 x3 x4 x5 x6 x7;generalize wr.setRow (G+1) #[.int .i64 m.seq,.int .i64 m.next,.int .i64 m.K,.int .i64 m.H,.int .i64 m.Z,.int .i64 m.extra,.slice a3 n3 c3,.slice none 0 0]=w6 at*;go_wp2_with fail
   (try simp only[Exit.inBlock,Exit.then])
   refine bodyPost_ret (results_cell_row rfl _ _ (G+1) 154 #[.int .i64 m.seq,.int .i64 m.next,.int .i64 m.K,.int .i64 m.H,.int .i64 m.Z,.int .i64 m.extra,.slice a3 n3 c3,.slice none 0 0] (0,0) _ rfl HR.out underlying154 rfl (by kernel_rfl)) rfl ?_;refine⟨_,rfl,HO6.out.base (by rw[←HG.out];omega),?_⟩;rw[←HG.out];exact(HG.out▸HB0.out).trans HB6.out
theorem oo{cur:Array Value}{a b c d:Value}(h:cur.toList.take 4=[a,b,c,d]):cur[0]? =some a∧cur[1]? =some b∧cur[2]? =some c∧cur[3]? =some d:=by
 have e:∀i,i<4→cur[i]? =[a,b,c,d][i]? :=fun i hi=>by rw[←h,List.getElem?_take,if_pos hi];simp
 exact⟨e 0 (by omega),e 1 (by omega),e 2 (by omega),e 3 (by omega)⟩
theorem Ff{cur:Array Value}{a b c d:Value}(h:cur.toList.take 4=[a,b,c,d])(v:Value):(cur.setIfInBounds 3 v).toList.take 4=[a,b,c,v]:=by
 rw[Array.toList_setIfInBounds,List.take_set,h];rfl
structure EntB (w:World) (g cap:Nat) (cur:Array Value) (e:dM) (v:Value):Prop where
 blk:Blk w g 190 cur
 size:cur.size=cap*4
 c1:1≤cap
 c2:cap≤maxLen
 take:cur.toList.take 4=[.string e.name,.int .i64 e.obj,.int .i64 e.len,v]
theorem EntB.of{w:World}{C:Nat}{F:Nat→Prop}{v:Value}{e:dM}(h:OwnS w C 190 4 F v [bZ e]):∃g cap cur a c,v=.slice (some ⟨g,0,none⟩) 1 cap∧C≤g∧EntB w g cap cur e (.slice a e.tries.length c)∧(rI e.tries).ok w F [.slice a e.tries.length c]:=by
 obtain⟨cs,h1,h2⟩:=h;have h3:=h2 0 _ rfl;have hlen:cs.length=4:=by have:=h1.1;simpa using this
 rw[Nat.zero_mul,List.drop_zero,aO (by omega)] at h3;obtain⟨x,y,rfl,hx,hy⟩:=h3;have hx1:x=[.string e.name,.int .i64 e.obj,.int .i64 e.len]:=hx.1;subst hx1;have l2:=(rI e.tries).len hy;obtain⟨u2,rfl⟩:=List.length_eq_one_iff.1 l2;obtain⟨a2,c2,e2,-⟩:=dB hy rfl;subst e2;rcases h1.2 with⟨_,h⟩ | ⟨g,cap,cur,rfl,hg,hh,p1,p2,p3,p4⟩
 ·simp at h
 ·exact⟨g,cap,cur,a2,c2,rfl,hg,⟨hh,p3,p1,p2,by simpa using p4⟩,(rI _).more hy fun b hb _=>hb.1⟩
theorem EntB.rep{w:World}{g cap:Nat}{cur:Array Value}{e:dM}{v:Value}{F:Nat→Prop}(h:EntB w g cap cur e v)(hv:(rI e.tries).ok w F [v])(hF:F g):(rS 4 ([e].map bZ)).ok w F [.slice (some ⟨g,0,none⟩) 1 cap]:=by
 obtain⟨h1,h2,h3,h4,h5⟩:=h;obtain⟨d0,d1,d2,d3⟩:=oo h5;refine⟨_,1,cap,rfl,h3,h4,fun e=>(by cases e),rfl,[.string e.name,.int .i64 e.obj,.int .i64 e.len,v],rfl,fun _=>⟨g,0,rfl,hF,fun i u hu=> ?_⟩,fun i R hR=> ?_⟩
 ·rw[Nat.zero_add,h1.cell]
  rcases i with _ | _ | _ | _ | i
  ·exact d0.trans hu
  ·exact d1.trans hu
  ·exact d2.trans hu
  ·exact d3.trans hu
  ·simp at hu
 ·cases i with
  | succ i=>simp at hR
  | zero=>
    obtain rfl:bZ e=R:=(by simpa using hR);exact⟨[.string e.name,.int .i64 e.obj,.int .i64 e.len],[v],rfl,uM (by intro u hu;simp at hu;rcases hu with rfl | rfl | rfl <;> rfl),hv⟩
theorem EntB.below{w w':World}{g cap:Nat}{cur:Array Value}{e:dM}{v:Value}(h:EntB w g cap cur e v)(hb:Below w.heap.size w w'):EntB w' g cap cur e v:=⟨h.blk.below hb h.blk.lt,h.size,h.c1,h.c2,h.take⟩
theorem EntB.set{w:World}{g cap:Nat}{cur:Array Value}{e:dM}{v:Value}(h:EntB w g cap cur e v)(u:Value):EntB (w.setCell ⟨g,3,none⟩ u) g cap (cur.setIfInBounds 3 u) e u:=⟨h.blk.set 3 u,by rw[Array.size_setIfInBounds];exact h.size,h.c1,h.c2,Ff h.take u⟩
theorem Iu{w:World}{C:Nat}{v:Value}{l:List Nat}(h:OwnI w C v l):(rI l).ok w (fun b=>Ty 3 w b∧C≤b) [v]:=by
 have hty:=h.ty;obtain⟨a,c,rfl,h1,h2,h3,h4,h5⟩:=bV (k:=1) h;rw[Nat.mul_one] at h4 h5;refine⟨a,l.length,c,rfl,h2,h3,h1,h4,fun hn=> ?_⟩;obtain⟨b,o,e1,⟨hb,_⟩,hv,hc⟩:=h5 hn;exact⟨b,o,e1,⟨hty b hv,hb⟩,hc⟩
theorem Fg(m:dC)(e:dM)(hone:m.objs=[e])(a1 a2:Option Addr)(n1 c1 c2:Nat)(F:Nat→Prop)(w:World)(hd:(rI m.drives).ok w F [.slice a1 n1 c1])(hdl:m.drives.length=n1)(hn:n1≤1000)(ho:(rS 4 (m.objs.map bZ)).ok w F [.slice a2 1 c2])(htr:e.tries.length≤1000):
 Calls prog 179 #[.agg (bF m (.slice a1 n1 c1) (.slice a2 1 c2))] w fun r w'=>∃v a c,r=.returned (.agg (bF m v (.slice a 1 c)))∧OwnI w' w.heap.size v m.drives∧(rS 4 (m.objs.map bZ)).ok w' (fun b=>Fu w' b∧w.heap.size≤b) [.slice a 1 c]∧Below w.heap.size w w':=by
 have CC:=ae fun w (h:(rI m.drives).ok w F [.slice a1 n1 c1])=>kZ m.drives F a1 n1 c1 w h hdl (by omega)
 obtain⟨ad2,rfl⟩:∃ad,a2=some ad:=by
  obtain⟨a',n',c',e',_,_,_,_,cs,_,h6,_⟩:=ho;injection e' with e' _;injection e' with q1 q2 q3;subst q1 q2 q3;obtain⟨b,o,e,_⟩:=h6 (by omega);exact⟨_,e⟩
 have CE:=ae fun w' (h:(rS 4 (m.objs.map bZ)).ok w' (Bl w.heap.size) [.slice (some ad2) 1 c2])=>E5 m.objs (Bl w.heap.size) ad2 1 c2 w' h (by omega);rw[hone] at ho ⊢;rw[hone] at CE;obtain⟨a2,ha2⟩:∃a2,a2=some ad2:=⟨_,rfl⟩;rw[←ha2] at ho CE ⊢;obtain⟨w0,hw0⟩:∃w0,w0=(w.alloc (.cells #[.int .i64 m.seq,.int .i64 m.next,.int .i64 m.K,.int .i64 m.H,.int .i64 m.Z,.int .i64 m.extra,.slice a1 n1 c1,.slice a2 1 c2] 154)).alloc (.cells #[.int .i64 0,.int .i64 0,.int .i64 0,.int .i64 0,.int .i64 0,.int .i64 0,.slice none 0 0,.slice none 0 0] 154):=⟨_,rfl⟩;have hsz1:(w.alloc (.cells #[.int .i64 m.seq,.int .i64 m.next,.int .i64 m.K,.int .i64 m.H,.int .i64 m.Z,.int .i64 m.extra,.slice a1 n1 c1,.slice a2 1 c2] 154)).heap.size=w.heap.size+1:=by simp
 have HX0:Hid (Blk w0 w.heap.size 154 #[.int .i64 m.seq,.int .i64 m.next,.int .i64 m.K,.int .i64 m.H,.int .i64 m.Z,.int .i64 m.extra,.slice a1 n1 c1,.slice a2 1 c2]):=ae (by rw[hw0];exact(Blk.new w _ _).alloc _);have HZ0:Hid (Blk w0 (w.heap.size+1) 154 #[.int .i64 0,.int .i64 0,.int .i64 0,.int .i64 0,.int .i64 0,.int .i64 0,.slice none 0 0,.slice none 0 0]):=ae (by rw[hw0,←hsz1];exact Blk.new _ _ _);have HB0:Hid (Below w.heap.size w w0):=ae (by rw[hw0];exact((az _ _).alloc (ah _) _).alloc (by simp) _);have HD0:=ae ((rI _).new hd HB0.out);have HE0:=ae ((rS 4 _).new ((rS 4 _).bl ho) HB0.out);have HW0:=ae hw0;have HTR:=ae htr;unfold bF;clear hd hdl hn hw0 hsz1 ho htr hone ha2;go_enter func179,ntmps179;go_upto_region 1 with fail;rw[←HW0.out];have hGs:w.heap.size<w0.heap.size:=HX0.out.lt;clear HW0;obtain⟨G,hG⟩:∃G,G=w.heap.size:=⟨_,rfl⟩;rw[←hG] at HX0 HZ0 hGs HE0 CE ⊢;have c6:w0.cell? ⟨G,6,none⟩=some (.slice a1 n1 c1):=HX0.out.cell 6;have c7:w0.cell? ⟨G,7,none⟩=some (.slice a2 1 c2):=HX0.out.cell 7;have HG:=ae hG;clear hG;go_cut [] (fun wx=>∃v vo,Hid (OwnI wx w0.heap.size v m.drives)∧Hid (OwnS wx w0.heap.size 190 4 (Bl G) vo [bZ e])∧Hid (Blk wx G 154 #[.int .i64 m.seq,.int .i64 m.next,.int .i64 m.K,.int .i64 m.H,.int .i64 m.Z,.int .i64 m.extra,v,vo])∧Hid (Blk wx (G+1) 154 #[.int .i64 0,.int .i64 0,.int .i64 0,.int .i64 0,.int .i64 0,.int .i64 0,.slice none 0 0,.slice none 0 0])∧Hid (Below G w0 wx))
 case first=>
  go_region_law (first
   | (have HQ:=HO3
      go_simp;go_at_call 245;refine(CE.out w3 ((rS 4 _).new HE0.out hb3)).mono ?_;rintro r w4 ⟨v4,rfl,ho4,hb4⟩;have HO4:Hid (OwnI w4 w0.heap.size v3 m.drives):=ae (HO3.out.below hb4);have HE4:Hid (OwnS w4 w0.heap.size 190 4 (Bl G) v4 [bZ e]):=ae (ho4.base hb3.size fun b hb=>hb.1);replace hb4:=hb3.trans (hb4.mono hb3.size);have HX4:=ae (HX0.out.below hb4 HX0.out.lt);have HZ4:=ae (HZ0.out.below hb4 HZ0.out.lt);have HB4:=ae hb4;obtain⟨a4,n4,c4,rfl⟩:=HE4.out.sl;obtain⟨a3,n3,c3,rfl⟩:=HO4.out.sl;have c6'':w4.cell? ⟨G,6,none⟩=some (.slice a1 n1 c1):=HX4.out.cell 6;have c7'':w4.cell? ⟨G,7,none⟩=some (.slice a2 1 c2):=HX4.out.cell 7;have f6':=HX4.out.frozen 6;have f7':=(HX4.out.set 6 (.slice a3 n3 c3)).frozen 7;have c7s:(w4.setCell ⟨G,6,none⟩ (.slice a3 n3 c3)).cell? ⟨G,7,none⟩=some (.slice a2 1 c2):=(by simpa using(HX4.out.set 6 (.slice a3 n3 c3)).cell 7);clear ho4 hb4 ho3 hb3;go_simp)
   | (have HQ:=HE3
      go_simp;go_at_call 156;refine(CC.out w3 ((rI _).new HD0.out hb3)).mono ?_;rintro r w4 ⟨v3,rfl,ho4,hb4⟩;have HE4:Hid (OwnS w4 w0.heap.size 190 4 (Bl G) v4 [bZ e]):=ae (HE3.out.new hb4);have HO4:Hid (OwnI w4 w0.heap.size v3 m.drives):=ae (OwnI.base ho4 hb3.size);replace hb4:=hb3.trans (hb4.mono hb3.size);have HX4:=ae (HX0.out.below hb4 HX0.out.lt);have HZ4:=ae (HZ0.out.below hb4 HZ0.out.lt);have HB4:=ae hb4;obtain⟨a4,n4,c4,rfl⟩:=HE4.out.sl;obtain⟨a3,n3,c3,rfl⟩:=HO4.out.sl;have c6'':w4.cell? ⟨G,6,none⟩=some (.slice a1 n1 c1):=HX4.out.cell 6;have c7'':w4.cell? ⟨G,7,none⟩=some (.slice a2 1 c2):=HX4.out.cell 7;have f6':=HX4.out.frozen 6;have f7':=(HX4.out.set 6 (.slice a3 n3 c3)).frozen 7;have c7s:(w4.setCell ⟨G,6,none⟩ (.slice a3 n3 c3)).cell? ⟨G,7,none⟩=some (.slice a2 1 c2):=(by simpa using(HX4.out.set 6 (.slice a3 n3 c3)).cell 7);clear ho4 hb4 ho3 hb3;go_simp)
   | (go_simp
      go_at_call 156;refine(CC.out w0.drew HD0.out).mono ?_;rintro r w3 ⟨v3,rfl,ho3,hb3⟩;replace hb3:=bA hb3;have HO3:Hid (OwnI w3 w0.heap.size v3 m.drives):=ae ho3;have HX3:=ae (HX0.out.below hb3 HX0.out.lt);have c6':w3.cell? ⟨G,6,none⟩=some (.slice a1 n1 c1):=HX3.out.cell 6;have c7':w3.cell? ⟨G,7,none⟩=some (.slice a2 1 c2):=HX3.out.cell 7;go_simp)
   | (go_simp
      go_at_call 245;refine(CE.out w0.drew HE0.out).mono ?_;rintro r w3 ⟨v4,rfl,ho3,hb3⟩;replace hb3:=bA hb3;have HE3:Hid (OwnS w3 w0.heap.size 190 4 (Bl G) v4 [bZ e]):=ae (ho3.base (ah _) fun b hb=>hb.1);have HX3:=ae (HX0.out.below hb3 HX0.out.lt);have c6':w3.cell? ⟨G,6,none⟩=some (.slice a1 n1 c1):=HX3.out.cell 6;have c7':w3.cell? ⟨G,7,none⟩=some (.slice a2 1 c2):=HX3.out.cell 7;go_simp))
  all_goals(
   have hne:∀b,(Value.slice a3 n3 c3).ownBlock=some b→b≠G:=fun b hb e=>Ty.ne2 e (HO4.out.ty b hb) (Blk.ty HX4.out) (by decide);have hBG:Below G w0 w4:=HB4.out.mono (by omega);go_simp;refine ‹∀(a':Act) (w':World),Met _ a' w'→_› _ _ ?_;go_meet;refine⟨.slice a3 n3 c3,.slice a4 n4 c4,ae (HO4.out.keepO fun b hb=>(aZ _ _ _ b (hne b hb)).trans (aZ _ _ _ b (hne b hb))),ae (HE4.out.keepAt (fun b hb=> ?_) fun b hb _ _=> ?_),ae ?_,ae ((HZ4.out.far (show G+1≠G by omega) _).far (show G+1≠G by omega) _),ae ((hBG.setCell (p:=⟨G,6,none⟩) (ah _) _).setCell (p:=⟨G,7,none⟩) (ah _) _)⟩
   ·have h:b≠G:=fun e=>Ty.ne2 e (HE4.out.ownTy b hb) (Blk.ty HX4.out) (by decide)
    exact(aZ _ _ _ b h).trans (aZ _ _ _ b h)
   ·have h:b≠G:=fun e=>by have h1:b<G:=hb;omega
    exact(aZ _ _ _ b h).trans (aZ _ _ _ b h)
   ·simpa using(HX4.out.set 6 (.slice a3 n3 c3)).set 7 (.slice a4 n4 c4))
 case rest=>
  obtain⟨v,vo,HO,HOE,HX,HZ,HB⟩:=hcut;rename World=>w5;clear c6 c7 CE HE0 HD0;obtain⟨a3,n3,c3,rfl⟩:=HO.out.sl;obtain⟨GO,cO,cur,at_,ct,rfl,hgo,hEB,hRT⟩:=EntB.of HOE.out;have HEB:=ae hEB;have HRT:=ae hRT;have HGO:=ae hgo;clear hEB hRT hgo HOE CC;obtain⟨nm,ob,ln,tr⟩:=e;simp only at*;have c7:w5.cell? ⟨G,7,none⟩=some (.slice (some ⟨GO,0,none⟩) 1 cO):=HX.out.cell 7;go_wp2_with fail;clear c7;go_loopw [15] (fun i wr=>(i=.int .i64 0∧Hid (wr=w5))∨(i=.int .i64 1∧∃cur' at' ct',Hid (OwnI wr w0.heap.size (.slice a3 n3 c3) m.drives)∧Hid (Blk wr G 154 #[.int .i64 m.seq,.int .i64 m.next,.int .i64 m.K,.int .i64 m.H,.int .i64 m.Z,.int .i64 m.extra,.slice a3 n3 c3,.slice (some ⟨GO,0,none⟩) 1 cO])∧Hid (Blk wr (G+1) 154 #[.int .i64 0,.int .i64 0,.int .i64 0,.int .i64 0,.int .i64 0,.int .i64 0,.slice none 0 0,.slice none 0 0])∧Hid (Below G w0 wr)∧Hid (EntB wr GO cO cur' ⟨nm,ob,ln,tr⟩ (.slice at' tr.length ct'))∧Hid ((rI tr).ok wr (fun b=>Ty 3 wr b∧G≤b) [.slice at' tr.length ct']))) (fun i _=>1-(intOf i).toNat)
  case atStart=>exact .inl ⟨rfl,ae rfl⟩
  case round=>
   rcases hrel with⟨rfl,HW⟩ | ⟨rfl,cur',at',ct',HO',HX',HZ',HB',HEB',HRT'⟩
   ·obtain rfl:=HW.out
    have CT:=ae fun W (h:(rI tr).ok W (Bl G) [.slice at_ tr.length ct])=>kZ tr (Bl G) at_ tr.length ct W h rfl (by have:=HTR.out;omega);have c7:wr.cell? ⟨G,7,none⟩=some (.slice (some ⟨GO,0,none⟩) 1 cO):=HX.out.cell 7;have e3:wr.cell? ⟨GO,3,none⟩=some (.slice at_ tr.length ct):=(Blk.cell HEB.out.blk 3).trans (oo HEB.out.take).2.2.2;have HRG:=ae (show G≤wr.heap.size from HB.out.size |> aQ (Nat.le_of_lt hGs));go_upto_region 5 with fail
    go_region_law (go_simp
                   go_at_call 156;refine(CT.out wr.drew HRT.out).mono ?_;rintro r w6 ⟨v6,rfl,ho6,hb6⟩;replace hb6:=bA hb6;have HX6:=ae (HX.out.below hb6 HX.out.lt);have HZ6:=ae (HZ.out.below hb6 HZ.out.lt);have HEB6:=ae (HEB.out.below hb6);have HO6:=ae (HO.out.below hb6);have HB6:=ae (HB.out.trans (hb6.mono HRG.out));have HN6:=ae ho6;obtain⟨a6,c6,rfl⟩:=ho6.lenA;have c7':w6.cell? ⟨G,7,none⟩=some (.slice (some ⟨GO,0,none⟩) 1 cO):=HX6.out.cell 7;have e3':w6.cell? ⟨GO,3,none⟩=some (.slice at_ tr.length ct):=(Blk.cell HEB6.out.blk 3).trans (oo HEB6.out.take).2.2.2;have f3':w6.frozen? ⟨GO,3,none⟩=false:=HEB6.out.blk.frozen 3;clear ho6 hb6;go_simp)
    all_goals(
     clear c7 e3 c7' e3' f3' CT;have hGG:G≠GO:=(by have:=HGO.out;omega);have hGH:G+1≠GO:=(by have:=HGO.out;have:=HZ0.out.lt;omega);have HX7:=ae (HX6.out.far (p:=⟨GO,3,none⟩) hGG (.slice a6 tr.length c6));have HZ7:=ae (HZ6.out.far (p:=⟨GO,3,none⟩) hGH (.slice a6 tr.length c6));have HE7:=ae (HEB6.out.set (.slice a6 tr.length c6));have HO7:Hid (OwnI (w6.setCell ⟨GO,3,none⟩ (.slice a6 tr.length c6)) w0.heap.size (.slice a3 n3 c3) m.drives):=ae (HO6.out.keepO fun b hb=>aZ _ _ _ b fun e=>Ty.ne2 e (HO6.out.ty b hb) (Blk.ty HEB6.out.blk) (by decide));have HB7:Hid (Below G w0 (w6.setCell ⟨GO,3,none⟩ (.slice a6 tr.length c6))):=ae (HB6.out.setCell (p:=⟨GO,3,none⟩) (by show G≤GO;have:=HGO.out;omega) _)
     have HR7:Hid ((rI tr).ok (w6.setCell ⟨GO,3,none⟩ (.slice a6 tr.length c6)) (fun b=>Ty 3 (w6.setCell ⟨GO,3,none⟩ (.slice a6 tr.length c6)) b∧G≤b) [.slice a6 tr.length c6]):=ae ((rI tr).keep (Iu HN6.out) fun b hb hl=>by
      have h:(w6.setCell ⟨GO,3,none⟩ (.slice a6 tr.length c6)).heap[b]? =w6.heap[b]? :=aZ _ _ _ b fun e=>Ty.ne2 e hb.1 (Blk.ty HEB6.out.blk) (by decide);exact⟨h,hb.1.keep h,aQ HRG.out hb.2⟩)
     clear HX6 HZ6 HEB6 HO6 HB6 HN6 HX HZ HEB HO HB HRT hGG hGH;generalize w6.setCell ⟨GO,3,none⟩ (.slice a6 tr.length c6)=w7 at*;go_wp2_with fail;go_roundw
     case rel=>exact .inr ⟨by go_num,_,_,_,HO7,HX7,HZ7,HB7,HE7,HR7⟩
     case measure=>simp[intOf])
   ·obtain⟨x0,x1,x2,x3,x4,x5,x6,x7⟩:=dc HX'.out
    have HRP:Hid ((rS 4 ([(⟨nm,ob,ln,tr⟩:dM)].map bZ)).ok wr (fun b=>(b=GO∨Ty 3 wr b)∧G≤b) [.slice (some ⟨GO,0,none⟩) 1 cO]):=ae (HEB'.out.rep ((rI tr).more HRT'.out fun b hb _=>⟨.inr hb.1,hb.2⟩) ⟨.inl rfl,by have:=HGO.out;omega⟩);have HTE:=ae (Blk.ty HEB'.out.blk)
    go_wp2_with (change wpList _ _ _ (Oper.mk none (Op.store 154 _ _) _ _ _ _ :: _) _ _;refine wpList_store_row rfl 154 _ _ rfl (G+1) #[.int .i64 m.seq,.int .i64 m.next,.int .i64 m.K,.int .i64 m.H,.int .i64 m.Z,.int .i64 m.extra,.slice a3 n3 c3,.slice (some ⟨GO,0,none⟩) 1 cO] rfl rfl 154 _ HZ'.out (by kernel_rfl) rfl (by kernel_rfl) ?_)
    have HR:=ae (HZ'.out.row #[.int .i64 m.seq,.int .i64 m.next,.int .i64 m.K,.int .i64 m.H,.int .i64 m.Z,.int .i64 m.extra,.slice a3 n3 c3,.slice (some ⟨GO,0,none⟩) 1 cO]);have HB6:=ae (bR HB'.out (Nat.le_succ G) #[.int .i64 m.seq,.int .i64 m.next,.int .i64 m.K,.int .i64 m.H,.int .i64 m.Z,.int .i64 m.extra,.slice a3 n3 c3,.slice (some ⟨GO,0,none⟩) 1 cO])
    have hother:∀b,(b=GO∨Ty 3 wr b)→(wr.setRow (G+1) #[.int .i64 m.seq,.int .i64 m.next,.int .i64 m.K,.int .i64 m.H,.int .i64 m.Z,.int .i64 m.extra,.slice a3 n3 c3,.slice (some ⟨GO,0,none⟩) 1 cO]).heap[b]? =wr.heap[b]? :=fun b hb=>setRow_other _ _ _ _ (by
     intro e;rcases hb with h | h
     ·subst h
      exact Ty.ne2 (by first | exact e | exact e.symm) HTE.out (Blk.ty HZ'.out) (by decide)
     ·exact Ty.ne2 (by first | exact e | exact e.symm) h (Blk.ty HZ'.out) (by decide))
    have HO6:Hid (OwnI (wr.setRow (G+1) #[.int .i64 m.seq,.int .i64 m.next,.int .i64 m.K,.int .i64 m.H,.int .i64 m.Z,.int .i64 m.extra,.slice a3 n3 c3,.slice (some ⟨GO,0,none⟩) 1 cO]) w0.heap.size (.slice a3 n3 c3) m.drives):=ae (HO'.out.keepO fun b hb=>hother b (.inr (HO'.out.ty b hb)))
    have HR6:Hid ((rS 4 ([(⟨nm,ob,ln,tr⟩:dM)].map bZ)).ok (wr.setRow (G+1) #[.int .i64 m.seq,.int .i64 m.next,.int .i64 m.K,.int .i64 m.H,.int .i64 m.Z,.int .i64 m.extra,.slice a3 n3 c3,.slice (some ⟨GO,0,none⟩) 1 cO]) (fun b=>Fu (wr.setRow (G+1) #[.int .i64 m.seq,.int .i64 m.next,.int .i64 m.K,.int .i64 m.H,.int .i64 m.Z,.int .i64 m.extra,.slice a3 n3 c3,.slice (some ⟨GO,0,none⟩) 1 cO]) b∧G≤b) [.slice (some ⟨GO,0,none⟩) 1 cO]):=ae ((rS 4 _).keep HRP.out fun b hb hl=>⟨hother b hb.1,by
     have h:=hother b hb.1;rcases hb.1 with e | e
     ·exact Mt.not (t:=190) ((e▸HTE.out).keep h) (by decide) (by decide) (by decide)
     ·exact Mt.not (e.keep h) (by decide) (by decide) (by decide),hb.2⟩)
    clear HX' HZ' HB' HO' HEB' HRT' HRP HTE hother x0 x1 x2 x3 x4 x5 x6 x7;generalize wr.setRow (G+1) #[.int .i64 m.seq,.int .i64 m.next,.int .i64 m.K,.int .i64 m.H,.int .i64 m.Z,.int .i64 m.extra,.slice a3 n3 c3,.slice (some ⟨GO,0,none⟩) 1 cO]=w6 at*;go_wp2_with fail
    (try simp only[Exit.inBlock,Exit.then])
    refine bodyPost_ret (results_cell_row rfl _ _ (G+1) 154 #[.int .i64 m.seq,.int .i64 m.next,.int .i64 m.K,.int .i64 m.H,.int .i64 m.Z,.int .i64 m.extra,.slice a3 n3 c3,.slice (some ⟨GO,0,none⟩) 1 cO] (0,0) _ rfl HR.out underlying154 rfl (by kernel_rfl)) rfl ?_;rw[←HG.out];exact⟨_,_,_,rfl,HO6.out.base (by omega),HR6.out,(HG.out▸HB0.out).trans HB6.out⟩
def uz(seq num many:Nat)(b:List Nat):List Nat:=cellL 2 (bC seq 4++[num,many,b.length]++b)
theorem Mk(n:Nat):bC n 4=[n/16777216%256,n/65536%256,n/256%256,n%256]:=by
 simp[bC]
theorem OwnB.ofBlk{w:World}{C g:Nat}{l:List Nat}(h:Blk w g 5 (bn l))(hC:C≤g)(hl:l.length≤maxLen):OwnB w C (.slice (some ⟨g,0,none⟩) l.length l.length) l:=
 ⟨by rw[bg,Nat.mul_one],.inr ⟨g,l.length,bn l,rfl,hC,h,ah _,hl,by simp[bn,bg],by simp[bn,bg,aO]⟩⟩
theorem I8(seq num many:Nat)(b:List Nat)(a:Option Addr)(n c:Nat)(w:World)(hs:seq<4294967296)(hnum:num≤255)(hmany:many≤255)(hx:Rd w w.heap.size a n (ba b))(hb:By b)(hn:n≤48)(hnil:a=none→c=0):
 Calls prog 163 #[.int .i64 seq,.int .i64 num,.int .i64 many,.slice a n c] w fun e w'=>∃g,e=.returned (.slice (some ⟨g,0,none⟩) 64 64)∧w.heap.size≤g∧Blk w' g 5 (bn (uz seq num many b))∧Below w.heap.size w w':=by
 have hl:b.length=n:=by have:=hx.len;rwa [bg] at this
 obtain⟨s0,hs0⟩:∃s0,s0=seq/16777216:=⟨_,rfl⟩;obtain⟨s1,hs1⟩:∃s1,s1=seq/65536%256:=⟨_,rfl⟩;obtain⟨s2,hs2⟩:∃s2,s2=seq/256%256:=⟨_,rfl⟩;obtain⟨s3,hs3⟩:∃s3,s3=seq%256:=⟨_,rfl⟩;have HH:Hid (uz seq num many b=cellL 2 ([s0,s1,s2,s3,num,many,n]++b)):=ae (by unfold uz;rw[Mk,hl,show seq/16777216%256=seq/16777216 by omega,hs0,hs1,hs2,hs3];rfl);have hi0:(seq:Int)/16777216=(s0:Int):=by omega
 have hi1:(seq:Int)/65536%256=(s1:Int):=by omega
 have hi2:(seq:Int)/256%256=(s2:Int):=by omega
 have hi3:(seq:Int)%256=(s3:Int):=by omega
 have hi4:(num:Int)%256=(num:Int):=by omega
 have hi5:(many:Int)%256=(many:Int):=by omega
 have hi6:(n:Int)%256=(n:Int):=by omega
 have HB7:Hid (By [s0,s1,s2,s3,num,many,n]):=ae (by intro x hx;simp at hx;omega);have hba:=(az w.heap.size w).alloc (ah _) (.cells (bn [s0,s1,s2,s3,num,many,n]) 5);have HBA:=ae hba;have HX1:=ae (hx.below hba (ah _));have HO1:Hid (OwnB (w.alloc (.cells (bn [s0,s1,s2,s3,num,many,n]) 5)) w.heap.size (.slice (some ⟨w.heap.size,0,none⟩) 7 7) [s0,s1,s2,s3,num,many,n]):=ae (OwnB.ofBlk (Blk.new w _ (bn [s0,s1,s2,s3,num,many,n])) (ah _) (by simp[maxLen]));have hml:[s0,s1,s2,s3,num,many,n].length+n≤1000000:=by simp;omega
 have hsz:=hba.size;have HBY:=ae hb;have HL:=ae hl;clear hs0 hs1 hs2 hs3 hx hb hba hl;go_enter func163,ntmps163
 go_wp2_with (at_builtin;refine kS (w:=w.alloc (.cells (bn [s0,s1,s2,s3,num,many,n]) 5)) (C:=w.heap.size) (xs:=[s0,s1,s2,s3,num,many,n]) (ys:=b) rfl _ _ rfl HO1.out hsz hml rfl rfl hnil HX1.out ?_)
 intro v2 w2 hO2 hb2 hg2 hat2;have hlt:([s0,s1,s2,s3,num,many,n]++b).length=n+7:=by rw[aJ,HL.out];simp;omega
 obtain⟨a2,c2,rfl,hrd2,hnil2⟩:=hO2.rd2 hlt;have HB2:=ae (HBA.out.trans hb2);have CP:=ae (sJ 2 ([s0,s1,s2,s3,num,many,n]++b) a2 (n+7) c2 w2 (by omega) (by omega) hrd2 (fun x hx=>(List.mem_append.1 hx).elim (HB7.out x) (HBY.out x)) (by omega));clear hO2 hb2 hg2 hat2 hlt hrd2 hnil2 HO1 HX1 HBA hi0 hi1 hi2 hi3 hi4 hi5 hi6 hml hsz;generalize [s0,s1,s2,s3,num,many,n]++b=l at*;go_wp2_with fail;refine CP.out.mono ?_;rintro e w3 ⟨g,rfl,hg,hbk,hb3⟩;have HK:=ae hbk;have HB3:=ae (HB2.out.trans (hb3.mono HB2.out.size));have HG:=ae (aQ HB2.out.size hg);clear hg hbk hb3 CP;go_wp2_with fail;go_ret;exact⟨g,rfl,HG.out,by rw[HH.out];exact HK.out,HB3.out⟩
def bY(m:dC):List Nat:=uz m.seq 0 1 (gZ m)
theorem kR(m:dC)(hone:m.objs.length≤1)(a1 a2:Option Addr)(n1 c1 n2 c2:Nat)(F:Nat→Prop)(w:World)(hd:(rI m.drives).ok w F [.slice a1 n1 c1])(hdl:m.drives.length=n1)(ho:(rS 4 (m.objs.map bZ)).ok w F [.slice a2 n2 c2])(hol:m.objs.length=n2)(hm:lm m)
 (n0:Nat)(hpl:(gZ m).length=n0)(h1:1≤n0)(h48:n0≤48)(hpb:By (gZ m)):
 Calls prog 89 #[.agg (bF m (.slice a1 n1 c1) (.slice a2 n2 c2))] w fun e w'=>∃b o c g,e=.returned (.slice (some ⟨b,o,none⟩) 1 c)∧w'.cell? ⟨b,o,none⟩=some (.slice (some ⟨g,0,none⟩) 64 64)∧Blk w' g 5 (bn (bY m))∧Below w.heap.size w w':=by
 have S0:Hid (Sx w (w.alloc (.cells (bF m (.slice a1 n1 c1) (.slice a2 n2 c2)) 154)) [bu w.heap.size 154 (bF m (.slice a1 n1 c1) (.slice a2 n2 c2)),eR F (.slice a1 n1 c1) (rI m.drives),eR F (.slice a2 n2 c2) (rS 4 (m.objs.map bZ))]):=
  ae (((((Sx.nil w).add (eR F (.slice a2 n2 c2) (rS 4 (m.objs.map bZ))) ho).add (eR F (.slice a1 n1 c1) (rI m.drives)) hd).alloc _).add (bu _ _ _) (Blk.new w _ _))
 have CM:=ae fun w (hd:(rI m.drives).ok w F [.slice a1 n1 c1]) (ho:(rS 4 (m.objs.map bZ)).ok w F [.slice a2 n2 c2])=>EL m hone a1 a2 n1 c1 n2 c2 F w hd hdl ho hol hm;have hsq:m.seq<4294967296:=by have:=hm.1;omega
 have HSQ:=ae hsq;have HPB:=ae hpb;have HPL:=ae hpl;have HPG:Hid (bY m=uz m.seq 0 1 (gZ m)):=ae rfl;have hq:Int.tdiv ((n0:Int)+48-1) 48=1:=by rw[Int.tdiv_eq_ediv_of_nonneg (by omega)];omega
 have hq':Int.tdiv ((n0:Int)+47) 48=1:=by rw[Int.tdiv_eq_ediv_of_nonneg (by omega)];omega
 have h48I:(n0:Int)≤48:=by omega
 unfold bF at*;clear hd ho hm hpb hpl hone hol hdl hsq;go_enter func89,ntmps89;go_wp2_with fail;generalize w.alloc (.cells #[.int .i64 m.seq,.int .i64 m.next,.int .i64 m.K,.int .i64 m.H,.int .i64 m.Z,.int .i64 m.extra,.slice a1 n1 c1,.slice a2 n2 c2] 154)=w0 at*;refine(CM.out _ (S0.out.rep 1 rfl) (S0.out.rep 2 rfl)).mono ?_;rintro e w1 ⟨v1,rfl,ho1,hb1⟩;have S1:=ae (S0.out.step hb1);obtain⟨gp,cp,e,hgp1,hgp2⟩:=ho1.form (by rw[HPL.out];omega);rw[HPL.out] at e;subst e;obtain⟨-,hcp,-⟩:=ho1.caps;have HOP:=ae ho1;generalize hG:w.heap.size=G at*;have HG:=ae hG;clear hG hb1 ho1 S0 CM hgp1 hgp2;have m0:w1.cell? ⟨G,0,none⟩=some (.int .i64 m.seq):=(S1.out.blk 0 rfl).cell 0;go_wp2_with fail;go_loopw [5,16] (fun v i wr=>(i=.int .i64 0∧v=.slice none 0 0∧Hid (wr=w1))∨(i=.int .i64 1∧∃b o c g,v=.slice (some ⟨b,o,none⟩) 1 c∧Hid (wr.cell? ⟨b,o,none⟩=some (.slice (some ⟨g,0,none⟩) 64 64))∧Hid (Blk wr g 5 (bn (bY m)))∧Hid (Below w1.heap.size w1 wr))) (fun _ i _=>1-(intOf i).toNat)
 case atStart=>exact .inl ⟨rfl,rfl,ae rfl⟩
 case round=>
  rcases hrel with⟨rfl,rfl,HW⟩ | ⟨rfl,b,o,c,g,rfl,HC,HK,HB⟩
  ·obtain rfl:=HW.out
   have hcpI:(n0:Int)≤(cp:Int):=(by omega);have hcpN:¬cp=0:=(by omega);have hcp0:(0:Int)≤(cp:Int):=(by omega);have hmin:min (n0:Int) 48=(n0:Int):=(by omega);have hw0:IntKind.i64.wrap 0=0:=by decide
   have CP:Hid (Calls prog 163 #[.int .i64 m.seq,.int .i64 0,.int .i64 1,.slice (some ⟨gp,0,none⟩) n0 cp] wr.drew fun e w'=>∃g,e=.returned (.slice (some ⟨g,0,none⟩) 64 64)∧wr.drew.heap.size≤g∧Blk w' g 5 (bn (bY m))∧Below wr.drew.heap.size wr.drew w'):=ae (by
    obtain⟨ap,cp',e,hrp,-⟩:=HOP.out.rd2 HPL.out;injection e with e1 _ e3;subst e1 e3;exact I8 m.seq 0 1 (gZ m) _ n0 cp wr.drew HSQ.out (by omega) (by omega) hrp HPB.out h48 (fun e=>by cases e))
   go_upto_region 8 with fail
   go_region_law (first
    | (change (if _=true then Oper.wp _ (Oper.mk (some 37) _ _ _ _ _) _ _ _ _ else _)
       refine jD (P:=prog) (w:=w3.alloc (.cells #[.slice (some ⟨g,0,none⟩) 64 64] 23)) rfl _ _ 33 rfl w3.heap.size 23 (.slice none 0 0) 24 underlying33 bQ rfl (.slice none 0 0) 0 [] rfl (World.ownsRow_nil _ _ _ _) _ (some ⟨w3.heap.size,0,none⟩) 1 1 [.slice (some ⟨g,0,none⟩) 64 64] rfl (fun e=>by cases e) HRW.out HR1.out (by omega) (by unfold maxLen;omega) (by simp) ?_;intro v4 w4 hown hg hat;have HOW:=ae hown;have HB4:Hid (Below wr.heap.size wr w4):=ae (HBA.out.grown hg HBA.out.size fun k hk=>by simp[Value.ownBlock] at hk);have HK4:Hid (Blk w4 g 5 (bn (bY m))):=ae ((hg.block g (aY HK3.out.lt (by simp)) (by simp[Value.ownBlock])).trans (HK3.out.alloc _));clear hown hg hat)
    | (go_simp
       go_at_call 163;refine CP.out.mono ?_;rintro e w3 ⟨g,rfl,hg,hbk,hb3⟩;replace hb3:=bA hb3;have HK3:=ae hbk;have HBA:Hid (Below wr.heap.size wr (w3.alloc (.cells #[.slice (some ⟨g,0,none⟩) 64 64] 23))):=ae (hb3.alloc hb3.size _);have HRW:Hid (Rd (w3.alloc (.cells #[.slice (some ⟨g,0,none⟩) 64 64] 23)) (w3.heap.size+1) (some ⟨w3.heap.size,0,none⟩) 1 [.slice (some ⟨g,0,none⟩) 64 64]):=ae ⟨rfl,fun _=>⟨w3.heap.size,0,rfl,by omega,fun i u hu=>by rw[Nat.zero_add,(Blk.new w3 _ _).cell];simpa using hu⟩⟩;have HR1:Hid (∀u∈[Value.slice (some ⟨g,0,none⟩) 64 64],u.oneCell'=true):=ae (fun u hu=>by rw[List.mem_singleton] at hu;rw[hu];rfl);clear hg hbk hb3;go_simp))
   all_goals(
    have h9:=bV HOW.out;obtain⟨a5,c5,e5,-,-,-,-,h5⟩:=h9;obtain⟨b5,o5,rfl,-,-,hcell⟩:=h5 (by omega);have hc5:=hcell 0 _ rfl;rw[Nat.add_zero] at hc5;subst e5;have HC5:=ae hc5;clear h5 hcell hc5 HOW HRW HR1 HK3 HBA CP m0 hmin hw0;go_wp2_with fail;go_roundw
    case rel=>exact .inr ⟨by go_num,b5,o5,c5,g,rfl,HC5,HK4,HB4⟩
    case measure=>simp[intOf])
  ·go_wp2_with fail
   go_ret;exact⟨b,o,c,g,rfl,HC.out,HK.out,HG.out▸(S1.out.step HB.out).1⟩
theorem tE:(prog.info? 238).map (fun i=>(i.zero,i.size,i.bytes))=some (some (.agg #[.int .i64 0,.slice none 0 0]),2,32):=by kernel_rfl
theorem Fu.fd{w:World}{b:Nat}(h:Fu w b):Fd w b:=fun hm=>h (hm.elim .inl fun h=>.inr (.inl h))
def cN(m:dC)(L:List Nat):List (Nat×List Nat):=L.map fun s=>(s,bY m)
theorem wL(m:dC)(hone:m.objs.length≤1)(a1 a2:Option Addr)(n1 c1 n2 c2:Nat)(F:Nat→Prop)(w:World)(hd:(rI m.drives).ok w F [.slice a1 n1 c1])(hdl:m.drives.length=n1)(ho:(rS 4 (m.objs.map bZ)).ok w F [.slice a2 n2 c2])(hol:m.objs.length=n2)(hm:lm m)
 (n0:Nat)(hpl:(gZ m).length=n0)(h1:1≤n0)(h48:n0≤48)(hpb:By (gZ m))(L:List Nat)(a:Option Addr)(n c:Nat)(hL:(rI L).ok w F [.slice a n c])(hll:L.length=n)(hn:n≤64):
 Calls prog 93 #[.agg (bF m (.slice a1 n1 c1) (.slice a2 n2 c2)),.slice a n c] w fun e w'=>∃v,e=.returned v∧(rS 2 ((cN m L).map cJ)).ok w' (Fu w') [v]∧Below w.heap.size w w':=by
 have S0:Hid (Sx w (w.alloc (.cells (bF m (.slice a1 n1 c1) (.slice a2 n2 c2)) 154)) [bu w.heap.size 154 (bF m (.slice a1 n1 c1) (.slice a2 n2 c2)),eR F (.slice a1 n1 c1) (rI m.drives),eR F (.slice a2 n2 c2) (rS 4 (m.objs.map bZ)),eR F (.slice a n c) (rI L)]):=
  ae ((((((Sx.nil w).add (eR F (.slice a n c) (rI L)) hL).add (eR F (.slice a2 n2 c2) (rS 4 (m.objs.map bZ))) ho).add (eR F (.slice a1 n1 c1) (rI m.drives)) hd).alloc _).add (bu _ _ _) (Blk.new w _ _))
 have CM:=ae fun w (hd:(rI m.drives).ok w F [.slice a1 n1 c1]) (ho:(rS 4 (m.objs.map bZ)).ok w F [.slice a2 n2 c2])=>kR m hone a1 a2 n1 c1 n2 c2 F w hd hdl ho hol hm n0 hpl h1 h48 hpb;have HLL:=ae hll;have HPL64:Hid ((bY m).length=64):=ae (by unfold bY uz;exact gT (by rw[aJ,aJ,bO];simp;omega));unfold bF at*;clear hd ho hm hpb hpl hone hol hdl hL hll h1 h48;go_enter func93,ntmps93;go_wp2_with fail;generalize w.alloc (.cells #[.int .i64 m.seq,.int .i64 m.next,.int .i64 m.K,.int .i64 m.H,.int .i64 m.Z,.int .i64 m.extra,.slice a1 n1 c1,.slice a2 n2 c2] 154)=w0 at*;refine(CM.out _ (S0.out.rep 1 rfl) (S0.out.rep 2 rfl)).mono ?_;rintro e w1 ⟨b,o,cc,g,rfl,hc,hk,hb1⟩;have S1:=ae (((S0.out.step hb1).cut [eR F (.slice a n c) (rI L)] (by simp)).add (bu g 5 (bn (bY m))) hk);have HC1:=ae hc;have HG:=ae hk.lt;have HBC:=ae (World.block_lt_of_cell? w1 ⟨b,o,none⟩ hc);have hGo:w.heap.size≤w1.heap.size:=S1.out.1.size;clear hc hk hb1 S0 CM;have HO0:Hid (OwnS w1 w1.heap.size 238 2 (·=g) (.slice none 0 0) ((cN m (L.take 0)).map cJ)):=ae (OwnS.nil _ _ _ _ _);have HB0:=ae (az w1.heap.size w1);go_wp2_with fail;go_loopw [6,15] (fun v i wr=>∃k:Nat,k≤n∧i=.int .i64 k∧Hid (OwnS wr w1.heap.size 238 2 (·=g) v ((cN m (L.take k)).map cJ))∧Hid (Below w1.heap.size w1 wr)) (fun _ i _=>n-(intOf i).toNat)
 case atStart=>exact⟨0,by omega,rfl,HO0,HB0⟩
 case round=>
  clear HO0 HB0;obtain⟨k,hkn,rfl,HO,HB⟩:=hrel;have S2:=ae (S1.out.step HB.out);obtain⟨bv,nv,cv,rfl⟩:=HO.out.sl;by_cases hlt:k<n
  ·have hltI:(k:Int)<(n:Int):=by omega
   have hkl:k<L.length:=(by rw[HLL.out];exact hlt);obtain⟨a',c',e,hrd,-⟩:=dB (S2.out.rep 1 rfl) HLL.out;injection e with e1 e2 e3;subst e1 e3;obtain⟨b',o',rfl,hb',hcc⟩:=hrd.2 (by omega);have cq:=hcc k (.int .i64 (L.getD k 0:Nat)) (bM hkl)
   have HT:Hid ((cN m (L.take (k+1))).map cJ=(cN m (L.take k)).map cJ++[cJ (L.getD k 0,bY m)]):=ae (by
    unfold cN;rw[aP hkl,aW,aW,af,ag hkl];rfl)
   have hsl:((cN m (L.take k)).map cJ).length≤1000000:=(by unfold cN;rw[aG,aG,aI];omega);generalize L.getD k 0=x at*;generalize (cN m (L.take k)).map cJ=LL at*;clear hcc hrd hkl;go_wp2_with fail;rename World=>wo;clear cq;go_loopw [6,21] (fun v i wr=>(i=.int .i64 0∧v=.slice bv nv cv∧Hid (wr=wo))∨(i=.int .i64 1∧Hid (OwnS wr w1.heap.size 238 2 (·=g) v ((cN m (L.take (k+1))).map cJ))∧Hid (Below w1.heap.size w1 wr))) (fun _ i _=>1-(intOf i).toNat)
   case atStart=>exact .inl ⟨rfl,rfl,ae rfl⟩
   case round=>
    rcases hrel with⟨rfl,rfl,HW⟩ | ⟨rfl,HO2,HB2⟩
    ·obtain rfl:=HW.out
     have cr:wr.cell? ⟨b,o,none⟩=some (.slice (some ⟨g,0,none⟩) 64 64):=(HB.out.cell (p:=⟨b,o,none⟩) HBC.out).trans HC1.out;have hsz:=HB.out.size
     have HR:Hid ((cJ (x,bY m)).ok wr (fun b=>b=g∧some b≠(Value.slice bv nv cv).ownBlock) [.int .i64 x,.slice (some ⟨g,0,none⟩) 64 64]):=ae (by
      have h:=nJ (B:=rB (bY m)) (pQ (u:=.int .i64 (x:Nat)) (w:=wr) (F:=fun b=>b=g∧some b≠(Value.slice bv nv cv).ownBlock) rfl) (y:=[.slice (some ⟨g,0,none⟩) 64 64]) (by
       have h:=jJ (S2.out.blk 0 rfl) (F:=fun b=>b=g∧some b≠(Value.slice bv nv cv).ownBlock) ⟨rfl,fun e=>by have:=(HO.out.lt g e.symm).1;have:=HG.out;omega⟩ (by rw[HPL64.out];unfold maxLen;omega);rw[HPL64.out] at h;exact h)
      exact h)
     go_wp2_with (at_builtin;refine dJ (w:=wr) (w1:=wr) rfl _ _ rfl underlying162 tE rfl (by decide) (by decide) HO.out (az _ _) hsz hsl (R:=cJ (x,bY m)) HR.out rfl rfl rfl ?_)
     intro v6 w6 hO6 hb6;rw[←HT.out] at hO6;have HO6:=ae hO6;have HB6:=ae (HB.out.trans hb6);clear hO6 hb6 HO HR HT HB cr;obtain⟨b6,n6',c6',rfl⟩:=HO6.out.sl;go_wp2_with fail;go_roundw
     case rel=>exact .inr ⟨by go_num,HO6,HB6⟩
     case measure=>simp[intOf]
    ·go_wp2_with fail
     go_roundw
     case rel=>(try((repeat apply Exists.intro);refine⟨?_,rfl⟩));exact⟨k+1,by omega,by go_num,HO2,HB2⟩
     case measure=>simp[intOf];omega
  ·obtain rfl:k=n:=by omega
   have HE:Hid (L.take k=L):=ae (aO (by rw[HLL.out];exact ah _));rw[HE.out] at HO;go_wp2_with fail;go_ret;refine⟨_,rfl,?_,S2.out.1⟩
   exact(HO.out.base (ah _) fun q hq=>by
    subst hq;exact Mt.not (Blk.ty (S2.out.blk 0 rfl)) (by decide) (by decide) (by decide)).repU (by decide)
theorem Bb(L:List Nat)(F:Nat→Prop)(a:Option Addr)(n c:Nat)(w:World)(hx:(rI L).ok w F [.slice a n c])(hl:L.length=n)(hn:n≤64)(h0:0<n)(hL:∀x∈L,1≤x∧x≤512):
 Calls prog 87 #[.slice a n c] w fun e w'=>∃v,e=.returned (.tuple #[v,.bool true])∧OwnI w' w.heap.size v (List.range n)∧Below w.heap.size w w':=by
 have S0:Hid (Sx w w [eR F (.slice a n c) (rI L)]):=ae ((Sx.nil w).add (eR F (.slice a n c) (rI L)) hx);have HL:=ae hl;have HLE:=ae hL;have HO0:Hid (OwnI w w.heap.size (.slice none 0 0) (List.range 0)):=ae (OwnI.nil _ _);have HB0:=ae (az w.heap.size w);have hnI:(n:Int)≤64:=by omega
 clear hx hl hL;go_enter func87,ntmps87;go_wp2_with fail;go_loopw [4,9] (fun v i wr=>∃k:Nat,k≤n∧i=.int .i64 k∧Hid (OwnI wr w.heap.size v (List.range k))∧Hid (Below w.heap.size w wr)) (fun _ i _=>n-(intOf i).toNat)
 case atStart=>exact⟨0,by omega,rfl,HO0,HB0⟩
 case round=>
  clear HO0 HB0;obtain⟨k,hkn,rfl,HO,HB⟩:=hrel;have S1:=ae (S0.out.step HB.out)
  obtain⟨bv,nv,cv,e1,hnv⟩:∃a n c,_=Value.slice a n c∧n=k:=by
   obtain⟨a',c',e⟩:=HO.out.lenA;exact⟨a',_,c',e,List.length_range⟩
  subst e1;subst hnv;by_cases hlt:nv<n
  ·have hltI:(nv:Int)<(n:Int):=by omega
   have hkl:nv<L.length:=(by rw[HL.out];exact hlt);obtain⟨a',c',e,hrd,-⟩:=dB (S1.out.rep 0 rfl) HL.out;injection e with e1 e2 e3;subst e1 e3;obtain⟨b,o,rfl,hb,hcc⟩:=hrd.2 (by omega);have cq:=hcc nv (.int .i64 (L.getD nv 0:Nat)) (bM hkl);have hx1:=HLE.out (L.getD nv 0) (by rw[af,ag hkl];exact aU hkl);generalize L.getD nv 0=x at*;have hxI1:¬(512:Int)<(x:Int):=(by omega);have hxI2:(0:Int)<(x:Int):=(by omega);have hml:(List.range nv).length≤1000000:=(by rw[List.length_range];omega);have hsz:=HB.out.size;clear hcc hrd hx1 hkl
   go_wp2_with (at_builtin;refine ky (w:=wr) (C:=w.heap.size) (y:=nv) rfl _ _ rfl rfl HO.out hsz hml rfl rfl ?_)
   intro v2 w2 hO2 hb2;rw[←List.range_succ] at hO2;have HO2:=ae hO2;have HB2:=ae (HB.out.trans hb2);clear hO2 hb2 HO HB;go_wp2_with fail;go_roundw
   case rel=>(try((repeat apply Exists.intro);refine⟨?_,rfl⟩));exact⟨nv+1,by omega,by go_num,HO2,HB2⟩
   case measure=>simp[intOf];omega
  ·obtain rfl:nv=n:=by omega
   have h0I:(0:Int)<(nv:Int):=(by omega);go_wp2_with fail;go_ret2;exact⟨_,rfl,HO.out,HB.out⟩
section
variable {B:Nat}
theorem MC{a0 a1 a2 a3 a4 a5 a6 a7 b0 b1 b2 b3 b4 b5 b6 b7:Value}{r:Array Value}:
 ((((((((#[a0,a1,a2,a3,a4,a5,a6,a7]++r).setIfInBounds 0 b0).setIfInBounds 1 b1).setIfInBounds 2 b2).setIfInBounds 3 b3).setIfInBounds 4 b4).setIfInBounds 5 b5).setIfInBounds 6 b6).setIfInBounds 7 b7= #[b0,b1,b2,b3,b4,b5,b6,b7]++r:=by
 apply Array.ext';simp
theorem Sto.other{w w':World}{g p d0 d1 room:Nat}{m m':dC}{R0 R1:List (List Nat)}{vd vo:Value}(h:Sto B w g p d0 d1 room m R0 R1)(hc:Chg (·=g) w w')(hb:Blk w' g 157 (Ab m' vd vo p d0 d1))(h1:(rI m'.drives).ok w (Fu w) [vd])(h2:(rS 4 (m'.objs.map bZ)).ok w (Fu w) [vo]):Sto B w' g p d0 d1 room m' R0 R1:=by
 obtain⟨hd,vd',vo',hk,-⟩:=h;have hg:∀b,Fu w b→b≠g:=fun b hb e=>hb (.inr (.inr (e▸Blk.ty hk)));have hkp:∀b,Fu w b→b<w.heap.size→w'.heap[b]? =w.heap[b]? ∧Fu w' b:=fun b hb hl=>⟨hc.block b hl (hg b hb),hb.keep (hc.block b hl (hg b hb))⟩;exact⟨hd.chgTy (t:=157) hc (fun b e=>e▸Blk.ty hk) (by decide),vd,vo,hb,(rI _).keep h1 hkp,(rS 4 _).keep h2 hkp⟩
def sK(m:dC):Prop:=1≤(gZ m).length∧(gZ m).length≤48∧By (gZ m)
theorem sM{m:dC}(h:sK m):(bY m).length=64:=by
 have:=h.2.1;unfold bY uz;exact gT (by rw[aJ,aJ,bO];simp;omega)
end
end Go.Proofs.YtofgapdnadbgkaaGreatDoor
