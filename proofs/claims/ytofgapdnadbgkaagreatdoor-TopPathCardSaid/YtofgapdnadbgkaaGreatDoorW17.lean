import Derived.Test.YtofgapdnadbgkaaGreatDoorW16
set_option linter.unusedVariables false
set_option maxRecDepth 100000
set_option maxHeartbeats 400000000
namespace Go.Proofs.YtofgapdnadbgkaaGreatDoor
open Go.RowKit _root_.Go.Proofs.Tryz
theorem dV{P:Program}{fn:Func}{p q:Tmp}{ty:TypeId}(h:fn.results= #[.cell p ty,.tmp q])(tmps:Array Value)(w:World)(g:Nat)(t:TypeId)(cs:Array Value)(fr:Nat×Nat)(d:TypeDesc)
 (hp:tmps.getD p undef=.pointer (some ⟨g,0,none⟩))(hg:w.heap[g]? =some (.cells cs t fr))
 (hu:P.underlying ty=some d)(hd:(match d with | .struct _ | .array _ _=>true | _=>false)=true)(hi:(P.info? ty).map (·.size)=some cs.size):
 (results fn tmps).run P w=.ok (.tuple #[.agg cs,tmps.getD q undef]) w:=by
 rw[results_cell_tmp h];have hp':tmps[p]?.getD undef=.pointer (some ⟨g,0,none⟩):=by simpa using hp
 simp[hp',asAddr,run_loadVar_row w g t ty cs fr d hg hu hd hi,Result.andThen]
def gN:Array Value:=#[.int .i64 0,.int .i64 0,.int .i64 0,.int .i64 0,.int .i64 0,.int .i64 0,.int .u32 0,.slice none 0 0]
theorem zN:gN.all (·.oneCell')=true:=by kernel_rfl
theorem IY(obj blk id K H Z seed:Nat)(a:Option Addr)(n c:Nat):(fC obj blk id K H Z seed (.slice a n c)).all (·.oneCell')=true:=by kernel_rfl
theorem lL(bs:List Nat)(a:Option Addr)(c:Nat)(w:World)(hx:Rd w w.heap.size a 64 (ba bs))(hb:By bs)(hc:64≤c∧c≤maxLen)(hno:¬(fI bs∧bs.getD 3 0=1)):
 Calls prog 15 #[.slice a 64 c] w fun e w'=>e=.returned (.tuple #[.agg gN,.bool false])∧Below w.heap.size w w':=by
 have S0:Hid (Sx w (w.alloc (.cells (gN) 45)) [bu w.heap.size 45 (gN),jp a 64 (ba bs)]):=
  ae (((((Sx.nil w).add (jp a 64 (ba bs)) hx).alloc _).add (bu _ _ _) (Blk.new w 45 _)))
 have CT:=ae fun w (h:Rd w w.heap.size a 64 (ba bs))=>wS bs a c w h hb hc;have HNO:=ae hno;have h256:=getD_lt hb 3;have hg0:w.heap.size<(w.alloc (.cells (gN) 45)).heap.size:=by simp
 clear hx hb hc hno;unfold gN at S0 hg0;go_enter func15,ntmps15;go_wp2_with fail;generalize hw0:w.alloc (.cells #[.int .i64 0,.int .i64 0,.int .i64 0,.int .i64 0,.int .i64 0,.int .i64 0,.int .u32 0,.slice none 0 0] 45)=w0 at*;clear hw0;refine(CT.out _ (S0.out.rd 1 rfl)).mono ?_;rintro e w1 ⟨h1,h2,hb⟩;have S1:=ae (S0.out.step hb);have hP:w.heap.size≤w.heap.size:=ah _;have HP:=ae hP;clear hP;by_cases hcell:fI bs
 ·obtain⟨v,rfl,hO⟩:=h1 hcell
  have hk:¬bs.getD 3 0=1:=fun h=>HNO.out ⟨hcell,h⟩;obtain⟨b1,c1,rfl,-⟩:=hO.rd;clear h1 h2 hb hO CT;generalize bs.getD 3 0=kd at*;have hkI:¬(kd:Int)=1:=(by omega);have SB:=S1.out.blk 0 rfl;have hB5:=ae (S1.out.1);have HSB:=ae SB;clear SB
  go_wp2_with (change wpList _ _ _ (Oper.mk none (Op.store 45 _ _) _ _ _ _ :: _) _ _;refine wpList_store_row rfl 45 _ _ rfl w.heap.size gN rfl rfl 45 _ HSB.out (by kernel_rfl) rfl zN ?_)
  have HR:=ae (HSB.out.row gN);have HB6:=ae (bR hB5.out HP.out gN);clear hB5;generalize w1.setRow w.heap.size gN=w2 at*;go_wp2_with fail
  (try simp only[Exit.inBlock,Exit.then])
  refine bodyPost_ret (dV rfl _ _ w.heap.size 45 gN (0,0) _ rfl HR.out underlying45 rfl (by kernel_rfl)) rfl ?_;exact⟨rfl,HB6.out⟩
 ·obtain rfl:=h2 hcell
  have HSB:=ae (S1.out.blk 0 rfl);have hB5:=ae (S1.out.1);clear h1 h2 hb CT
  go_wp2_with (change wpList _ _ _ (Oper.mk none (Op.store 45 _ _) _ _ _ _ :: _) _ _;refine wpList_store_row rfl 45 _ _ rfl w.heap.size gN rfl rfl 45 _ HSB.out (by kernel_rfl) rfl zN ?_)
  have HR:=ae (HSB.out.row gN);have HB6:=ae (bR hB5.out HP.out gN);clear hB5;generalize w1.setRow w.heap.size gN=w2 at*;go_wp2_with fail
  (try simp only[Exit.inBlock,Exit.then])
  refine bodyPost_ret (dV rfl _ _ w.heap.size 45 gN (0,0) _ rfl HR.out underlying45 rfl (by kernel_rfl)) rfl ?_;exact⟨rfl,HB6.out⟩
theorem Ht{w:World}{g:Nat}{t:TypeId}{a0 a1 a2 a3 a4 a5 a6 a7 b0 b1 b2 b3 b4 b5 b6 b7:Value}(h:Blk w g t #[a0,a1,a2,a3,a4,a5,a6,a7]):
 Blk ((((((((w.setCell ⟨g,0,none⟩ b0).setCell ⟨g,1,none⟩ b1).setCell ⟨g,2,none⟩ b2).setCell ⟨g,3,none⟩ b3).setCell ⟨g,4,none⟩ b4).setCell ⟨g,5,none⟩ b5).setCell ⟨g,6,none⟩ b6).setCell ⟨g,7,none⟩ b7) g t #[b0,b1,b2,b3,b4,b5,b6,b7]:=by
 have:=(((((((h.set 0 b0).set 1 b1).set 2 b2).set 3 b3).set 4 b4).set 5 b5).set 6 b6).set 7 b7;simpa using this
theorem nT{w a:World}{B g:Nat}{b0 b1 b2 b3 b4 b5 b6 b7:Value}(h:Below B a w)(hg:B≤g):
 Below B a ((((((((w.setCell ⟨g,0,none⟩ b0).setCell ⟨g,1,none⟩ b1).setCell ⟨g,2,none⟩ b2).setCell ⟨g,3,none⟩ b3).setCell ⟨g,4,none⟩ b4).setCell ⟨g,5,none⟩ b5).setCell ⟨g,6,none⟩ b6).setCell ⟨g,7,none⟩ b7):=
 (((((((h.setCell (p:=⟨g,0,none⟩) hg b0).setCell (p:=⟨g,1,none⟩) hg b1).setCell (p:=⟨g,2,none⟩) hg b2).setCell (p:=⟨g,3,none⟩) hg b3).setCell (p:=⟨g,4,none⟩) hg b4).setCell (p:=⟨g,5,none⟩) hg b5).setCell (p:=⟨g,6,none⟩) hg b6).setCell (p:=⟨g,7,none⟩) hg b7
theorem Hu{w:World}{g:Nat}{t:TypeId}{a0 a1 a2 a3 a4 a5 a6 a7 b3 b4 b5:Value}(h:Blk w g t #[a0,a1,a2,a3,a4,a5,a6,a7]):
 Blk (((w.setCell ⟨g,3,none⟩ b3).setCell ⟨g,4,none⟩ b4).setCell ⟨g,5,none⟩ b5) g t #[a0,a1,a2,b3,b4,b5,a6,a7]:=by
 have:=((h.set 3 b3).set 4 b4).set 5 b5;simpa using this
theorem EG(bd:List Nat)(g o k c n:Nat)(w:World)(h:Rd w w.heap.size (some ⟨g,0,none⟩) 55 (ba bd))(hb:By bd)(hk0:0<k)(hk4:k≤4)(hok:o+k≤55)(hn:dQ ((bd.drop o).take k)=n):
 Calls prog 35 #[.slice (some ⟨g,o,none⟩) k c] w fun e w'=>e=.returned (.int .i64 n)∧∃j,w'=w.drewN j:=by
 obtain⟨b,p,e1,_,h2⟩:=pG h hk0 hok;injection e1 with e1;injection e1 with e1 e2 _;subst e1 e2;rw[Nat.zero_add] at h2;have:=zM ((bd.drop o).take k) _ (some ⟨g,o,none⟩) k c w h2 (fun x hx=>hb x (List.mem_of_mem_drop (List.mem_of_mem_take hx))) hk4;rw[hn] at this;exact this
theorem qR(obj blk id K H Z seed:Nat)(d bs:List Nat)(a:Option Addr)(c:Nat)(w:World)(ho:obj≤16777215)(h8:blk<8)(hi:id≤65535)(hk:ed K H Z=true)(hs:seed<4294967296)
 (hdl:d.length=Z)(hby:By d)(hbs:bs=cellL 1 (gS obj blk id K H Z seed d))(hx:Rd w w.heap.size a 64 (ba bs))(hb:By bs)(hc:64≤c∧c≤maxLen):
 Calls prog 15 #[.slice a 64 c] w fun e w'=>∃a' c',e=.returned (.tuple #[nW obj blk id K H Z seed (.slice a' Z c'),.bool true])∧(rB d).ok w' (Fr w.heap.size) [.slice a' Z c']∧Below w.heap.size w w':=by
 have hok:=of_decide_eq_true hk;have hrl:=jP obj blk id K H Z seed d;obtain⟨q1,q2,q3⟩:=cell_of (kind:=1) (body:=gS obj blk id K H Z seed d) (by omega) (by omega);rw[←hbs] at q1 q2 q3;have CT:=ae fun w (h:Rd w w.heap.size a 64 (ba bs))=>(wS bs a c w h hb hc).mono fun e w' (h':_∧_∧_)=>(⟨h'.1 q1,h'.2.2⟩:(∃v,e=.returned (.tuple #[.int .i64 (bs.getD 3 0:Nat),v,.bool true])∧OwnB w' w.heap.size v ((bs.drop 4).take 55))∧Below w.heap.size w w');rw[q2,q3] at CT
 have S0:Hid (Sx w (w.alloc (.cells gN 45)) [bu w.heap.size 45 gN,jp a 64 (ba bs)]):=
  ae (((((Sx.nil w).add (jp a 64 (ba bs)) hx).alloc _).add (bu _ _ _) (Blk.new w 45 _)))
 have hZ:Z≤24:=by omega
 unfold gN at S0;obtain⟨bd,hbd⟩:∃bd,bd=gS obj blk id K H Z seed d++List.replicate (55-(gS obj blk id K H Z seed d).length) 0:=⟨_,rfl⟩;rw[←hbd] at CT;have hbl:bd.length=55:=by rw[hbd,aJ,aN,hrl,hdl];omega
 have hbb:By bd:=by
  rw[←q3] at hbd;rw[hbd];exact fun x hx=>hb x (List.mem_of_mem_drop (List.mem_of_mem_take hx))
 have HBB:=ae hbb;have HBL:=ae hbl;have HBD:=ae hbd
 have t1:dQ ((bd.drop 0).take 3)=obj:=by
  have e:(bd.drop 0).take 3=bC obj 3:=(by rw[hbd];unfold gS;simp only[List.append_assoc];exact List.take_left' (bO _ _));rw[e];exact told3 (by omega)
 have t2:dQ ((bd.drop 3).take 1)=blk:=by
  have e:(bd.drop 3).take 1=bC blk 1:=(by rw[hbd];rfl);rw[e];exact told1 (by omega)
 have t3:dQ ((bd.drop 4).take 2)=id:=by
  have e:(bd.drop 4).take 2=bC id 2:=(by rw[hbd];rfl);rw[e];exact told2 (by omega)
 have t4:dQ ((bd.drop 6).take 1)=K:=by
  have e:(bd.drop 6).take 1=[K]:=(by rw[hbd];rfl);rw[e];simp[dQ]
 have t5:dQ ((bd.drop 7).take 1)=H:=by
  have e:(bd.drop 7).take 1=[H]:=(by rw[hbd];rfl);rw[e];simp[dQ]
 have t6:dQ ((bd.drop 8).take 1)=Z:=by
  have e:(bd.drop 8).take 1=[Z]:=(by rw[hbd];rfl);rw[e];simp[dQ]
 have t7:dQ ((bd.drop 9).take 4)=seed:=by
  have e:(bd.drop 9).take 4=bC seed 4:=(by rw[hbd];rfl);rw[e];exact told4 hs
 have t8:(bd.drop 13).take Z=d:=by
  have e:bd.drop 13=d++List.replicate (55-(gS obj blk id K H Z seed d).length) 0:=(by rw[hbd];rfl);rw[e];exact List.take_left' hdl
 have CTo:Hid (∀(g:Nat) (w:World),Rd w w.heap.size (some ⟨g,0,none⟩) 55 (ba bd)→∀(o k c:Nat),0<k→k≤4→o+k≤55→Calls prog 35 #[.slice (some ⟨g,o,none⟩) k c] w fun e w'=>e=.returned (.int .i64 (dQ ((bd.drop o).take k):Nat))∧∃i,w'=w.drewN i):=
  ae fun g w h o k c h1 h2 h3=>EG bd g o k c _ w h HBB.out h1 h2 h3 rfl
 obtain⟨tn,htn⟩:∃tn:Nat→Nat→Nat,∀o k,dQ ((bd.drop o).take k)=tn o k:=⟨_,fun _ _=>rfl⟩;simp only[htn] at CTo t1 t2 t3 t4 t5 t6 t7;clear htn;have CM:=ae fun w=>eP K H Z w;rw[hk] at CM;have CC:=ae fun (w1:World) (g cg:Nat) (h:Rd w1 w1.heap.size (some ⟨g,13,none⟩) Z (ba d))=>dF d _ (some ⟨g,13,none⟩) Z (cg-13) w1 h (ah _) (fun e=>by cases e) (by omega);have CP:=ae fun (a:Option Addr) (c:Nat) (w:World) (h1:Rd w w.heap.size a Z (ba d)) (h2:a=none→c=0)=>nY obj blk id K H Z seed d a c w ho h8 hi hk hs h1 hby h2;have HBSB:=ae hb;have HDL:=ae hdl;have HBS:=ae hbs;unfold bL at CM;unfold nW at CP ⊢;have hZ1:1≤Z:=by omega
 have hsm:(seed:Int)%4294967296=(seed:Int):=by omega
 clear hbd hbl hbb hb hc hx hbs q1 q2 q3;go_enter func15,ntmps15;go_wp2_with fail;generalize w.alloc (.cells #[.int .i64 0,.int .i64 0,.int .i64 0,.int .i64 0,.int .i64 0,.int .i64 0,.int .u32 0,.slice none 0 0] 45)=w0 at*;refine(CT.out _ (S0.out.rd 1 rfl)).mono ?_;rintro e w1 ⟨⟨v,rfl,hO⟩,hb1⟩;have S1:=ae (S0.out.step hb1)
 obtain⟨g,cg,rfl,hg⟩:∃g cg,v=.slice (some ⟨g,0,none⟩) 55 cg∧55≤cg∧cg≤maxLen:=by
  have hO':OwnB w1 w0.heap.size v bd:=hO;obtain⟨g,cap,e,_⟩:=World.ownsRow.form hO' (by rw[HBL.out];omega);rw[HBL.out] at e;subst e;have:=hO'.caps;exact⟨g,cap,rfl,this.2⟩
 have hR1:=(jC hO);rw[HBL.out] at hR1;obtain⟨aa,cc,e,hR1,-⟩:=hR1;injection e with e1 e2 e3;subst e1 e3;have HR1:=ae hR1;obtain⟨hg1,hg2⟩:=hg;have T:=ae (CTo.out g);have R1:Hid (∀n,Rd (w1.drewN n) (w1.drewN n).heap.size (some ⟨g,0,none⟩) 55 (ba bd)):=ae fun n=>hR1;have R2:Hid (∀n m,Rd (((w1.drewN n).alloc (.cells gN 45)).drewN m) (((w1.drewN n).alloc (.cells gN 45)).drewN m).heap.size (some ⟨g,0,none⟩) 55 (ba bd)):=ae fun n m=>(hR1.below (below_drewN ((below_drewN (az w1.heap.size w1) n).alloc (ah _) (.cells gN 45)) m) (ah _)).more (by simp);have hcI1:(1:Int)≤(cg:Int):=by omega
 have hcN1:¬cg=1:=by omega
 have hcI2:(2:Int)≤(cg:Int):=by omega
 have hcN2:¬cg=2:=by omega
 have hcI3:(3:Int)≤(cg:Int):=by omega
 have hcN3:¬cg=3:=by omega
 have hcI4:(4:Int)≤(cg:Int):=by omega
 have hcN4:¬cg=4:=by omega
 have hcI6:(6:Int)≤(cg:Int):=by omega
 have hcN6:¬cg=6:=by omega
 have hcI7:(7:Int)≤(cg:Int):=by omega
 have hcN7:¬cg=7:=by omega
 have hcI8:(8:Int)≤(cg:Int):=by omega
 have hcN8:¬cg=8:=by omega
 have hcI9:(9:Int)≤(cg:Int):=by omega
 have hcN9:¬cg=9:=by omega
 have hcI13:(13:Int)≤(cg:Int):=by omega
 have hcN13:¬cg=13:=by omega
 clear CTo CT hb1 hO e2;have fz:∀n m i,(((w1.drewN n).alloc (.cells gN 45)).drewN m).frozen? ⟨w1.heap.size,i,none⟩=false:=fun n m i=>(Blk.new (w1.drewN n) _ _).frozen i;have cz:∀n m i,(((w1.drewN n).alloc (.cells gN 45)).drewN m).cell? ⟨w1.heap.size,i,none⟩=gN[i]? :=fun n m i=>(Blk.new (w1.drewN n) _ _).cell i;have fz0:∀n i,((w1.drewN n).alloc (.cells gN 45)).frozen? ⟨w1.heap.size,i,none⟩=false:=fun n i=>(Blk.new (w1.drewN n) _ _).frozen i;have cz0:∀n i,((w1.drewN n).alloc (.cells gN 45)).cell? ⟨w1.heap.size,i,none⟩=gN[i]? :=fun n i=>(Blk.new (w1.drewN n) _ _).cell i;unfold gN at fz cz R2 fz0 cz0;go_upto_region 4 with fail;go_cut [7] (fun v wx=>v=.pointer (some ⟨w1.heap.size,0,none⟩)∧Hid (Blk wx w1.heap.size 45 #[.int .i64 obj,.int .i64 blk,.int .i64 id,.int .i64 0,.int .i64 0,.int .i64 0,.int .u32 0,.slice none 0 0])∧Hid (Below w1.heap.size w1 wx))
 case first=>
  go_region_with (first
   | (go_at_call 35
      refine(T.out _ (by first | exact R1.out _ | exact R2.out _ 0 | exact R2.out _ _) _ _ _ (by decide) (by decide) (by decide)).mono ?_;rintro e wA ⟨rfl,j1,rfl⟩))
  all_goals(
   go_wp2_with fail;go_meet;refine⟨rfl,ae ?_,ae ?_⟩
   ·exact Ht (Blk.new (w1.drewN 1) _ _)
   ·first
    | exact nT ((below_drewN (az w1.heap.size w1) _).alloc (ah _) _) (ah _)
    | exact nT (below_drewN ((below_drewN (az w1.heap.size w1) _).alloc (ah _) _) _) (ah _)
    | exact nT (below_drewN ((az w1.heap.size w1).alloc (ah _) _) _) (ah _))
 case rest=>
  obtain⟨rfl,HBk,HBw⟩:=hcut;have hsw:=HBw.out.size;have hlt:=HBk.out.lt;have hRc:∀n,Rd (wc.drewN n) (wc.drewN n).heap.size (some ⟨g,0,none⟩) 55 (ba bd):=fun n=>(hR1.below HBw.out (ah _)).more hsw;have RC:=ae hRc;have fz2:∀n i,(wc.drewN n).frozen? ⟨w1.heap.size,i,none⟩=false:=fun n i=>HBk.out.frozen i;obtain⟨k0,k1,k2,k3,k4,k5,k6,k7⟩:=rF HBk.out;have kc3:∀n,(wc.drewN n).cell? ⟨w1.heap.size,3,none⟩=some (.int .i64 0):=fun n=>k3;have kc4:∀n,(wc.drewN n).cell? ⟨w1.heap.size,4,none⟩=some (.int .i64 0):=fun n=>k4;have kc5:∀n,(wc.drewN n).cell? ⟨w1.heap.size,5,none⟩=some (.int .i64 0):=fun n=>k5;clear hRc k0 k1 k2 k3 k4 k5 k6 k7 R1 R2 fz cz fz0 cz0;go_upto_region 5 with fail;go_cut [] (fun wx=>Hid (Blk wx w1.heap.size 45 #[.int .i64 obj,.int .i64 blk,.int .i64 id,.int .i64 K,.int .i64 H,.int .i64 Z,.int .u32 0,.slice none 0 0])∧Hid (Below w1.heap.size w1 wx))
  case first=>
   go_region_with (first
    | (go_at_call 35
       refine(T.out _ (by first | exact RC.out _ | exact RC.out 1) _ _ _ (by decide) (by decide) (by decide)).mono ?_;rintro e wA ⟨rfl,j1,rfl⟩))
   all_goals(
    go_wp2_with fail;go_meet;refine⟨ae ?_,ae ?_⟩
    ·exact Hu (HBk.out.drewN _)
    ·exact(((below_drewN HBw.out _).setCell (p:=⟨w1.heap.size,3,none⟩) (ah _) _).setCell (p:=⟨w1.heap.size,4,none⟩) (ah _) _).setCell (p:=⟨w1.heap.size,5,none⟩) (ah _) _)
  case rest=>
   clear HBk HBw RC fz2 kc3 kc4 kc5 hlt hsw;obtain⟨HBk,HBw⟩:=hcut;have hsw:=HBw.out.size;have hlt:=HBk.out.lt;have hRc:Rd wc wc.heap.size (some ⟨g,0,none⟩) 55 (ba bd):=(hR1.below HBw.out (ah _)).more hsw;have RC:=ae hRc;clear hRc;go_wp2_with fail;refine(T.out _ RC.out _ _ _ (by decide) (by decide) (by decide)).mono ?_;rintro e w3 ⟨rfl,j3,rfl⟩;have HBk3:=ae (HBk.out.drewN j3);have HBw3:=ae (below_drewN HBw.out j3);have hsw3:w1.heap.size≤(wc.drewN j3).heap.size:=hsw;clear HBk HBw RC hsw hlt T;generalize wc.drewN j3=w4 at*;obtain⟨k0,k1,k2,k3,k4,k5,k6,k7⟩:=rF HBk3.out;have f6:=HBk3.out.frozen 6;have hset:=HBk3.out.set 6 (.int .u32 seed);have HS:Hid (Blk (w4.setCell ⟨w1.heap.size,6,none⟩ (.int .u32 seed)) w1.heap.size 45 #[.int .i64 obj,.int .i64 blk,.int .i64 id,.int .i64 K,.int .i64 H,.int .i64 Z,.int .u32 seed,.slice none 0 0]):=ae (by simpa using hset);have HW:Hid (Below w1.heap.size w1 (w4.setCell ⟨w1.heap.size,6,none⟩ (.int .u32 seed))):=ae (HBw3.out.setCell (p:=⟨w1.heap.size,6,none⟩) (ah _) _);clear hset HBk3 HBw3;go_wp2_with fail;clear k0 k1 k2 k3 k4 k5 k6 k7 f6;generalize w4.setCell ⟨w1.heap.size,6,none⟩ (.int .u32 seed)=w5 at*;refine(CM.out _).mono ?_;rintro e w6 ⟨rfl,hb⟩;have HS6:=ae (HS.out.below hb HS.out.lt);have HW6:=ae (HW.out.trans (hb.mono HW.out.size));clear hb HS HW;obtain⟨k0,k1,k2,k3,k4,k5,k6,k7⟩:=rF HS6.out
   have hRd:Rd w6 w6.heap.size (some ⟨g,13,none⟩) Z (ba d):=by
    have h1:Rd w6 w6.heap.size (some ⟨g,0,none⟩) 55 (ba bd):=(hR1.below HW6.out (ah _)).more HW6.out.size;obtain⟨b,p,e1,_,h2⟩:=pG h1 (o:=13) (k:=Z) (by omega) (by omega);injection e1 with e1;injection e1 with e1 e2 _;subst e1 e2;rw[Nat.zero_add,t8] at h2;exact h2
   have CC1:=ae (CC.out w6 g cg hRd);have hz13:(13:Int)+(Z:Int)≤(cg:Int):=(by omega);have hz14:(13:Int)≤13+(Z:Int):=(by omega);have hsub:((13:Int)+(Z:Int)).toNat-13=Z:=(by omega);clear CC hRd;go_wp2_with fail;refine CC1.out.mono ?_;rintro e w7 ⟨v,rfl,hO,hb⟩;obtain⟨a',c',rfl,hrd,hnil⟩:=hO.rd2 HDL.out;have hlt6:=HS6.out.lt;have HR7:=ae (eY hO);have HS7:=ae (HS6.out.below hb HS6.out.lt);have HW7:=ae (HW6.out.trans (hb.mono HW6.out.size));clear k0 k1 k2 k3 k4 k5 k6 k7 hrd hO hb CC1 HS6 HW6;have f7:=HS7.out.frozen 7;have k7:=HS7.out.cell 7;have hset:=HS7.out.set 7 (.slice a' Z c');have HS8:Hid (Blk (w7.setCell ⟨w1.heap.size,7,none⟩ (.slice a' Z c')) w1.heap.size 45 #[.int .i64 obj,.int .i64 blk,.int .i64 id,.int .i64 K,.int .i64 H,.int .i64 Z,.int .u32 seed,.slice a' Z c']):=ae (by simpa using hset);have HW8:Hid (Below w1.heap.size w1 (w7.setCell ⟨w1.heap.size,7,none⟩ (.slice a' Z c'))):=ae (HW7.out.setCell (p:=⟨w1.heap.size,7,none⟩) (ah _) _);have HR8:Hid ((rB d).ok (w7.setCell ⟨w1.heap.size,7,none⟩ (.slice a' Z c')) (Fr w6.heap.size) [.slice a' Z c']):=ae ((rB d).keep HR7.out fun k hF _=>⟨aZ _ _ _ _ (by show k≠w1.heap.size;have:w6.heap.size≤k:=hF;omega),hF⟩);obtain⟨k0',k1',k2',k3',k4',k5',k6',k7'⟩:=rF HS8.out;clear hset HR7 HS7 HW7;go_wp2_with fail;clear k7 f7 k0' k1' k2' k3' k4' k5' k6' k7';generalize w7.setCell ⟨w1.heap.size,7,none⟩ (.slice a' Z c')=w8 at*;obtain⟨a2,c2,e2,hr8,-⟩:=gB HR8.out HDL.out;injection e2 with e3 _ e4;subst e3 e4;refine(CP.out _ _ w8 hr8 hnil).mono ?_;rintro e w9 ⟨gc,rfl,hgc,hK,hb⟩;have HS9:=ae (HS8.out.below hb HS8.out.lt);have HW9:=ae (HW8.out.trans (hb.mono HW8.out.size));have HR9:=ae ((rB d).new HR8.out hb);have S9:=ae (S1.out.step HW9.out);have hcl:(cellL 1 (gS obj blk id K H Z seed d)).length=64:=gT (by rw[jP];have:=HDL.out;omega);have hrc:=kX hK;rw[hcl] at hrc;have CE:=ae (jV bs (cellL 1 (gS obj blk id K H Z seed d)) w9.heap.size w9.heap.size a (some ⟨gc,0,none⟩) 64 64 c 64 w9 (S9.out.rd 1 rfl) hrc HBSB.out (by rw[←HBS.out];exact HBSB.out));rw[decide_eq_true HBS.out] at CE;clear hr8 hK hb HS8 HW8 HR8 CP hcl hrc hgc;go_wp2_with fail;refine CE.out.mono ?_;rintro e w10 ⟨rfl,rfl⟩;have HSB:=ae (S9.out.blk 0 rfl);have HB9:=ae S9.out.1;have h6:w.heap.size<w6.heap.size:=(by have:=S1.out.1.size;omega);obtain⟨k0,k1,k2,k3,k4,k5,k6,k7⟩:=rF HS9.out;clear CE S9
   go_wp2_with (change wpList _ _ _ (Oper.mk none (Op.store 45 _ _) _ _ _ _ :: _) _ _;refine wpList_store_row rfl 45 _ _ rfl w.heap.size (fC obj blk id K H Z seed (.slice a' Z c')) rfl rfl 45 _ HSB.out (by kernel_rfl) rfl (IY _ _ _ _ _ _ _ _ _ _) ?_)
   clear k0 k1 k2 k3 k4 k5 k6 k7;have HRR:=ae (HSB.out.row (fC obj blk id K H Z seed (.slice a' Z c')));have HB10:=ae (bR HB9.out (ah _) (fC obj blk id K H Z seed (.slice a' Z c')));have HR10:Hid ((rB d).ok (w9.setRow w.heap.size (fC obj blk id K H Z seed (.slice a' Z c'))) (Fr w.heap.size) [.slice a' Z c']):=ae ((rB d).keep HR9.out fun k hF _=>⟨setRow_other w9 w.heap.size k _ (by have:w6.heap.size≤k:=hF;omega),by have:w6.heap.size≤k:=hF;show w.heap.size≤k;omega⟩);generalize w9.setRow w.heap.size (fC obj blk id K H Z seed (.slice a' Z c'))=w11 at*;go_wp2_with fail
   (try simp only[Exit.inBlock,Exit.then])
   refine bodyPost_ret (dV rfl _ _ w.heap.size 45 (fC obj blk id K H Z seed (.slice a' Z c')) (0,0) _ rfl HRR.out underlying45 rfl (by kernel_rfl)) rfl ?_;exact⟨_,_,rfl,HR10.out,HB10.out⟩
theorem Dk(l:List Nat)(i v j:Nat):(l.set i v).getD j 0=if j=i∧i<l.length then v else l.getD j 0:=by
 rw[af,af,List.getElem?_set];by_cases h:i=j
 ·subst h
  rw[if_pos rfl];by_cases h2:i<l.length
  ·rw[if_pos h2,if_pos ⟨rfl,h2⟩];rfl
  ·rw[if_neg h2,if_neg (fun h=>h2 h.2),List.getElem?_eq_none (by omega)]
 ·rw[if_neg h,if_neg (fun h2=>h h2.1.symm)]
theorem Kc{l:List Nat}(h:By l){v:Nat}(hv:v<256)(i:Nat):By (l.set i v):=fun x hx=>by
 rcases List.mem_or_eq_of_mem_set hx with h2 | h2
 ·exact h x h2
 ·rw[h2];exact hv
def nP(b:List Nat)(at_ m:Nat):List Nat:=(b.set at_ (b.getD at_ 0 ^^^ 1)).set (at_+3) (b.getD (at_+3) 0 ^^^ m)
theorem Ma{b:List Nat}{at_ m:Nat}(hb:fI b)(h1:b.getD 3 0=1)(hby:By b)(ha:at_≤60)(hm:m<256):(nP b at_ m).length=64∧By (nP b at_ m)∧¬fI (nP b at_ m):=by
 have hl:=hb.1;have hlen:(nP b at_ m).length=64:=by unfold nP;rw[List.length_set,List.length_set];exact hl
 refine⟨hlen,?_,spoilt hb h1 hby ha hm hlen fun i hi=> ?_⟩
 ·unfold nP
  exact Kc (Kc hby (Nat.xor_lt_two_pow (n:=8) (getD_lt hby _) (by decide)) _) (Nat.xor_lt_two_pow (n:=8) (getD_lt hby _) hm) _
 ·unfold nP dl
  rw[Dk,Dk,List.length_set];by_cases e1:i=at_+3
  ·subst e1
   rw[if_pos ⟨rfl,by omega⟩,if_neg (by omega),if_pos rfl]
  ·rw[if_neg (fun h=>e1 h.1)]
   by_cases e2:i=at_
   ·subst e2
    rw[if_pos ⟨rfl,by omega⟩,if_pos rfl]
   ·rw[if_neg (fun h=>e2 h.1),if_neg e2,if_neg e1,Nat.xor_zero]
theorem yM{kind:Nat}{body:List Nat}(hk:kind<256)(hb:By body):By (cellL kind body):=by
 intro x hx;unfold cellL d9 b4 at hx;simp only[List.mem_append,List.mem_cons,List.not_mem_nil,or_false] at hx;rcases hx with((rfl | rfl | rfl | rfl) | h | h) | (rfl | rfl | rfl | rfl) | rfl
 ·decide
 ·decide
 ·decide
 ·exact hk
 ·exact hb x h
 ·rw[List.eq_of_mem_replicate h];decide
 ·omega
 ·omega
 ·omega
 ·omega
 ·decide
theorem Ew{obj blk id K H Z seed:Nat}{d:List Nat}(hK:K<256)(hH:H<256)(hZ:Z<256)(hd:By d):By (gS obj blk id K H Z seed d):=by
 intro x hx;unfold gS at hx;simp only[List.mem_append,List.mem_cons,List.not_mem_nil,or_false] at hx;rcases hx with((((h | h) | h) | (rfl | rfl | rfl)) | h) | h
 ·exact jm _ _ x h
 ·exact jm _ _ x h
 ·exact jm _ _ x h
 ·exact hK
 ·exact hH
 ·exact hZ
 ·exact jm _ _ x h
 ·exact hd x h
def Good(K H Z sn i:Nat)(mm:List (List Nat))(r:List Nat):Prop:=r.length=64∧By r∧(¬fI r∨∃id,id≤65535∧r=cellL 1 (gS 3 i id K H Z sn (dn K H Z (sn:Nat) mm id)))
theorem GU{K H Z sn i id:Nat}{mm:List (List Nat)}(hk:ed K H Z=true)(hm:MidOK K H Z (sn:Nat) mm)(hid:id≤65535):fI (cellL 1 (gS 3 i id K H Z sn (dn K H Z (sn:Nat) mm id)))∧(cellL 1 (gS 3 i id K H Z sn (dn K H Z (sn:Nat) mm id))).getD 3 0=1∧By (cellL 1 (gS 3 i id K H Z sn (dn K H Z (sn:Nat) mm id))):=by
 have hok:=of_decide_eq_true hk;have hl:(gS 3 i id K H Z sn (dn K H Z (sn:Nat) mm id)).length≤55:=by rw[jP,fF hk hm];omega
 obtain⟨h1,h2,-⟩:=cell_of (kind:=1) (by decide) hl;exact⟨h1,h2,yM (by decide) (Ew (by omega) (by omega) (by omega) (pz hk hm id))⟩
theorem Dl{q:Nat}(hq:1≤q)(l:List Nat):∀k,k≤iB q l.length→((List.range k).map (gA q l)).flatten.take l.length=l.take (k*q):=by
 intro k
 induction k with
 | zero=>intro _;simp
 | succ k ih=>
   intro h;have h1:=cnt_lt hq (show k<iB q l.length by omega)
   have hfl:((List.range k).map (gA q l)).flatten.length=k*q:=by
    rw[tP (q:=q) fun x hx=>by obtain⟨i,_,rfl⟩:=List.mem_map.1 hx;exact ug q l i];simp
   rw[List.range_succ,aW,List.map_cons,List.map_nil,List.flatten_append,List.flatten_cons,List.flatten_nil,List.append_nil,List.take_append,ih (by omega),hfl,Nat.succ_mul,List.take_add];congr 1;unfold gA;rw[List.take_append,aI,List.length_drop];rcases Nat.lt_or_ge q (l.length-k*q) with h2 | h2
   ·rw[Nat.min_eq_left (by omega),Nat.sub_self,List.replicate_zero,List.take_nil,List.append_nil,aO (by rw[aI,List.length_drop];omega)]
   ·rw[Nat.min_eq_right (by omega),Nat.sub_self,List.take_zero,List.append_nil,aO (by rw[aI,List.length_drop];omega)]
theorem GV{q:Nat}(hq:1≤q)(l:List Nat):(iH q l).flatten.take l.length=l:=by
 unfold iH;rw[Dl hq l _ (ah _),aO (BB hq)]
theorem GZ(q:Nat)(l:List Nat):(iH q l).length=iB q l.length:=by unfold iH;simp
theorem G0{q n:Nat}(hq:1≤q)(hn:n≤3*q):iB q n≤3:=by
 rcases Nat.lt_or_ge 3 (iB q n) with h | h
 ·have:=cnt_lt hq h
  omega
 ·exact h
def xD(a b:List Nat)(t:Nat):List Nat:=(xr a b).take t++a.drop t
theorem tK(a b:List Nat):xD a b 0=a:=by unfold xD;simp
theorem xE{a b:List Nat}{n:Nat}(ha:a.length=n)(hb:b.length=n):xD a b n=xr a b:=by
 unfold xD;rw[aO (by rw[jE (by omega)];omega),List.drop_eq_nil_of_le (by omega),List.append_nil]
theorem xG{a b:List Nat}{n t:Nat}(ha:a.length=n)(hb:b.length=n)(ht:t≤n):(xD a b t).length=n:=by
 unfold xD;rw[aJ,aI,List.length_drop,jE (by omega)];omega
theorem xH{a b:List Nat}{n t:Nat}(ha:a.length=n)(hb:b.length=n)(ht:t<n):(xD a b t).getD t 0=a.getD t 0:=by
 unfold xD;have hl:((xr a b).take t).length=t:=by rw[aI,jE (by omega)];omega
 rw[af,List.getElem?_append_right (by omega),hl,Nat.sub_self,List.getElem?_drop,Nat.add_zero,←af]
theorem xI{a b:List Nat}{n t:Nat}(ha:a.length=n)(hb:b.length=n)(ht:t<n):(xD a b t).set t (a.getD t 0 ^^^ b.getD t 0)=xD a b (t+1):=by
 have hl:((xr a b).take t).length=t:=by rw[aI,jE (by omega)];omega
 unfold xD;rw[List.set_append_right _ _ (by omega),hl,Nat.sub_self,List.drop_eq_getElem_cons (show t<a.length by omega),List.set_cons_zero];have hx:t<(xr a b).length:=by rw[jE (by omega)];omega
 rw[aP hx,List.append_assoc];congr 1;have:=lI (a:=a) (b:=b) (by omega) t;rw[af,ag hx] at this;show _ :: _=[_]++_;rw[←this];rfl
theorem mh{m:Nat→List Nat}{cols z:List Nat}{k:Nat}(h:k<cols.length):bz m (cols.take (k+1)) z=xr (bz m (cols.take k) z) (m (cols.getD k 0)):=by
 unfold bz;rw[aP h,List.foldl_append,af,ag h];rfl
theorem jW{w:World}{C g:Nat}{l:List Nat}(h:Blk w g 5 (bn l))(hC:C≤g)(hm:l.length≤maxLen):OwnB w C (.slice (some ⟨g,0,none⟩) l.length l.length) l:=
 ⟨by rw[bg,Nat.mul_one],.inr ⟨g,l.length,bn l,rfl,hC,h,ah _,hm,by rw[jy,Nat.mul_one],by rw[Nat.mul_one];unfold bn;rw[aO (by rw[bg];exact ah _)]⟩⟩
theorem og{w w':World}{g:Nat}(h:w.grownBy w' (some g))(i:Nat)(v:Value):w.grownBy (w'.setCell ⟨g,i,none⟩ v) (some g):=
 ⟨h.os,h.tape,h.output,by show _≤(w'.setCell ⟨g,i,none⟩ v).heap.size;simp only[World.setCell,Array.size_modify];exact h.size,fun k hk hne=>(aZ _ _ _ _ (by intro e;exact hne (by rw[e]))).trans (h.block k hk hne)⟩
theorem gM{w w':World}{g b o:Nat}(h:w.grownBy w' (some g))(hb:b<w.heap.size)(hne:b≠g):w'.cell? ⟨b,o,none⟩=w.cell? ⟨b,o,none⟩:=World.cell?_of_block (w:=w) (a:=⟨b,o,none⟩) (h.block b hb fun e=>hne (Option.some.inj e))
theorem o9(K H Z:Nat)(s:Int)(m:List (List Nat))(g id:Nat)(av:Option Addr)(nv cv:Nat)(F:Nat→Prop)(w:World)(hk:ed K H Z=true)(hs0:0≤s)(hs1:s<4294967296)(hm:MidOK K H Z s m)(hid:id≤65535)
 (hB:Blk w g 78 #[.int .i64 K,.int .i64 H,.int .i64 Z,.int .u32 s,.slice av nv cv])(hR:(rM m).ok w F [.slice av nv cv]):
 Calls prog 30 #[.pointer (some ⟨g,0,none⟩),.int .i64 id] w fun e w'=>∃v,e=.returned v∧OwnB w' w.heap.size v (dn K H Z s m id)∧Below w.heap.size w w':=by
 have hok:=of_decide_eq_true hk;obtain⟨a1,c1,e1,hM,-⟩:=dS hR hm.len;injection e1 with e1 e2 e3;subst e1 e2 e3;have CL:=ae fun w=>ym K H Z s id w hs0 hs1;obtain⟨hc1,hc2⟩:=ku (s:=s) (id:=(id:Nat)) hk;have HSY:Hid (dn K H Z s m id=bz (fun c=>m.getD c []) (gq K H Z s (id:Nat)) (List.replicate Z 0)):=ae rfl;have hc64:=zt K H Z s (id:Nat);have HC1:=ae hc1;have HM:=ae hm;have hZ24:Z≤24:=by omega
 have hidI:¬(65535:Int)<(id:Int):=by omega
 have hmk:∀w:World,(Instr.makeSlice 23 (.int .i64 (Z:Int)) (.int .i64 (Z:Int))).run prog w=.ok (.slice (some ⟨w.heap.size,0,none⟩) Z Z) (w.alloc (.cells (bn (List.replicate Z 0)) 5)):=fun w=>cQ (n:=Z) (by omega) w
 have S0:Hid (Sx w (w.alloc (.cells (bn (List.replicate Z 0)) 5)) [bu w.heap.size 5 (bn (List.replicate Z 0)),bu g 78 #[.int .i64 K,.int .i64 H,.int .i64 Z,.int .u32 s,.slice av (K+H) cv],qp av (K+H) m]):=
  ae (((((Sx.nil w).add (qp av (K+H) m) hM).add (bu g _ _) hB).alloc _).add (bu _ _ _) (Blk.new w 5 (bn (List.replicate Z 0))))
 have hglt:=hB.lt;have HR0:=ae hM;have b2:=hB.cell 2;unfold bL at CL;generalize gq K H Z s (id:Nat)=L at*;have hsz0:(w.alloc (.cells (bn (List.replicate Z 0)) 5)).heap.size=w.heap.size+1:=by simp
 clear hM hR hm hok hk hB hc1;go_enter func30,ntmps30
 go_wp2_with (simp only[hmk])
 generalize w.alloc (.cells (bn (List.replicate Z 0)) 5)=w0 at*;clear b2 hmk
 obtain⟨b0,b1,b2,b3,b4⟩:w0.cell? ⟨g,0,none⟩=some (.int .i64 K)∧w0.cell? ⟨g,1,none⟩=some (.int .i64 H)∧w0.cell? ⟨g,2,none⟩=some (.int .i64 Z)∧w0.cell? ⟨g,3,none⟩=some (.int .u32 s)∧w0.cell? ⟨g,4,none⟩=some (.slice av (K+H) cv):=by
  have h:=S0.out.blk 1 rfl;exact⟨h.cell 0,h.cell 1,h.cell 2,h.cell 3,h.cell 4⟩
 go_region_held3 (fun w'=>w'.cell? ⟨g,0,none⟩=some (.int .i64 K)∧w'.cell? ⟨g,1,none⟩=some (.int .i64 H)∧w'.cell? ⟨g,2,none⟩=some (.int .i64 Z)∧w'.cell? ⟨g,3,none⟩=some (.int .u32 s)) (go_keep) (first
  | (go_at_call 43
     refine(CL.out _).mono ?_;rintro e wA ⟨v,rfl,hO,hb⟩;obtain⟨aL,cL,rfl⟩:=hO.lenA;have S1:=ae (S0.out.drew.step hb);have HO:Hid (OwnI wA w0.heap.size (.slice aL L.length cL) L):=ae hO;have hsA:w0.heap.size≤wA.heap.size:=hb.size;have m0:=(S1.out.blk 1 rfl).cell 0;have m1:=(S1.out.blk 1 rfl).cell 1;have m2:=(S1.out.blk 1 rfl).cell 2;have m3:=(S1.out.blk 1 rfl).cell 3;clear hb hO))
 have HG0:=ae (grownBy_refl wA (some w.heap.size));have HK0:Hid (Blk wA w.heap.size 5 (bn (bz (fun c=>m.getD c []) (L.take 0) (List.replicate Z 0)))):=ae (S1.out.blk 0 rfl);have hRA:RdM wA w.heap.size av (K+H) m:=HR0.out.below S1.out.1 (ah _);have HRA:=ae hRA;have HBA:=ae S1.out.1;have hzl:∀k,(bz (fun c=>m.getD c []) (L.take k) (List.replicate Z 0)).length=Z:=fun k=>eB aN fun c hc=>(HM.out.row (HC1.out c (List.mem_of_mem_take hc))).1;have hzb:∀k,By (bz (fun c=>m.getD c []) (L.take k) (List.replicate Z 0)):=fun k=>(df (D:=Z) (Byt.zero Z) fun c hc=>HM.out.row (HC1.out c (List.mem_of_mem_take hc))).2;have HZL:=ae hzl;have HZB:=ae hzb;have hszA:w.heap.size<wA.heap.size:=by omega
 have m4:=(S1.out.blk 1 rfl).cell 4;clear S0 HR0 hRA hzl hzb b0 b1 b2 b3 b4 m0 m1 m2 m3;generalize hG:w.heap.size=G at*;have HGe:=ae hG;clear hG;generalize hq:L.length=q at*;have HQ:=ae hq;clear hq;generalize hC0:w0.heap.size=C at*;clear hC0;go_wp2_with fail;go_loopw [37] (fun i wr=>∃k:Nat,k≤q∧i=.int .i64 k∧Hid (Blk wr G 5 (bn (bz (fun c=>m.getD c []) (L.take k) (List.replicate Z 0))))∧Hid (wA.grownBy wr (some G))) (fun i _=>q-(intOf i).toNat)
 case atStart=>exact⟨0,by omega,rfl,HK0,HG0⟩
 case round=>
  clear HK0 HG0;obtain⟨k,hkq,rfl,HK,HG⟩:=hrel;by_cases hlt:k<q
  ·have hltI:(k:Int)<(q:Int):=by omega
   have hkL:k<L.length:=(by rw[HQ.out];exact hlt);obtain⟨gL,rfl,hg1,hg2⟩:=HO.out.formA HQ.out (by omega);obtain⟨hcx0,-⟩:=HO.out.cellA HQ.out hlt;have hcx:wr.cell? ⟨gL,k,none⟩=some (.int .i64 (L.getD k 0:Nat)):=(gM HG.out hg2 (by omega)).trans hcx0;have hcn:L.getD k 0<K+H:=HC1.out _ (by rw[getD_at hkL];exact aU hkL);obtain⟨bm,om,a',c',rfl,hbm,hcell0,hrow0,-⟩:=HRA.out.at hcn;have hcell:wr.cell? ⟨bm,om+L.getD k 0,none⟩=some (.slice a' (m.getD (L.getD k 0) []).length c'):=(gM HG.out (by omega) (by omega)).trans hcell0;have hrl:=(HM.out.row hcn).1;have hrb:=(HM.out.row hcn).2;rw[hrl] at hcell hrow0;have n4:wr.cell? ⟨g,4,none⟩=some (.slice (some ⟨bm,om,none⟩) (K+H) cv):=(gM HG.out (by omega) (by omega)).trans m4;have HSN:=ae (mh (m:=fun c=>m.getD c []) (z:=List.replicate Z 0) hkL);have hzl:=HZL.out k;have hzb:=HZB.out k;have hcnI:((L.getD k 0:Nat):Int)<((K+H:Nat):Int):=(by omega);have HROW:=ae hrow0;clear hcx0 hcell0 hkL hrow0;generalize hX:m.getD (L.getD k 0) []=X at*;clear hX;generalize bz (fun c=>m.getD c []) (L.take k) (List.replicate Z 0)=D at*;generalize hD2:bz (fun c=>m.getD c []) (L.take (k+1)) (List.replicate Z 0)=D2 at*;have HD2:=ae hD2;clear hD2;generalize L.getD k 0=x at*;generalize hN:K+H=N at*;clear hN;rename World=>wo;have HKi:Hid (Blk wo G 5 (bn (xD D X 0))):=ae (by rw[tK];exact HK.out);go_wp2_with fail;go_loopw [49] (fun i wr=>∃t:Nat,t≤Z∧i=.int .i64 t∧Hid (Blk wr G 5 (bn (xD D X t)))∧Hid (wA.grownBy wr (some G))) (fun i _=>Z-(intOf i).toNat)
   case atStart=>exact⟨0,by omega,rfl,HKi,HG⟩
   case round=>
    clear HKi HG HK hcx hcell n4;obtain⟨t,htZ,rfl,HK,HG⟩:=hrel;by_cases htz:t<Z
    ·have htI:(t:Int)<(Z:Int):=by omega
     obtain⟨br,orr,rfl,hbr,hcr⟩:=HROW.out.2 (by omega);have hc0:=hcr t (.int .u8 (X.getD t 0:Nat)) (dz (by omega));have hcc:wr.cell? ⟨br,orr+t,none⟩=some (.int .u8 (X.getD t 0:Nat)):=(gM HG.out (by omega) (by omega)).trans hc0
     have hd:wr.cell? ⟨G,t,none⟩=some (.int .u8 (D.getD t 0:Nat)):=by
      rw[HK.out.cell t];have:=dz (l:=xD D X t) (i:=t) (by rw[xG hzl hrl htZ];exact htz);rw[xH hzl hrl htz] at this;simpa[bn] using this
     have hfr:=HK.out.frozen t;have hx1:=getD_lt hrb t;have hx2:=getD_lt hzb t;have hxr:=u8_xor_nat (D.getD t 0) (X.getD t 0) hx2 hx1;have hst:=HK.out.set t (.int .u8 ((D.getD t 0 ^^^ X.getD t 0:Nat):Int));rw[iq,xI hzl hrl htz] at hst;have HK2:=ae hst;have HG2:=ae (og HG.out t (.int .u8 ((D.getD t 0 ^^^ X.getD t 0:Nat):Int)));clear hst hcr hc0 HK HG;generalize D.getD t 0 ^^^ X.getD t 0=y at*;generalize D.getD t 0=y1 at*;generalize X.getD t 0=y2 at*;go_wp2_with fail;go_roundw
     case rel=>(try((repeat apply Exists.intro);refine⟨?_,rfl⟩));exact⟨t+1,by omega,by go_num,HK2,HG2⟩
     case measure=>simp[intOf];omega
    ·obtain rfl:t=Z:=by omega
     have HK2:Hid (Blk wr G 5 (bn (bz (fun c=>m.getD c []) (L.take (k+1)) (List.replicate t 0)))):=ae (by rw[HD2.out,HSN.out,←xE hzl hrl];exact HK.out);go_wp2_with fail;go_roundw
     case rel=>(try((repeat apply Exists.intro);refine⟨?_,rfl⟩));exact⟨k+1,by omega,by go_num,HK2,HG⟩
     case measure=>simp[intOf];omega
  ·obtain rfl:k=q:=by omega
   rw[aO (by rw[HQ.out];exact ah _),←HSY.out] at HK;have hlen:(dn K H Z s m id).length=Z:=(by rw[HSY.out];have:=HZL.out L.length;rw[List.take_length] at this;exact this);have hb:=HG.out;have HBF:Hid (Below G w wr):=ae (HBA.out.grown hb (by omega) (fun b hb=>by injection hb with hb;omega));go_wp2_with fail;go_ret;refine⟨_,rfl,?_,by rw[HGe.out];exact HBF.out⟩;rw[HGe.out];have:=jW (C:=G) HK.out (ah _) (by rw[hlen];unfold maxLen;omega)
   rwa [hlen] at this
theorem Bi(K H Z:Nat)(sd:Int)(w:World)(hk:ed K H Z=true)(h0:0≤sd)(h1:sd<18446744073709551616):
 Calls prog 6 #[bL K H Z,.int .u64 sd] w fun e w'=>∃s:Int,e=.returned (.int .u32 s)∧0≤s∧s<4294967296∧Below w.heap.size w w':=by
 have CR:=ae fun (s:Int) (h0:0≤s) (h1:s<4294967296) w=>jl K H Z s w hk h0 h1
 have S0:Hid (Sx w (w.alloc (.cells #[.int .i64 K,.int .i64 H,.int .i64 Z] 26)) [bu w.heap.size 26 #[.int .i64 K,.int .i64 H,.int .i64 Z]]):=
  ae ((((Sx.nil w).alloc _).add (bu _ _ _) (Blk.new w 26 #[.int .i64 K,.int .i64 H,.int .i64 Z])))
 clear hk;unfold bL at CR ⊢;go_enter func6,ntmps6;go_wp2_with fail;generalize w.alloc (.cells #[.int .i64 K,.int .i64 H,.int .i64 Z] 26)=w0 at*;go_loopw [5] (fun v wr=>∃k:Nat,k≤24∧(∃X:Int,v=.int .u32 X∧X=(sd+k)%4294967296)∧Hid (Sx w wr [bu w.heap.size 26 #[.int .i64 K,.int .i64 H,.int .i64 Z]])) (fun v _=>(4294967296-(intOf v-sd)%4294967296).toNat)
 case atStart=>exact⟨0,by omega,⟨_,rfl,by simp⟩,S0⟩
 case round=>
  clear S0;obtain⟨k,hk,⟨X,rfl,hX⟩,S1⟩:=hrel;obtain⟨k0,k1,k2⟩:=lC (S1.out.blk 0 rfl);have hX0:0≤X:=(by omega);have hX1:X<4294967296:=(by omega);by_cases hk24:k<24
  ·have hne:¬X=(sd%4294967296+24)%4294967296:=by omega
   have HX:=ae hX;have hX2:(X+1)%4294967296=(sd+((k+1:Nat):Int))%4294967296:=(by omega);have HX2:=ae hX2;have CR1:=ae (CR.out X hX0 hX1);clear hX hX2;go_wp2_with fail;refine(CR1.out _).mono ?_;rintro e w1 ⟨rfl,hb⟩;have S2:=ae (S1.out.step hb);clear S1 hb CR1 k0 k1 k2;generalize dP K H Z X (List.range K)=r at*;cases r with
   | true=>
     go_wp2_with fail;go_ret;exact⟨X,rfl,hX0,hX1,S2.out.1⟩
   | false=>
     go_wp2_with fail;go_roundw
     case rel=>first | exact⟨k+1,by omega,⟨_,rfl,by first | exact HX2.out | (rw[←HX2.out];omega)⟩,S2⟩ | ((repeat apply Exists.intro);exact⟨⟨k+1,by omega,⟨_,rfl,HX2.out⟩,S2⟩,rfl⟩)
     case measure=>have:=HX.out;simp only[intOf];omega
  ·obtain rfl:k=24:=by omega
   have heq:X=(sd%4294967296+24)%4294967296:=(by omega);clear hX;go_wp2_with fail;go_ret;exact⟨_,rfl,by omega,by omega,S1.out.1⟩
def eG(id:Nat)(d:List Nat):Rp:=rP (rV (.int .i64 id)) (rB d)
theorem lD:(prog.info? 42).map (fun i=>(i.zero,i.size,i.bytes))=some (some (.agg #[.int .i64 0,.slice none 0 0]),2,32):=by kernel_rfl
def qo(zs:List Int):List Nat:=(zs.take 24).map fun z=>(z%60).toNat
theorem vG(K H Z:Nat)(s:Int)(m:List (List Nat))(g:Nat)(av:Option Addr)(nv cv:Nat)(F:Nat→Prop)(zs:List Int)(a:Option Addr)(n c:Nat)(w:World)(hk:ed K H Z=true)(hs0:0≤s)(hs1:s<4294967296)(hm:MidOK K H Z s m)
 (hB:Blk w g 78 #[.int .i64 K,.int .i64 H,.int .i64 Z,.int .u32 s,.slice av nv cv])(hR:(rM m).ok w F [.slice av nv cv])(hx:Rd w w.heap.size a n (zs.map (Value.int .i64)))(hz:∀z∈zs,-9223372036854775808≤z∧z≤9223372036854775807):
 Calls prog 11 #[.pointer (some ⟨g,0,none⟩),.slice a n c,.int .i64 24] w fun e w'=>∃v,e=.returned v∧OwnS w' w.heap.size 42 2 (Fr w.heap.size) v ((qo zs).map fun id=>eG id (dn K H Z s m id))∧Below w.heap.size w w':=by
 have hl:zs.length=n:=by have:=hx.len;simpa using this
 have CS:=ae fun (id:Nat) (hid:id≤65535) w (hB:Blk w g 78 #[.int .i64 K,.int .i64 H,.int .i64 Z,.int .u32 s,.slice av nv cv]) (hR:(rM m).ok w F [.slice av nv cv])=>o9 K H Z s m g id av nv cv F w hk hs0 hs1 hm hid hB hR;have CW:=ae fun (z:Int) (hz: -9223372036854775808≤z∧z≤9223372036854775807) w=>gW z 60 w hz (by omega) (by omega);have S0:=ae (((((Sx.nil w).add (jp a n (zs.map (Value.int .i64))) hx).add (bu g _ _) hB).add (eR F (.slice av nv cv) (rM m)) hR));have HSL:=ae fun id=>fF hk hm id;have hok:=of_decide_eq_true hk;have hZ24:Z≤24:=by omega
 have HL:=ae hl;have HZ:=ae hz;have HO0:Hid (OwnS w w.heap.size 42 2 (Fr w.heap.size) (.slice none 0 0) (((zs.take 0).map fun z=>(z%60).toNat).map fun id=>eG id (dn K H Z s m id))):=ae (OwnS.nil _ _ _ _ _);have HB0:=ae (az w.heap.size w);clear hx hB hR hm hk hl hz hok;go_enter func11,ntmps11;go_wp2_with fail;go_loopw [7,8] (fun v i wr=>∃k:Nat,k≤n∧k≤24∧i=.int .i64 k∧Hid (OwnS wr w.heap.size 42 2 (Fr w.heap.size) v (((zs.take k).map fun z=>(z%60).toNat).map fun id=>eG id (dn K H Z s m id)))∧Hid (Below w.heap.size w wr)) (fun _ i _=>24-(intOf i).toNat)
 case atStart=>exact⟨0,by omega,by omega,rfl,HO0,HB0⟩
 case round=>
  clear HO0 HB0;obtain⟨k,hkn,hk24,rfl,HO,HB⟩:=hrel;have S1:=ae (S0.out.step HB.out);obtain⟨bv,nb,cb,rfl⟩:=HO.out.sl;have hw0:=HB.out.size;by_cases hlt:k<n∧k<24
  ·obtain⟨hlt1,hlt2⟩:=hlt
   have hltI:(k:Int)<(n:Int):=(by omega);have hltJ:(k:Int)<24:=(by omega);have hkl:k<zs.length:=(by rw[HL.out];exact hlt1);obtain⟨b,o,rfl,hb,hcc⟩:=(S1.out.rd 2 rfl).2 (by omega);have cq:=hcc k (.int .i64 (zs.getD k 0)) (by rw[List.getElem?_map,af,ag hkl];rfl);have hzk: -9223372036854775808≤zs.getD k 0∧zs.getD k 0≤9223372036854775807:=HZ.out _ (by rw[af,ag hkl];exact aU hkl);have HT:Hid (((zs.take (k+1)).map fun z=>(z%60).toNat).map (fun id=>eG id (dn K H Z s m id))=(((zs.take k).map fun z=>(z%60).toNat).map fun id=>eG id (dn K H Z s m id))++[eG (zs.getD k 0%60).toNat (dn K H Z s m (zs.getD k 0%60).toNat)]):=ae (by rw[aP hkl,aW,aW,af,ag hkl];rfl);have hsl:(((zs.take k).map fun z=>(z%60).toNat).map fun id=>eG id (dn K H Z s m id)).length≤1000000:=(by simp;omega);generalize zs.getD k 0=z at*;have hz60:z%60=((z%60).toNat:Int):=(by omega);have hid:(z%60).toNat≤65535:=(by omega);have CW1:=ae (CW.out z hzk);rw[hz60] at CW1;generalize (z%60).toNat=id at*;have CS1:=ae (CS.out id hid);generalize ((zs.take k).map fun z=>(z%60).toNat).map (fun id=>eG id (dn K H Z s m id))=LL at*;clear hcc hkl hzk hz60;go_wp2_with fail;refine(CW1.out _).mono ?_;rintro e w1 ⟨rfl,rfl⟩;go_wp2_with fail;refine(CS1.out _ (S1.out.blk 1 rfl) (S1.out.rep 0 rfl)).mono ?_;rintro e w2 ⟨v,rfl,hO,hb2⟩;have hlen:=HSL.out id;have HB2:=ae hb2;have HB3:=ae (HB.out.trans (hb2.mono hw0));have hrs:=eY hO;obtain⟨a2,c2,rfl,-⟩:=gB hrs hlen;have HR2:Hid ((eG id (dn K H Z s m id)).ok w2 (fun b=>Fr w.heap.size b∧some b≠(Value.slice bv nb cb).ownBlock) [.int .i64 id,.slice a2 Z c2]):=ae (HO.out.off (nJ (pQ rfl) hrs) fun b hb=>⟨aQ hw0 hb,.inr hb⟩);clear hO hb2 hrs hlen S1 cq CS1 CW1
   go_wp2_with (at_builtin;refine dJ (w:=wr) (w1:=w2) rfl _ _ rfl underlying39 lD rfl (by decide) (by decide) HO.out HB2.out hw0 hsl (R:=eG id (dn K H Z s m id)) HR2.out rfl rfl rfl ?_)
   intro v6 w6 hO6 hb6;rw[←HT.out] at hO6;have HO6:=ae hO6;have HB6:=ae (HB.out.trans hb6);clear hO6 hb6 HO HR2 HB2 HB HB3;obtain⟨b6,n6,c6,rfl⟩:=HO6.out.sl;go_wp2_with fail;go_roundw
   case rel=>(try((repeat apply Exists.intro);refine⟨?_,rfl⟩));exact⟨k+1,by omega,by omega,by go_num,HO6,HB6⟩
   case measure=>simp[intOf];omega
  ·have HE:Hid ((zs.take k).map (fun z=>(z%60).toNat)=qo zs):=ae (by
    unfold qo;by_cases h24:k=24
    ·rw[h24]
    ·have:k=n:=by omega
     rw[aO (by rw[HL.out];omega),aO (by rw[HL.out];omega)])
   rw[HE.out] at HO;by_cases hlt1:k<n
   ·have hltI:(k:Int)<(n:Int):=by omega
    have hltJ:¬(k:Int)<24:=(by omega);go_wp2_with fail;go_ret;exact⟨_,rfl,HO.out,HB.out⟩
   ·have hltI:¬(k:Int)<(n:Int):=by omega
    go_wp2_with fail;go_ret;exact⟨_,rfl,HO.out,HB.out⟩
end Go.Proofs.YtofgapdnadbgkaaGreatDoor
