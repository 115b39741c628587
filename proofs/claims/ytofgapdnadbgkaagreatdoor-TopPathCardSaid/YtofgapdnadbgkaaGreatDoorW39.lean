import Derived.Test.YtofgapdnadbgkaaGreatDoorW38
set_option linter.unusedVariables false
set_option maxRecDepth 100000
set_option maxHeartbeats 400000000
namespace Go.Proofs.YtofgapdnadbgkaaGreatDoor
open Go.RowKit _root_.Go.Proofs.Tryz
def zH(K H Z ex:Nat)(v1 v2:Value):Array Value:=#[.int .i64 2,.int .i64 1,.int .i64 K,.int .i64 H,.int .i64 Z,.int .i64 ex,v1,v2]
theorem DZ(K H Z ex:Nat)(e:dM)(v1 v2:Value):bF (dY K H Z ex e) v1 v2=zH K H Z ex v1 v2:=rfl
def entZ(nm:ByteArray)(ln:Nat)(v:Value):Array Value:=#[.string nm,.int .i64 0,.int .i64 ln,v]
theorem ent0z(nm:ByteArray)(ln:Nat)(tr:List Nat)(v:Value):fQ ⟨nm,0,ln,tr⟩ v=entZ nm ln v:=rfl
theorem zI(K H Z t id ln gr:Nat)(nm:ByteArray)(v:Value)(a2:Option Addr)(c2:Nat)(F:Nat→Prop)(w:World)(hr:Blk w gr 45 (fC 0 0 id K H Z t v))(htr:(rI [t]).ok w F [.slice a2 1 c2])(ht:t<16):
 Calls prog 298 (#[.agg (fQ ⟨nm,0,ln,[t]⟩ (.slice a2 1 c2))]++#[.pointer (some ⟨gr,0,none⟩)]) w fun e w'=>e=.returned (.bool true)∧Below w.heap.size w w':=by
 show Calls prog 298 #[.agg (fQ ⟨nm,0,ln,[t]⟩ (.slice a2 1 c2)),.pointer (some ⟨gr,0,none⟩)] w _
 have S0:Hid (Sx w (w.alloc (.cells (fQ ⟨nm,0,ln,[t]⟩ (.slice a2 1 c2)) 190)) [bu w.heap.size 190 (fQ ⟨nm,0,ln,[t]⟩ (.slice a2 1 c2)),bu gr 45 (fC 0 0 id K H Z t v),eR F (.slice a2 1 c2) (rI [t])]):=
  ae (((((Sx.nil w).add (eR F (.slice a2 1 c2) (rI [t])) htr).add (bu gr _ _) hr).alloc _).add (bu _ _ _) (Blk.new w _ _))
 have cd:=fun w=>mr 0 0 t w (by omega) (by omega) (by omega);rw[show 128*0+16*0+t=t by omega] at cd;have CD:=ae cd;clear cd hr htr ht;simp only[ent0z,entZ,D6,qF] at*;go_enter func298,ntmps298;generalize hw0:w.alloc (.cells #[.string nm,.int .i64 0,.int .i64 ln,.slice a2 1 c2] 190)=w0 at*;obtain⟨at1,ct1,et1,hrt1,-⟩:=dB (S0.out.rep 2 rfl) (n:=1) rfl;injection et1 with et1 _ et3;subst et1 et3;obtain⟨bt,ot,rfl,hbt,hct⟩:=hrt1.2 (by omega);have ct0:w0.cell? ⟨bt,ot,none⟩=some (.int .i64 t):=hct 0 _ rfl;clear hrt1 hct;go_upto_region 1 with fail
 (try rw[hw0])
 clear hw0;refine bE (by kernel_rfl) (by kernel_rfl) ?_
 iterate 30 (
  with_reducible refine wpQuiet_step (fun Kq hKq=> ?_)
  go_simp
  first
  | refine hKq _ ?_
  | refine⟨_,fun _ _=>rfl,hKq _ ?_⟩
  | (apply Exists.intro
     refine⟨fun w' hw'=> ?_,hKq _ ?_⟩
     ·obtain⟨e0',e1',e2',e3'⟩:=fB ((S0.out.step hw').blk 0 rfl)
      obtain⟨r0',r1',r2',r3',r4',r5',r6',r7'⟩:=dc ((S0.out.step hw').blk 1 rfl);have ct0':w'.cell? ⟨bt,ot,none⟩=some (.int .i64 t):=(hw'.cell (p:=⟨bt,ot,none⟩) hbt).trans ct0
      first
      | (go_simp
         first | exact rfl | exact⟨rfl,rfl⟩)
      | (go_at_call 178
         refine(CD.out w').mono ?_;rintro r w5 ⟨rfl,rfl⟩;exact⟨rfl,hw'⟩))
  clear hKq Kq)
 with_reducible refine wpQuiet_nil ?_
 intro w3 hw3;have S1:=ae (S0.out.step hw3);clear hw3;go_wp2_with fail;go_ret;exact⟨rfl,S1.out.1⟩
theorem BH(K H Z t id ln ex:Nat)(nm:ByteArray)(v1:Value)(a2 a3:Option Addr)(c2 c3:Nat)(F:Nat→Prop)(w:World)(ho:(rS 4 ([(⟨nm,0,ln,[t]⟩:dM)].map bZ)).ok w F [.slice a2 1 c2])(hk:ed K H Z=true)(hi:id≤65535)(ht:t<16):
 Calls prog 247 #[.agg (bF (dY K H Z ex ⟨nm,0,ln,[t]⟩) v1 (.slice a2 1 c2)),nW 0 0 id K H Z t (.slice a3 Z c3)] w fun e w'=>e=.returned (.bool true)∧Below w.heap.size w w':=by
 obtain⟨w0,hw0⟩:∃w0,w0=(w.alloc (.cells (bF (dY K H Z ex ⟨nm,0,ln,[t]⟩) v1 (.slice a2 1 c2)) 154)).alloc (.cells (fC 0 0 id K H Z t (.slice a3 Z c3)) 45):=⟨_,rfl⟩;have hsz1:(w.alloc (.cells (bF (dY K H Z ex ⟨nm,0,ln,[t]⟩) v1 (.slice a2 1 c2)) 154)).heap.size=w.heap.size+1:=by simp
 have HB0:Hid (Below w.heap.size w w0):=ae (by rw[hw0];exact((az _ _).alloc (ah _) _).alloc (by simp) _)
 have S0:Hid (Sx w w0 [bu (w.heap.size+1) 45 (fC 0 0 id K H Z t (.slice a3 Z c3)),bu w.heap.size 154 (bF (dY K H Z ex ⟨nm,0,ln,[t]⟩) v1 (.slice a2 1 c2)),eR F (.slice a2 1 c2) (rS 4 ([(⟨nm,0,ln,[t]⟩:dM)].map bZ))]):=
  ae (((((Sx.nil w).add (eR F (.slice a2 1 c2) (rS 4 ([(⟨nm,0,ln,[t]⟩:dM)].map bZ))) ho).step HB0.out).add (bu w.heap.size _ _) (by rw[hw0];exact(Blk.new w _ _).alloc _)).add (bu _ _ _) (by rw[hw0,←hsz1];exact Blk.new _ _ _))
 have CM:=ae fun w=>tG 0 0 id K H Z t a3 c3 w (by omega) (by omega) hi hk
 have CA:=ae fun w (ho:(rS 4 ([(⟨nm,0,ln,[t]⟩:dM)].map bZ)).ok w F [.slice a2 1 c2]) (hr:Blk w (w0.heap.size-1) 45 (fC 0 0 id K H Z t (.slice a3 Z c3)))=>Eb (fun _=>true) 298 #[.pointer (some ⟨w0.heap.size-1,0,none⟩)] [(⟨nm,0,ln,[t]⟩:dM)] F a2 1 c2 w ho rfl (by omega) (enters_of func298 (by kernel_rfl) rfl) (fun x hx W hW a4 c4 hr4=>by
  obtain rfl:=List.mem_singleton.1 hx;exact zI K H Z t id ln (w0.heap.size-1) nm (.slice a3 Z c3) a4 c4 F W (hr.below hW hr.lt) hr4 ht)
 have hs1:w0.heap.size-1=w.heap.size+1:=by rw[hw0];simp
 rw[hs1] at CA;clear hs1;rw[show([(⟨nm,0,ln,[t]⟩:dM)].any fun _=>true)=true from rfl] at CA;have hpg:=wG;have hpn:=Dy K H Z;clear ho hsz1;simp only[uq,D6,qF,DZ,zH] at*;go_enter func247,ntmps247;go_upto_region 1 with fail
 (try rw[←hw0])
 have HW0:=ae hw0;clear hw0;obtain⟨r0,r1,r2,r3,r4,r5,r6,r7⟩:=dc (S0.out.blk 0 rfl);go_wp2_with fail;refine(CM.out w0).mono ?_;rintro e w1 ⟨rfl,hb1⟩;have S1:=ae (S0.out.step hb1);clear hb1 CM S0 HB0 r0 r1 r2 r3 r4 r5 r6 r7;obtain⟨r0,r1,r2,r3,r4,r5,r6,r7⟩:=dc (S1.out.blk 0 rfl);obtain⟨m0,m1,m2,m3,m4,m5,m6,m7⟩:=dc (S1.out.blk 1 rfl)
 go_wp2_with (simp only[])
 refine(CA.out w1 (S1.out.rep 2 rfl) (S1.out.blk 0 rfl)).mono ?_;rintro e w2 ⟨rfl,hb2⟩;have S2:=ae (S1.out.step hb2);clear hb2 CA S1;go_wp2_with fail;go_ret;exact⟨rfl,S2.out.1⟩
def tO(K H Z t:Nat)(x:Option (Nat×List Nat)×List Nat):Prop:=
 x.2.length=64∧By x.2∧(∀y,x.1=some y→x.2=cellL 1 (gS 0 0 y.1 K H Z t y.2)∧y.2.length=Z∧By y.2∧y.1≤65535)∧(x.1=none→¬(fI x.2∧x.2.getD 3 0=1))
def bU(X:List (Option (Nat×List Nat)×List Nat)):List (List Nat):=X.map (·.2)
theorem mD(X:List (Option (Nat×List Nat)×List Nat)):(bU X).length=X.length:=aG _
theorem Fv(X:List (Option (Nat×List Nat)×List Nat)){k:Nat}(hk:k<X.length):(bU X).getD k []=(X.getD k (none,[])).2:=by
 unfold bU;rw[af,af,List.getElem?_map,ag hk];rfl
def iz(X:List (Option (Nat×List Nat)×List Nat)):List (Nat×List Nat):=X.filterMap (·.1)
theorem Fw{X:List (Option (Nat×List Nat)×List Nat)}{k:Nat}(hk:k<X.length):iz (X.take (k+1))=iz (X.take k)++(match (X.getD k (none,[])).1 with | some y=>[y] | none=>[]):=by
 unfold iz;rw[aP hk,List.filterMap_append];congr 1;have e:X.getD k (none,[])=X[k]:=by rw[af,ag hk];rfl
 rw[e];cases h:X[k].1 with
 | none=>rw[List.filterMap_cons_none h];rfl
 | some y=>rw[List.filterMap_cons_some h];rfl
theorem IB:(prog.info? 45).map (fun i=>(i.zero,i.size,i.bytes))=some (some (.agg #[.int .i64 0,.int .i64 0,.int .i64 0,.int .i64 0,.int .i64 0,.int .i64 0,.int .u32 0,.slice none 0 0]),8,80):=by kernel_rfl
theorem zB(K H Z t ln ex dg p room:Nat)(nm:ByteArray)(v1:Value)(a2:Option Addr)(c2:Nat)(F:Nat→Prop)(X:List (Option (Nat×List Nat)×List Nat))(o:Option Nat)(w:World)(h:DrR w dg p room (bU X) o)(ho:(rS 4 ([(⟨nm,0,ln,[t]⟩:dM)].map bZ)).ok w F [.slice a2 1 c2])
 (hk:ed K H Z=true)(ht:t<16)(hX:∀x∈X,tO K H Z t x)(hn:X.length≤19)(hs:qZ (iz X)):
 Calls prog 182 #[.pointer (some ⟨dg,0,none⟩),.agg (bF (dY K H Z ex ⟨nm,0,ln,[t]⟩) v1 (.slice a2 1 c2))] w fun e w'=>∃a n c,e=.returned (.slice a n c)∧(rS 8 ((iz X).map (jS K H Z t))).ok w' (Fr w.heap.size) [.slice a n c]∧Below w.heap.size w w':=by
 have hba:=(az w.heap.size w).alloc (ah _) (.cells (bF (dY K H Z ex ⟨nm,0,ln,[t]⟩) v1 (.slice a2 1 c2)) 154);have HM0:=ae (Blk.new w 154 (bF (dY K H Z ex ⟨nm,0,ln,[t]⟩) v1 (.slice a2 1 c2)));have HO0:=ae ((rS 4 _).new ho hba);obtain⟨vr,wt,hdb,hor,-⟩:=h.below hba;have hlen:(bU X).length=X.length:=mD X
 have CD:=ae (Jp dg p room wt vr (bU X) _ _ hdb hor.rep (by omega) (fun x hx=>by
  obtain⟨y,hy,rfl⟩:=List.mem_map.1 hx;have:=(hX y hy).1;omega))
 have HB0:=ae hba;have HXX:=ae hX;have HS:=ae hs;have HK:=ae hk;have HLN:=ae hn;have CC:=ae fun (id:Nat) (a3:Option Addr) (c3:Nat) w (ho:(rS 4 ([(⟨nm,0,ln,[t]⟩:dM)].map bZ)).ok w F [.slice a2 1 c2]) (hi:id≤65535)=>BH K H Z t id ln ex nm v1 a2 a3 c2 c3 F w ho hk hi ht;have HT16:=ae ht;clear h ho hk hX hs hba hdb hor hn ht;simp only[DZ,zH,uq,qF] at*;generalize hw0:w.alloc (.cells #[.int .i64 2,.int .i64 1,.int .i64 K,.int .i64 H,.int .i64 Z,.int .i64 ex,v1,.slice a2 1 c2] 154)=w0 at*;have hs0:w.heap.size<w0.heap.size:=HM0.out.lt;go_enter func182,ntmps182;refine wp_seq_k fun K1 hK1=> ?_;have HK1:=ae hK1;clear hK1;go_wp2_with fail;refine HK1.out _ _ ?_;clear HK1
 (try rw[hw0])
 refine qg 0 1 (fun x a2' w2=>∃(k:Nat) (i:Int) (vo:Value) (al:Option Addr) (cl:Nat) (w1:World),(X.length<k+x∧k≤X.length∧Hid (i=(k:Int)-1)∧Hid (Below w0.heap.size w0 w1)∧Hid ((rM (bU X)).ok w1 Any [.slice al X.length cl])∧Hid (OwnS w2 w1.heap.size 45 8 (Fr w1.heap.size) vo ((iz (X.take k)).map (jS K H Z t)))∧Hid (Below w1.heap.size w1 w2))∧∃f:Nat→Value,a2'= { tmps:=#[.pointer (some ⟨dg,0,none⟩),.agg #[.int .i64 2,.int .i64 1,.int .i64 K,.int .i64 H,.int .i64 Z,.int .i64 ex,v1,.slice a2 1 c2],undef,.pointer (some ⟨w.heap.size,0,none⟩),.slice none 0 0,.slice al X.length cl,vo,.int .i64 i,f 8,f 9,f 10,f 11,f 12,f 13,f 14,f 15,f 16,f 17,f 18,f 19,f 20,f 21,f 22,f 23,f 24,f 25,f 26,f 27,f 28,f 29,f 30,f 31,f 32,f 33,f 34,f 35,f 36,f 37,f 38,f 39],defers:=[] })
  (fun a2' w2=>∃(vo:Value) (al:Option Addr) (cl:Nat) (w1:World),(Hid (Below w0.heap.size w0 w1)∧Hid (OwnS w2 w1.heap.size 45 8 (Fr w1.heap.size) vo ((iz X).map (jS K H Z t)))∧Hid (Below w1.heap.size w1 w2))∧∃f:Nat→Value,a2'= { tmps:=#[.pointer (some ⟨dg,0,none⟩),.agg #[.int .i64 2,.int .i64 1,.int .i64 K,.int .i64 H,.int .i64 Z,.int .i64 ex,v1,.slice a2 1 c2],undef,.pointer (some ⟨w.heap.size,0,none⟩),.slice none 0 0,.slice al X.length cl,vo,f 7,f 8,f 9,f 10,f 11,f 12,f 13,f 14,f 15,f 16,f 17,f 18,f 19,f 20,f 21,f 22,f 23,f 24,f 25,f 26,f 27,f 28,f 29,f 30,f 31,f 32,f 33,f 34,f 35,f 36,f 37,f 38,f 39],defers:=[] }) (X.length+1) _ rfl rfl ?_ ?_ ?_
 ·intro X2 hp
  have HPX:=ae hp;clear hp;refine wp_seq_k fun K1 hK1=> ?_;have HK1:=ae hK1;clear hK1;go_wp2_with fail;refine CD.out.mono ?_;rintro e w1 ⟨vl,rfl,ho1,hb1⟩;obtain⟨al,cl,rfl,-⟩:=ho1.val;rw[aG,mD] at ho1 ⊢;have HR1:Hid ((rM (bU X)).ok w1 Any [.slice al X.length cl]):=ae ho1.repAny;have HB1:=ae hb1;have HO1:Hid (OwnS w1 w1.heap.size 45 8 (Fr w1.heap.size) (.slice none 0 0) ((iz (X.take 0)).map (jS K H Z t))):=ae (OwnS.nil _ _ _ _ _);have HJ1:=ae (az w1.heap.size w1);clear ho1 hb1 CD;go_wp2_with fail;refine HK1.out _ _ ?_;clear HK1;refine wp_seq_k fun K1 hK1=> ?_;have HK1:=ae hK1;clear hK1;go_wp2_with fail;refine HK1.out _ _ ?_;clear HK1;refine wp_seq_k fun K1 hK1=> ?_;have HK1:=ae hK1;clear hK1;go_wp2_with fail;refine HK1.out _ _ ?_;clear HK1;refine wp_seq (wp_label ?_);refine HPX.out _ _ ?_;exact⟨0,-1,_,al,cl,w1,⟨by omega,by omega,ae rfl,HB1,HR1,HO1,HJ1⟩,dX _ _ rfl⟩
 ·rintro x a2' w2 ⟨k,i,vo,al,cl,w1,⟨hx,hkn,HI,HB1,HR1,HO,HB⟩,f,rfl⟩
  have hi1:IntKind.i64.wrap (i+1)=(k:Int):=(by rw[HI.out,IntKind.wrap_i64];have:=HLN.out;omega);have HM2:=ae ((HM0.out.below HB1.out HM0.out.lt).below HB.out (aY HM0.out.lt HB1.out.size));have HO2:=ae ((rS 4 _).new ((rS 4 _).new HO0.out HB1.out) HB.out);clear CD;by_cases hlt:k<X.length
  ·have hltI:(k:Int)<(X.length:Int):=by omega
   have hltJ:¬(X.length:Int)≤(k:Int):=(by omega);obtain⟨ar,cr,er,hrd,-⟩:=dS ((rM _).new HR1.out HB.out) (n:=X.length) (mD X);injection er with er1 _ er3;subst er1 er3;obtain⟨bx,ox,ax,cx,rfl,hbx,hcx,hrx,hnx,hx1,hx2⟩:=hrd.at (i:=k) (by omega);have eR:(bU X).getD k []=(X.getD k (none,[])).2:=Fv X hlt;have hok:=HXX.out (X.getD k (none,[])) (by rw[af,ag hlt];exact aU hlt);have HT:Hid (iz (X.take (k+1))=iz (X.take k)++(match (X.getD k (none,[])).1 with | some y=>[y] | none=>[])):=ae (Fw hlt);have hcl:(iz (X.take k)).length≤1000:=(by unfold iz;have h1:=List.length_filterMap_le (·.1) (X.take k);rw[aI] at h1;have:=HLN.out;omega);rw[eR] at hcx hrx hx1;clear eR hrd hnx;generalize iz (X.take k)=M at*;generalize X.getD k (none,[])=row at*;obtain⟨oy,rw0⟩:=row;obtain⟨q1,q2,q3,q4⟩:=hok;simp only at*;rw[q1] at hcx hrx hx1;obtain⟨av,nv,cv,rfl⟩:=HO.out.sl;cases oy with
   | none=>
     have CT:=ae (lL rw0 ax cx w2 hrx q2 ⟨hx1,hx2⟩ (q4 rfl));rw[List.append_nil] at HT;rw[←HT.out] at HO;unfold gN at CT;clear hrx q1 q2 q3 q4;go_wp2_with fail;refine CT.out.mono ?_;rintro e w3 ⟨rfl,hb3⟩;have hba:=(az w3.heap.size w3).alloc (ah _) (.cells #[.int .i64 0,.int .i64 0,.int .i64 0,.int .i64 0,.int .i64 0,.int .i64 0,.int .u32 0,.slice none 0 0] 45);have HO4:=ae ((HO.out.new hb3).new hba);have HJ4:=ae (HB.out.trans ((hb3.trans (hba.mono hb3.size)).mono HB.out.size));clear hba hb3 CT HO;go_wp2_with fail;go_step3;exact .inl ⟨rfl,x-1,by omega,k+1,(k:Int),_,_,cl,w1,⟨by omega,by omega,ae (by omega),HB1,HR1,HO4,HJ4⟩,dX _ _ rfl⟩
   | some y=>
     obtain⟨id,d⟩:=y;obtain⟨p1,p2,p3,p4⟩:=q3 _ rfl;simp only at p1 p2 p3 p4;have CT:=ae (qR 0 0 id K H Z t d rw0 ax cx w2 (by omega) (by omega) p4 HK.out (by have:=HT16.out;omega) p2 p3 p1 hrx q2 ⟨hx1,hx2⟩);have HP4:=ae p4;clear hrx q1 q2 q3 q4 p1 p2 p3 p4;simp only[uq,qF] at CT;go_wp2_with fail;refine CT.out.mono ?_;rintro e w3 ⟨a3,c3,rfl,hr3,hb3⟩;have hba:=(az w3.heap.size w3).alloc (ah _) (.cells #[.int .i64 0,.int .i64 0,.int .i64 id,.int .i64 K,.int .i64 H,.int .i64 Z,.int .u32 (t:Nat),.slice a3 Z c3] 45);have hb4:Below w2.heap.size w2 (w3.alloc (.cells #[.int .i64 0,.int .i64 0,.int .i64 id,.int .i64 K,.int .i64 H,.int .i64 Z,.int .u32 (t:Nat),.slice a3 Z c3] 45)):=hb3.trans (hba.mono hb3.size);have HX4:=ae (Blk.new w3 45 #[.int .i64 0,.int .i64 0,.int .i64 id,.int .i64 K,.int .i64 H,.int .i64 Z,.int .u32 (t:Nat),.slice a3 Z c3]);have HM4:=ae (HM2.out.below hb4 HM2.out.lt);have HO4:=ae ((rS 4 _).new HO2.out hb4);have HR4:=ae ((rB d).new hr3 hba);have HB4:=ae hb4;clear hba hb4 hr3 hb3 CT;go_upto_region 7 with fail;generalize w3.alloc (.cells #[.int .i64 0,.int .i64 0,.int .i64 id,.int .i64 K,.int .i64 H,.int .i64 Z,.int .u32 (t:Nat),.slice a3 Z c3] 45)=w4 at*;generalize w3.heap.size=G4 at*;obtain⟨m0,m1,m2,m3,m4,m5,m6,m7⟩:=dc HM4.out;obtain⟨x0,x1,x2,x3,x4,x5,x6,x7⟩:=dc HX4.out;go_wp2_with fail;refine(CC.out id a3 c3 w4 HO4.out HP4.out).mono ?_;rintro e w5 ⟨rfl,hb5⟩;have HX5:=ae (HX4.out.below hb5 HX4.out.lt);have HB5:=ae (HB4.out.trans (hb5.mono HB4.out.size));have HR5:Hid ((jS K H Z t (id,d)).ok w5 (fun b=>Fr w1.heap.size b∧some b≠(Value.slice av nv cv).ownBlock) (qF K H Z t id (.slice a3 Z c3)).toList):=ae (Nf ((rB d).more ((rB d).new HR4.out hb5) fun b hb _=>⟨aQ HB.out.size hb,fun e=>by have h1:=(HO.out.lt b e.symm).2;have h2:w2.heap.size≤b:=hb;omega⟩));have HO5:=ae (HO.out.new HB5.out);have HJ5:=ae (HB.out.trans (HB5.out.mono HB.out.size));have hC5:w1.heap.size≤w5.heap.size:=HJ5.out.size;have hml:(M.map (jS K H Z t)).length≤1000000:=(by rw[aG];omega);clear hb5 HX4 HM4 HO4 HR4 HB4 m0 m1 m2 m3 m4 m5 m6 m7 x0 x1 x2 x3 x4 x5 x6 x7 HO HB5;obtain⟨x0,x1,x2,x3,x4,x5,x6,x7⟩:=dc HX5.out
     go_wp2_with (at_builtin;refine dJ (w:=w5) (w1:=w5) rfl _ _ rfl underlying254 IB rfl (by decide) (by decide) HO5.out (az _ _) hC5 hml (R:=jS K H Z t (id,d)) HR5.out rfl rfl rfl ?_)
     intro v6 w6 hO6 hb6;have HO6:Hid (OwnS w6 w1.heap.size 45 8 (Fr w1.heap.size) v6 ((iz (X.take (k+1))).map (jS K H Z t))):=ae (by rw[HT.out,aW];exact hO6);have HJ6:=ae (HJ5.out.trans hb6);clear hO6 hb6 HO5 HR5 HX5 HJ5 x0 x1 x2 x3 x4 x5 x6 x7;go_wp2_with fail;go_step3;exact .inl ⟨rfl,x-1,by omega,k+1,(k:Int),_,_,cl,w1,⟨by omega,by omega,ae (by omega),HB1,HR1,HO6,HJ6⟩,dX _ _ rfl⟩
  ·obtain rfl:k=X.length:=by omega
   rw[aO (ah _)] at HO;go_wp2_with fail;go_step3;exact .inr ⟨rfl,_,al,cl,w1,⟨HB1,HO,HB⟩,dX _ _ rfl⟩
 ·rintro a2' w2 ⟨vo,al,cl,w1,⟨HB1,HO,HB⟩,f,rfl⟩
  obtain⟨av,cv,rfl,-⟩:=HO.out.val;have hcn:(iz X).length≤19:=aQ (List.length_filterMap_le _ _) HLN.out;have HR:=ae HO.out.fr;rw[aG] at HR ⊢;obtain⟨N,hN⟩:∃N,(iz X).length=N:=⟨_,rfl⟩;rw[hN] at HR ⊢;have CS:=ae (uw K H Z t (iz X) _ av N cv w2 HR.out hN (by omega) HS.out);have CK:=ae fun (W:World) (hW:Below w2.heap.size w2 W)=>zT K H Z t (iz X) _ av N cv W ((rS 8 _).new HR.out hW) hN (by omega) HS.out;clear CD CC HO hcn hN hlen;go_wp2_with fail;refine CS.out.mono ?_;rintro e w3 ⟨rfl,hb3⟩;have CK3:=ae (CK.out w3 hb3);have HB3:=ae hb3;clear hb3 CS CK;go_wp2_with fail;refine CK3.out.mono ?_;rintro e w4 ⟨rfl,hb4⟩;have HB4:=ae (HB3.out.trans (hb4.mono HB3.out.size));clear hb4 CK3;go_wp2_with fail;simp only[cE];go_ret;exact⟨_,_,_,rfl,(rS 8 _).more ((rS 8 _).new HR.out HB4.out) fun b hb _=>aQ (aQ (Nat.le_of_lt hs0) HB1.out.size) hb,(HB0.out.trans (HB1.out.mono HB0.out.size)).trans ((HB.out.trans (HB4.out.mono HB.out.size)).mono (aQ (Nat.le_of_lt hs0) HB1.out.size))⟩
section
variable {B:Nat}
def kQ(X0 X1:List (Option (Nat×List Nat)×List Nat))(s:Nat):List (Option (Nat×List Nat)×List Nat):=if s=0 then X0 else X1
def jA(X0 X1:List (Option (Nat×List Nat)×List Nat))(k:Nat):List (Nat×List Nat):=((List.range k).map fun s=>iz (kQ X0 X1 s)).flatten
theorem wz(X0 X1:List (Option (Nat×List Nat)×List Nat))(k:Nat):jA X0 X1 (k+1)=jA X0 X1 k++iz (kQ X0 X1 k):=by
 unfold jA;rw[List.range_succ,aW,List.flatten_append];simp
theorem Drs.sel{w:World}{p d0 d1 room:Nat}{X0 X1:List (Option (Nat×List Nat)×List Nat)}(h:Drs B w p d0 d1 room (bU X0) (bU X1)){s:Nat}(hs:s≤1):∃o,DrR w (rT d0 d1 s) p room (bU (kQ X0 X1 s)) o:=by
 obtain⟨-,⟨o0,o1,h0,h1,-⟩,-,-⟩:=h;have hx2:s=0∨s=1:=by omega
 rcases hx2 with rfl | rfl
 ·exact⟨o0,h0⟩
 ·exact⟨o1,h1⟩
theorem yU(K H Z t ln ex g p d0 d1 room:Nat)(nm:ByteArray)(m:dC)(v1:Value)(al a2:Option Addr)(cl c2:Nat)(F:Nat→Prop)(X0 X1:List (Option (Nat×List Nat)×List Nat))(w:World)(h:Sto B w g p d0 d1 room m (bU X0) (bU X1))(hL:(rI [0,1]).ok w Any [.slice al 2 cl])(ho:(rS 4 ([(⟨nm,0,ln,[t]⟩:dM)].map bZ)).ok w F [.slice a2 1 c2])
 (hk:ed K H Z=true)(ht:t<16)(hX:∀s,s≤1→(∀x∈kQ X0 X1 s,tO K H Z t x)∧(kQ X0 X1 s).length≤19∧qZ (iz (kQ X0 X1 s))):
 Calls prog 177 #[.func (.func 92) #[.pointer (some ⟨g,0,none⟩)] #[],.slice al 2 cl,.agg (bF (dY K H Z ex ⟨nm,0,ln,[t]⟩) v1 (.slice a2 1 c2)),.int .i64 0,.int .i64 0] w fun e w'=>∃a n c,e=.returned (.slice a n c)∧(eu (jA X0 X1 2)).ok w' Any [.slice a n c]∧Below w.heap.size w w':=by
 have hba:=(az w.heap.size w).alloc (ah _) (.cells (bF (dY K H Z ex ⟨nm,0,ln,[t]⟩) v1 (.slice a2 1 c2)) 154);have hm0:=Blk.new w 154 (bF (dY K H Z ex ⟨nm,0,ln,[t]⟩) v1 (.slice a2 1 c2));have hs0:=h.below hba;have HL0:=ae ((rI _).new hL hba);have HO0:=ae ((rS 4 _).new ho hba);have HA0:=ae hba;have HXX:=ae hX;have CR:=ae fun (s o:_) w (h:DrR w (rT d0 d1 s) p room (bU (kQ X0 X1 s)) o) (ho:(rS 4 ([(⟨nm,0,ln,[t]⟩:dM)].map bZ)).ok w F [.slice a2 1 c2]) (hs:s≤1)=>zB K H Z t ln ex (rT d0 d1 s) p room nm v1 a2 c2 F (kQ X0 X1 s) o w h ho hk ht (hX s hs).1 (hX s hs).2.1 (hX s hs).2.2;simp only[DZ,zH] at*;generalize hw0:w.alloc (.cells #[.int .i64 2,.int .i64 1,.int .i64 K,.int .i64 H,.int .i64 Z,.int .i64 ex,v1,.slice a2 1 c2] 154)=w0 at*;have S0:Hid (Sx w0 w0 [bu w.heap.size 154 #[.int .i64 2,.int .i64 1,.int .i64 K,.int .i64 H,.int .i64 Z,.int .i64 ex,v1,.slice a2 1 c2],kJ B g p d0 d1 room m (bU X0) (bU X1)]):=ae (((Sx.nil w0).add (kJ B g p d0 d1 room m (bU X0) (bU X1)) hs0).add (bu _ _ _) hm0);have HQ0:Hid (OwnS w0 w0.heap.size 42 2 (Fr w0.heap.size) (.slice none 0 0) ((jA X0 X1 0).map fun x=>eG x.1 x.2)):=ae (OwnS.nil _ _ _ _ _);have HB0:=ae (az w0.heap.size w0);have HW0:=ae hw0;clear h hL ho hk ht hX hba hm0 hs0 hw0;go_enter func177,ntmps177;go_upto_region 1 with fail
 (try rw[HW0.out])
 clear HW0;go_wp2_with fail;go_loopw [11,18] (fun v i wr=>∃k:Nat,k≤2∧i=.int .i64 k∧Hid (OwnS wr w0.heap.size 42 2 (Fr w0.heap.size) v ((jA X0 X1 k).map fun x=>eG x.1 x.2))∧Hid (Below w0.heap.size w0 wr)) (fun _ i _=>2-(intOf i).toNat)
 case atStart=>exact⟨0,by omega,rfl,HQ0,HB0⟩
 case round=>
  clear HQ0 HB0;obtain⟨k,hkn,rfl,HQ,HB⟩:=hrel;obtain⟨bv,nv,cv,rfl⟩:=HQ.out.sl;by_cases hlt:k<2
  ·have hltI:(k:Int)<2:=by omega
   have hk1:k≤1:=(by omega);have S1:=ae (S0.out.step HB.out);obtain⟨a',c',e,hrd,-⟩:=dB ((rI _).new HL0.out HB.out) (n:=2) rfl;injection e with e1 e2 e3;subst e1 e3;obtain⟨b,o,rfl,hb,hcc⟩:=hrd.2 (by omega)
   have cq:wr.cell? ⟨b,o+k,none⟩=some (.int .i64 k):=hcc k _ (by
    have hk2:k=0∨k=1:=(by omega);rcases hk2 with rfl | rfl <;> rfl)
   have CDV:Hid (∀W,Below wr.heap.size wr W→Calls prog 92 #[.pointer (some ⟨g,0,none⟩),.int .i64 k] W fun e w'=>e=.returned (.pointer (some ⟨rT d0 d1 k,0,none⟩))∧w'=W):=ae fun W hW=>mF k g p d0 d1 room m _ _ W ((S1.out.step hW).sto 1 rfl) hk1
   have CRV:Hid (∀W,Below wr.heap.size wr W→Calls prog 182 #[.pointer (some ⟨rT d0 d1 k,0,none⟩),.agg #[.int .i64 2,.int .i64 1,.int .i64 K,.int .i64 H,.int .i64 Z,.int .i64 ex,v1,.slice a2 1 c2]] W fun e w'=>∃a n c,e=.returned (.slice a n c)∧(rS 8 ((iz (kQ X0 X1 k)).map (jS K H Z t))).ok w' (Fr W.heap.size) [.slice a n c]∧Below W.heap.size W w'):=ae fun W hW=>by
    obtain⟨o1,h1⟩:=(((S1.out.step hW).sto 1 rfl).drs).sel hk1;exact CR.out k o1 W h1 ((rS 4 _).new ((rS 4 _).new HO0.out HB.out) hW) hk1
   have HT:Hid (jA X0 X1 (k+1)=jA X0 X1 k++iz (kQ X0 X1 k)):=ae (wz X0 X1 k)
   have HLEN:Hid ((jA X0 X1 k).length≤1000):=ae (by
    have h0:=(HXX.out 0 (by omega)).2.1;have h1:(iz (kQ X0 X1 0)).length≤19:=aQ (List.length_filterMap_le _ _) h0;have hk2:k=0∨k=1:=(by omega);rcases hk2 with rfl | rfl
    ·simp[jA]
    ·rw[wz,aJ]
     simp[jA];omega)
   have HLN2:Hid ((iz (kQ X0 X1 k)).length≤1000):=ae (aQ (aQ (List.length_filterMap_le _ _) (HXX.out k hk1).2.1) (by omega));generalize iz (kQ X0 X1 k)=L at*;generalize jA X0 X1 k=M at*;generalize rT d0 d1 k=dx at*;obtain⟨m0,m1,m2,m3,m4,m5,m6,m7⟩:=dc (S1.out.blk 0 rfl);clear hcc hrd CR;go_upto_region 5 with fail;go_cut [26,27,28] (fun v l i wx=>∃a n c,v=.slice a n c∧l=.int .i64 (n:Nat)∧i=.int .i64 0∧Hid ((rS 8 (L.map (jS K H Z t))).ok wx (fun b=>wr.heap.size≤b∧b<wx.heap.size) [.slice a n c])∧Hid (Below wr.heap.size wr wx))
   case first=>
    go_region_law (first
     | (go_simp
        go_at_call 92;refine(CDV.out _ (by first | exact(az _ _).drew | exact az _ _)).mono ?_;rintro e w4 ⟨rfl,rfl⟩;go_simp)
     | (go_simp
        go_at_call 182;refine(CRV.out _ (by first | exact(az _ _).drew | exact az _ _)).mono ?_;rintro e w4 ⟨an,nn,cn,rfl,hr4,hb4⟩;have HR4:Hid ((rS 8 (L.map (jS K H Z t))).ok w4 (fun b=>wr.heap.size≤b∧b<w4.heap.size) [.slice an nn cn]):=ae ((rS 8 _).more hr4 fun b hb hl=>⟨hb,hl⟩);have HB4:Hid (Below wr.heap.size wr w4):=ae (by first | exact bA hb4 | exact hb4);clear hr4 hb4;go_simp))
    all_goals(
     go_simp;refine ‹∀(a':Act) (w':World),Met _ a' w'→_› _ _ ?_;go_meet;exact⟨an,nn,cn,rfl,rfl,rfl,HR4,HB4⟩)
   case rest=>
    obtain⟨an,nn,cn,rfl,rfl,rfl,HR4,HB4⟩:=hcut
    have HLL:Hid (L.length=nn):=ae (by
     obtain⟨a',n',c',e',_,_,_,h4,_⟩:=HR4.out;injection e' with e' _;injection e' with _ e2 _;rw[aG] at h4;omega)
    have hnn:nn≤1000:=(by have h1:=HLL.out;have h2:=HLN2.out;omega);have HQ4:Hid (OwnS wc w0.heap.size 42 2 (Fr w0.heap.size) (.slice bv nv cv) ((M++L.take 0).map fun x=>eG x.1 x.2)):=ae (by rw[List.take_zero,List.append_nil];exact HQ.out.new HB4.out);have HJ4:=ae (HB.out.trans (HB4.out.mono HB.out.size));have HE4:Hid (wc.heap.size≤wc.heap.size):=ae (ah _);have HO4:Hid (∀b,(Value.slice bv nv cv).ownBlock=some b→b<wr.heap.size∨wc.heap.size≤b):=ae fun b hb=>.inl (HQ.out.lt b hb).2;have HWR:=ae HB.out.size;clear CDV CRV S1 HQ HB HB4 m0 m1 m2 m3 m4 m5 m6 m7 cq hb;go_wp2_with fail;go_loopw [11,28] (fun v i wy=>∃j:Nat,j≤nn∧i=.int .i64 j∧Hid (OwnS wy w0.heap.size 42 2 (Fr w0.heap.size) v ((M++L.take j).map fun x=>eG x.1 x.2))∧Hid ((rS 8 (L.map (jS K H Z t))).ok wy (fun b=>wr.heap.size≤b∧b<wc.heap.size) [.slice an nn cn])∧Hid (Below w0.heap.size w0 wy)∧Hid (wc.heap.size≤wy.heap.size)∧Hid (∀b,v.ownBlock=some b→b<wr.heap.size∨wc.heap.size≤b)) (fun _ i _=>nn-(intOf i).toNat)
    case atStart=>exact⟨0,by omega,rfl,HQ4,HR4,HJ4,HE4,HO4⟩
    case round=>
     clear HQ4 HR4 HJ4 HE4 HO4;rename World=>wy;obtain⟨j,hjn,rfl,HQ,HR,HJ,HE,HO⟩:=hrel;obtain⟨bv,nv,cv,rfl⟩:=HQ.out.sl;by_cases hjl:j<nn
     ·have hjI:(j:Int)<(nn:Int):=by omega
      have hjL:j<L.length:=(by rw[HLL.out];exact hjl);have HTK:Hid (M++L.take (j+1)=(M++L.take j)++[L.getD j lq]):=ae (by rw[List.append_assoc,aP hjL,af,ag hjL];rfl);have hml:((M++L.take j).map fun x=>eG x.1 x.2).length≤1000000:=(by rw[aG,aJ,aI];have:=HLEN.out;have:=HLN2.out;omega);obtain⟨b,o,a3,c3,rfl,hF,hb,r0,r1,r2,r3,r4,r5,r6,r7,hr⟩:=yd HR.out HLL.out hjl;generalize L.getD j lq=y at*;obtain⟨id,d⟩:=y;simp only at*;generalize M++L.take j=MM at*;have hba:=(az wy.heap.size wy).alloc (ah _) (.cells #[.int .i64 0,.int .i64 0,.int .i64 id,.int .i64 K,.int .i64 H,.int .i64 Z,.int .u32 (t:Nat),.slice a3 d.length c3] 45);have HX7:=ae (Blk.new wy 45 #[.int .i64 0,.int .i64 0,.int .i64 id,.int .i64 K,.int .i64 H,.int .i64 Z,.int .u32 (t:Nat),.slice a3 d.length c3]);have HBA:=ae hba;have HRB:=ae hr;clear hr hF hb hba;go_upto_region 8 with fail;clear r0 r1 r2 r3 r4 r5 r6 r7;generalize wy.alloc (.cells #[.int .i64 0,.int .i64 0,.int .i64 id,.int .i64 K,.int .i64 H,.int .i64 Z,.int .u32 (t:Nat),.slice a3 d.length c3] 45)=w7 at*;have HQ7:=ae (HQ.out.new HBA.out);have HJ7:=ae (HJ.out.trans (HBA.out.mono HJ.out.size));have hC7:w0.heap.size≤w7.heap.size:=HJ7.out.size
      have HRS:Hid ((eG id d).ok w7 (fun b=>Fr w0.heap.size b∧some b≠(Value.slice bv nv cv).ownBlock) [.int .i64 id,.slice a3 d.length c3]):=ae (nJ (x:=[.int .i64 id]) (pQ rfl) ((rB d).keep HRB.out fun b hb hl=>⟨HBA.out.block b hl,aQ HWR.out hb.1,fun e=>by
       rcases HO.out b e.symm with h | h <;> omega⟩))
      obtain⟨x0,x1,x2,x3,x4,x5,x6,x7⟩:=dc HX7.out;have x0':w7.cell? ⟨wy.heap.size,0,none⟩=some (.int .i64 0):=x0;have x1':w7.cell? ⟨wy.heap.size,1,none⟩=some (.int .i64 0):=x1;clear x0 x1
      go_wp2_with (at_builtin;refine kK (w:=w7) rfl _ _ rfl underlying39 lD rfl (by decide) (by decide) HQ7.out hC7 hml (R:=eG id d) HRS.out rfl rfl rfl ?_)
      intro v8 w8 hO8 hb8 hs8 hk8 hat8;have HQ8:Hid (OwnS w8 w0.heap.size 42 2 (Fr w0.heap.size) v8 ((M++L.take (j+1)).map fun x=>eG x.1 x.2)):=ae (by rw[HTK.out,aW];exact hO8);have HR8:Hid ((rS 8 (L.map (jS K H Z t))).ok w8 (fun b=>wr.heap.size≤b∧b<wc.heap.size) [.slice (some ⟨b,o,none⟩) nn cn]):=ae ((rS 8 _).keep HR.out fun b hb hl=>⟨(hk8 b (aY hl HBA.out.size) fun e=>by rcases HO.out b e.symm with h | h <;> omega).trans (HBA.out.block b hl),hb⟩);have HJ8:=ae (HJ7.out.trans hb8);have HE8:Hid (wc.heap.size≤w8.heap.size):=ae (aQ HE.out (aQ HBA.out.size hs8))
      have HO8:Hid (∀b,v8.ownBlock=some b→b<wr.heap.size∨wc.heap.size≤b):=ae fun b hb=>by
       rcases hat8 with e | ⟨b',e,hb'⟩
       ·exact HO.out b (e▸hb)
       ·rw[hb] at e
        injection e with e;subst e;exact .inr (aQ HE.out (aQ HBA.out.size hb'))
      clear hO8 hb8 hs8 hk8 hat8 HQ7 HJ7 HRS HRB HX7 HBA HQ HR HJ HE HO x0' x1' x2 x3 x4 x5 x6 x7;go_wp2_with fail;go_roundw
      case rel=>(try((repeat apply Exists.intro);refine⟨?_,rfl⟩));exact⟨j+1,by omega,by go_num,HQ8,HR8,HJ8,HE8,HO8⟩
      case measure=>simp[intOf];omega
     ·obtain rfl:j=nn:=by omega
      have HQ9:Hid (OwnS wy w0.heap.size 42 2 (Fr w0.heap.size) (.slice bv nv cv) ((jA X0 X1 (k+1)).map fun x=>eG x.1 x.2)):=ae (by
       rw[HT.out];have h:=HQ.out
       rwa [aO (by rw[HLL.out];exact ah _)] at h)
      go_wp2_with fail;go_roundw
      case rel=>(try((repeat apply Exists.intro);refine⟨?_,rfl⟩));exact⟨k+1,by omega,by go_num,HQ9,HJ⟩
      case measure=>simp[intOf];omega
  ·obtain rfl:k=2:=by omega
   go_wp2_with fail;go_ret;exact⟨_,_,_,rfl,HQ.out.repAny,HA0.out.trans (HB.out.mono HA0.out.size)⟩
end
theorem I6(p:List Nat→Bool)(g:FuncId)(cb:Array Value)(L:List (List Nat))(F:Nat→Prop)(a:Option Addr)(n c:Nat)(w:World)(hx:(rM L).ok w F [.slice a n c])(hl:L.length=n)(hn:n≤1000000)
 (eg:∀args w,(callFunc g args).run prog w=.ok (.enter g args) w)(hp:∀x∈L,∀W,Below w.heap.size w W→∀a2 c2,Rd W W.heap.size a2 x.length (ba x)→Calls prog g (#[.slice a2 x.length c2]++cb) W fun e w'=>e=.returned (.bool (p x))∧Below W.heap.size W w'):
 Calls prog 329 #[.slice a n c,.func (.func g) #[] cb] w fun e w'=>e=.returned (.int .i64 (o6 p L))∧Below w.heap.size w w':=by
 have HX:=ae hx;have HL:=ae hl;have HP:=ae hp;have HB0:=ae (az w.heap.size w);clear hx hl hp;go_enter func329,ntmps329;go_wp2_with fail;go_loopw [8] (fun i wr=>∃k:Nat,k≤n∧i=.int .i64 k∧Hid (Below w.heap.size w wr)∧Hid (∀i,i<k→p (L.getD i [])=false)) (fun i _=>n-(intOf i).toNat)
 case atStart=>exact⟨0,by omega,rfl,HB0,ae fun i h=>absurd h (Nat.not_lt_zero i)⟩
 case round=>
  clear HB0;obtain⟨k,hkn,rfl,HB,HN⟩:=hrel;by_cases hlt:k<n
  ·have hltI:(k:Int)<(n:Int):=by omega
   obtain⟨a',c',e,hrd,-⟩:=dS ((rM _).new HX.out HB.out) HL.out;injection e with e1 _ e3;subst e1 e3;obtain⟨b,o,a2,c2,rfl,hb,c0,hr,-⟩:=hrd.at hlt;have hmem:L.getD k []∈L:=(by rw[af,ag (by rw[HL.out];exact hlt)];exact aU _);have CP:=ae (HP.out (L.getD k []) hmem wr HB.out a2 c2 hr);have HG:Hid (L.getD k []=L[k]'(by rw[HL.out];exact hlt)):=ae (by rw[af,ag (by rw[HL.out];exact hlt)];rfl);clear hr hmem hrd;cases hq:p (L.getD k []) with
   | true=>
     rw[hq] at CP;have HQ:=ae hq;clear hq;generalize L.getD k []=x at*
     go_wp2_with (go_at_fn g;refine CP.out.mono ?_;rintro e w2 ⟨rfl,hb2⟩)
     go_ret
     have e:=rL (p:=p) (l:=L) (k:=k) (by rw[HL.out];exact hlt) (by rw[←HG.out];exact HQ.out) fun i hi=>by
      have:=HN.out i hi
      rwa [af,ag (by rw[HL.out];omega)] at this
     rw[e];exact⟨rfl,HB.out.trans (hb2.mono HB.out.size)⟩
   | false=>
     rw[hq] at CP
     have HN2:Hid (∀i,i<k+1→p (L.getD i [])=false):=ae fun i hi=>by
      rcases Nat.lt_or_ge i k with h | h
      ·exact HN.out i h
      ·obtain rfl:i=k:=by omega
       exact hq
     clear hq HG;generalize L.getD k []=x at*
     go_wp2_with (go_at_fn g;refine CP.out.mono ?_;rintro e w2 ⟨rfl,hb2⟩)
     have HB2:=ae (HB.out.trans (hb2.mono HB.out.size));clear hb2;go_roundw
     case rel=>(try((repeat apply Exists.intro);refine⟨?_,rfl⟩));exact⟨k+1,by omega,by go_num,HB2,HN2⟩
     case measure=>simp[intOf];omega
  ·obtain rfl:k=n:=by omega
   go_wp2_with fail;go_ret;refine⟨?_,HB.out⟩
   have e:=o7 (p:=p) (l:=L) fun x hx=>by
    obtain⟨i,hi,rfl⟩:=List.getElem_of_mem hx;have:=HN.out i (by rw[←HL.out];exact hi)
    rwa [af,ag hi] at this
   rw[e];rfl
theorem I7(p:List Nat→Bool)(g:FuncId)(cb:Array Value)(L:List (List Nat))(F:Nat→Prop)(a:Option Addr)(n c:Nat)(w:World)(hx:(rM L).ok w F [.slice a n c])(hl:L.length=n)(hn:n≤1000000)
 (eg:∀args w,(callFunc g args).run prog w=.ok (.enter g args) w)(hp:∀x∈L,∀W,Below w.heap.size w W→∀a2 c2,Rd W W.heap.size a2 x.length (ba x)→Calls prog g (#[.slice a2 x.length c2]++cb) W fun e w'=>e=.returned (.bool (p x))∧Below W.heap.size W w'):
 Calls prog 296 #[.slice a n c,.func (.func g) #[] cb] w fun e w'=>e=.returned (.bool (L.any p))∧Below w.heap.size w w':=by
 have CI:=ae (I6 p g cb L F a n c w hx hl hn eg hp);rw[←tJ];clear hx hp;generalize o6 p L=r at*;go_enter func296,ntmps296;go_wp2_with fail;refine CI.out.mono ?_;rintro e w1 ⟨rfl,hb⟩;have HB:=ae hb;clear hb CI;go_wp2_with fail;go_ret;exact⟨rfl,HB.out⟩
theorem BZ(x y:List Nat)(a ap:Option Addr)(n c m cp gp:Nat)(w:World)(hx:Rd w w.heap.size a n (ba x))(hy:Rd w w.heap.size ap m (ba y))(hg:Blk w gp 23 #[.slice ap m cp])(hbx:By x)(hby:By y):
 Calls prog 297 (#[.slice a n c]++#[.pointer (some ⟨gp,0,none⟩)]) w fun e w'=>e=.returned (.bool (decide (x=y)))∧Below w.heap.size w w':=by
 show Calls prog 297 #[.slice a n c,.pointer (some ⟨gp,0,none⟩)] w _;have CE:=ae (jV x y _ _ a ap n m c cp w hx hy hbx hby);have g0:=hg.cell 0;have HB0:=ae (az w.heap.size w);generalize decide (x=y)=r at*;clear hx hy hg;go_enter func297,ntmps297;go_wp2_with fail;refine CE.out.mono ?_;rintro e w1 ⟨rfl,rfl⟩;go_wp2_with fail;go_ret;exact⟨rfl,HB0.out⟩
theorem FY(m:dC)(hone:m.objs.length≤1)(a1 a2:Option Addr)(n1 c1 n2 c2 dg p room:Nat)(F:Nat→Prop)(R:List (List Nat))(o:Option Nat)(w:World)(h:DrR w dg p room R o)(hd:(rI m.drives).ok w F [.slice a1 n1 c1])(hdl:m.drives.length=n1)(ho:(rS 4 (m.objs.map bZ)).ok w F [.slice a2 n2 c2])(hol:m.objs.length=n2)(hm:lm m)
 (n0:Nat)(hpl:(gZ m).length=n0)(h1:1≤n0)(h48:n0≤48)(hpb:By (gZ m))(hR:∀r∈R,r.length=64∧By r)(hn:R.length≤1000)(hin:bY m∈R)(hpy:By (bY m))(hp64:(bY m).length=64):
 Calls prog 244 #[.pointer (some ⟨dg,0,none⟩),.agg (bF m (.slice a1 n1 c1) (.slice a2 n2 c2))] w fun e w'=>e=.returned (.bool true)∧Below w.heap.size w w':=by
 have hba:=(az w.heap.size w).alloc (ah _) (.cells (bF m (.slice a1 n1 c1) (.slice a2 n2 c2)) 154);have HM0:=ae (Blk.new w 154 (bF m (.slice a1 n1 c1) (.slice a2 n2 c2)));have HB0:=ae hba;have HDR:=ae fun (w':World) (hb:Below w.heap.size w w')=>h.below hb;have HD:=ae fun (w':World) (hb:Below w.heap.size w w')=>(rI _).new hd hb;have HO:=ae fun (w':World) (hb:Below w.heap.size w w')=>(rS 4 _).new ho hb;have CMY:=ae fun (w:World) (hd:(rI m.drives).ok w F [.slice a1 n1 c1]) (ho:(rS 4 (m.objs.map bZ)).ok w F [.slice a2 n2 c2])=>zC m hone a1 a2 n1 c1 n2 c2 F w hd hdl ho hol hm;have CPS:=ae fun (w:World) (hd:(rI m.drives).ok w F [.slice a1 n1 c1]) (ho:(rS 4 (m.objs.map bZ)).ok w F [.slice a2 n2 c2])=>kR m hone a1 a2 n1 c1 n2 c2 F w hd hdl ho hol hm n0 hpl h1 h48 hpb
 have CDA:=ae fun (w:World) (h:DrR w dg p room R o) (hR:∀r∈R,r.length=64∧By r) (hn:R.length≤1000)=>show ∃v wt,DrB w dg p room v wt∧(rM R).ok w Any [v] from by
  obtain⟨v,wt,h1,h2,_⟩:=h;exact⟨v,wt,h1,h2.repAny⟩
 have HR:=ae hR;have HN:=ae hn;have HIN:=ae hin;have HPY:=ae hpy;have HP64:=ae hp64;clear h hd hdl ho hol hm hpl h1 h48 hpb hR hin hpy hba hone hp64;unfold bF at*;generalize bY m=pg at*;go_enter func244,ntmps244;go_upto_region 1 with fail;generalize w.alloc (.cells #[.int .i64 m.seq,.int .i64 m.next,.int .i64 m.K,.int .i64 m.H,.int .i64 m.Z,.int .i64 m.extra,.slice a1 n1 c1,.slice a2 n2 c2] 154)=w0 at*;obtain⟨x0,x1,x2,x3,x4,x5,x6,x7⟩:=dc HM0.out;have HWS:Hid (w.heap.size<w0.heap.size):=ae HM0.out.lt;go_wp2_with fail;refine(CMY.out w0 (HD.out w0 HB0.out) (HO.out w0 HB0.out)).mono ?_;rintro e w1 ⟨rfl,hb1⟩;have HB1:=ae (HB0.out.trans (hb1.mono HB0.out.size));have HM1:=ae (HM0.out.below hb1 HM0.out.lt);clear hb1 CMY x0 x1 x2 x3 x4 x5 x6 x7 HM0 HB0;obtain⟨v1,wt1,hdb1,hrm1⟩:=CDA.out w1 (HDR.out w1 HB1.out) HR.out HN.out;have CD:=ae (Jp dg p room wt1 v1 R Any w1 hdb1 hrm1 HN.out (fun x hx=>by have:=(HR.out x hx).1;omega));clear hdb1 hrm1 CDA HDR;go_wp2_with fail;refine CD.out.mono ?_;rintro e w2 ⟨vl,rfl,ho2,hb2⟩;obtain⟨al,cl,rfl,-⟩:=ho2.val;rw[aG] at ho2 ⊢;have HL2:Hid ((rM R).ok w2 Any [.slice al R.length cl]):=ae ho2.repAny;have HB2:=ae (HB1.out.trans (hb2.mono HB1.out.size));have HM2:=ae (HM1.out.below hb2 HM1.out.lt);clear ho2 hb2 CD HM1 HB1;obtain⟨x0,x1,x2,x3,x4,x5,x6,x7⟩:=dc HM2.out;go_wp2_with fail;refine(CPS.out w2 (HD.out w2 HB2.out) (HO.out w2 HB2.out)).mono ?_;rintro e w3 ⟨bp,op,cp,gp,rfl,hcp,hbp,hb3⟩;have HP3:Hid (Rd w3 w3.heap.size (some ⟨gp,0,none⟩) 64 (ba pg)):=ae (by have h:=kX hbp;rw[HP64.out] at h;exact h);have hcp3:w3.cell? ⟨bp,op,none⟩=some (.slice (some ⟨gp,0,none⟩) 64 64):=hcp;have hbl3:bp<w3.heap.size:=World.block_lt_of_cell? w3 _ hcp;have HL3:=ae ((rM _).new HL2.out hb3);have HB3:=ae (HB2.out.trans (hb3.mono HB2.out.size));clear hb3 CPS HM2 HL2 HB2 x0 x1 x2 x3 x4 x5 x6 x7 HD HO hcp hbp;go_wp2_with fail;go_loopw [16] (fun i wr=>(i=.int .i64 0∧Hid (wr=w3))∨(i=.int .i64 1∧Hid (Below w.heap.size w wr))) (fun i _=>1-(intOf i).toNat)
 case atStart=>exact .inl ⟨rfl,ae rfl⟩
 case round=>
  rcases hrel with⟨rfl,HW⟩ | ⟨rfl,HB⟩
  ·obtain rfl:=HW.out
   have hba:=(az wr.heap.size wr).alloc (ah _) (.cells #[.slice (some ⟨gp,0,none⟩) 64 64] 23);have HG4:=ae (Blk.new wr 23 #[.slice (some ⟨gp,0,none⟩) 64 64]);have HP4:=ae (HP3.out.below hba (ah _));have HL4:=ae ((rM _).new HL3.out hba);have HB4:=ae (HB3.out.trans (hba.mono HB3.out.size));have HSZ:=ae hba.size;clear hba HP3 HL3 HB3;go_upto_region 7 with fail;clear hcp3 hbl3;generalize wr.alloc (.cells #[.slice (some ⟨gp,0,none⟩) 64 64] 23)=w4 at*
   have CA:=ae (I7 (fun x=>decide (x=pg)) 297 #[.pointer (some ⟨wr.heap.size,0,none⟩)] R Any al R.length cl w4 HL4.out rfl (by have:=HN.out;omega) (enters_of func297 (by kernel_rfl) rfl) (fun x hx W hW a2 c2 hr=>
    BZ x pg a2 (some ⟨gp,0,none⟩) x.length c2 64 64 wr.heap.size W hr ((HP4.out.below hW HSZ.out).more (aQ HSZ.out hW.size)) (HG4.out.below hW HG4.out.lt) (HR.out x hx).2 HPY.out))
   rw[show(R.any fun x=>decide (x=pg))=true from List.any_eq_true.2 ⟨pg,HIN.out,by simp⟩] at CA;go_wp2_with fail;refine CA.out.mono ?_;rintro e w5 ⟨rfl,hb5⟩;have HB5:=ae (HB4.out.trans (hb5.mono HB4.out.size));clear hb5 CA;go_wp2_with fail;go_roundw
   case rel=>first | exact .inr ⟨by go_num,HB5⟩ | ((repeat apply Exists.intro);exact⟨.inr ⟨by go_num,HB5⟩,rfl⟩)
   case measure=>simp[intOf]
  ·go_wp2_with fail
   go_ret;exact⟨rfl,HB.out⟩
end Go.Proofs.YtofgapdnadbgkaaGreatDoor
