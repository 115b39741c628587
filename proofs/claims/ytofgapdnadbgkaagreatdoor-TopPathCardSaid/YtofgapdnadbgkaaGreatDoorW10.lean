import Derived.Test.YtofgapdnadbgkaaGreatDoorW9
set_option linter.unusedVariables false
set_option maxRecDepth 100000
set_option maxHeartbeats 400000000
namespace Go.Proofs.YtofgapdnadbgkaaGreatDoor
open Go.RowKit _root_.Go.Proofs.Tryz
section
open Go.RowKit Go.Sort
theorem A7(l:List Nat)(k x:Nat):(bf l).set k (.int .i64 (x:Nat))=bf (l.set k x):=by simp[bf]
theorem OwnI.cellA{w:World}{C g n c:Nat}{l:List Nat}(h:OwnI w C (.slice (some ⟨g,0,none⟩) n c) l)(hl:l.length=n){k:Nat}(hk:k<n):w.cell? ⟨g,k,none⟩=some (.int .i64 (l.getD k 0:Nat))∧w.frozen? ⟨g,k,none⟩=false:=by
 unfold OwnI at h;rw[hl] at h;exact⟨(h.cellAt k (by omega)).trans (bM (by omega)),h.frozenAt k⟩
theorem OwnI.storedA{w:World}{C g n c:Nat}{l:List Nat}(h:OwnI w C (.slice (some ⟨g,0,none⟩) n c) l)(hl:l.length=n)(k x:Nat):
 OwnI (w.setCell ⟨g,k,none⟩ (.int .i64 (x:Nat))) C (.slice (some ⟨g,0,none⟩) n c) (l.set k x):=by
 unfold OwnI at h ⊢;rw[hl] at h;rw[List.length_set,hl,←A7];exact(h.stored k _).1
theorem OwnI.formA{w:World}{C n c:Nat}{a:Option Addr}{l:List Nat}(h:OwnI w C (.slice a n c) l)(hl:l.length=n)(h0:0<n):∃g,a=some ⟨g,0,none⟩∧C≤g∧g<w.heap.size:=by
 unfold OwnI at h;rw[hl] at h;obtain⟨g,cap,e,h1,h2⟩:=h.form h0;injection e with e;exact⟨g,e,h1,h2⟩
theorem OwnI.takeA{w:World}{C n c:Nat}{a:Option Addr}{l:List Nat}(h:OwnI w C (.slice a n c) l)(hl:l.length=n){k:Nat}(hk:k≤n):OwnI w C (.slice a k c) (l.take k):=by
 unfold OwnI at h ⊢;rw[hl] at h;have hkl:(l.take k).length=k:=by rw[aI];omega
 rw[hkl];refine⟨by simp[bf];omega,?_⟩;rcases h.2 with⟨h1,h0⟩ | ⟨g',cap,cur,h1,h2,h3,h4,h5,h6,h7⟩
 ·injection h1 with e1 e2 e3
  subst e1 e3;obtain rfl:k=0:=(by omega);exact .inl ⟨rfl,rfl⟩
 ·injection h1 with e1 e2 e3
  subst e1 e3;refine .inr ⟨g',c,cur,rfl,h2,h3,by omega,h5,h6,?_⟩;have:bf (l.take k)=(bf l).take k:=(by simp[bf]);rw[this,←h7,List.take_take,Nat.mul_one,Nat.mul_one,Nat.min_eq_left hk]
theorem OwnI.lenA{w:World}{C:Nat}{v:Value}{l:List Nat}(h:OwnI w C v l):∃a c,v=.slice a l.length c:=by
 obtain⟨a,c,rfl,_⟩:=OwnI.rd h;exact⟨a,c,rfl⟩
theorem OwnI.ltA{w:World}{C:Nat}{v:Value}{l:List Nat}(h:OwnI w C v l):∀g,v.ownBlock=some g→C≤g∧g<w.heap.size:=World.ownsRow.lt h
theorem yO(p:Option Addr)(n k:Int)(w:World)(hno:¬(0≤n∧n≤64∧0≤k∧k≤n)):
 Calls prog 286 #[.pointer p,.int .i64 n,.int .i64 k] w fun e w'=>e=.returned (.slice none 0 0)∧w=w':=by
 go_enter func286,ntmps286;go_upto_region 3 with fail
 all_goals first | omega | (go_ret;exact⟨rfl,rfl⟩) | skip
theorem Hg(b o:Nat)(s:Int)(n k:Nat)(w:World)(hn:n≤64)(hk:k≤n)(hD:At w ⟨b,o,none⟩ (.int .u64 s)):
 Calls prog 286 #[.pointer (some ⟨b,o,none⟩),.int .i64 n,.int .i64 k] w fun e w'=>∃v,e=.returned v∧OwnI w' w.heap.size v (chosen false n s k)∧Below w.heap.size (fM w (some ⟨b,o,none⟩) (dE false n s k)) w':=by
 have g1:¬(n:Int)>64:=by omega
 have g2:¬(k:Int)>(n:Int):=by omega
 have HD:=ae hD;have hbG:b<w.heap.size:=hD.lt;have HO:Hid (OwnI w w.heap.size (.slice none 0 0) (List.range 0)):=ae (World.ownsRow_nil _ _ _ _);clear hD;go_enter func286,ntmps286;go_wp2_with fail;generalize hG:w.heap.size=G at*;have HG:=ae hG;clear hG;go_loopw [7,8] (fun l i wr=>∃j:Nat,j≤n∧i=.int .i64 j∧Hid (OwnI wr G l (List.range j))∧Hid (Below G w wr)) (fun _ i _=>n-(intOf i).toNat)
 case atStart=>exact⟨0,by omega,rfl,HO,ae (az _ _)⟩
 case round=>
  clear HO;obtain⟨j,hj,rfl,HO,HBL⟩:=hrel;have hGr:G≤wr.heap.size:=(by have:=HBL.out.size;have:=HG.out;omega);by_cases hlt:j<n
  ·have hlt':(j:Int)<(n:Int):=by omega
   have hown:(wr.alloc (.cells #[.int .i64 (j:Nat)] 3)).ownsRow G 3 1 u7 j (bf (List.range j)):=by
    have:=World.ownsRow.alloc HO.out (.cells #[.int .i64 (j:Nat)] 3);rw[List.length_range] at this;exact this
   have HOW:=ae hown;have hcell:(wr.alloc (.cells #[.int .i64 (j:Nat)] 3)).cell? ⟨wr.heap.size,0,none⟩=some (.int .i64 (j:Nat)):=dO wr _ _ 0;have HC:=ae hcell;clear hown hcell
   go_wp2_with (at_builtin;refine jX _ rfl _ _ 24 rfl G 3 (.int .i64 0) 8 underlying24 dK rfl u7 j (bf (List.range j)) rfl HOW.out wr.heap.size (.int .i64 (j:Nat)) rfl HC.out rfl ?q1 ?q2 ?q3 ?_)
   case q1=>omega
   case q2=>unfold maxLen;omega
   case q3=>first | omega | (simp;omega)
   intro v' w2 hown2 hg2 _
   have hO2:OwnI w2 G v' (List.range (j+1)):=by
    have e:bf (List.range (j+1))=bf (List.range j)++[.int .i64 (j:Nat)]:=(by rw[List.range_succ];simp[bf]);unfold OwnI;rw[List.length_range,e];exact hown2
   have HB2:=ae ((HBL.out.alloc hGr _).grown hg2 (by simp;omega) (fun g hg=>(HO.out.ltA g hg).1));have HO2:=ae hO2;clear hO2 hown2 hg2 HOW HC HBL HO;go_wp2_with fail;go_roundw
   case rel=>(try((repeat apply Exists.intro);refine⟨?_,rfl⟩));exact⟨j+1,by omega,by go_num,HO2,HB2⟩
   case measure=>simp[intOf];omega
  ·obtain rfl:j=n:=by omega
   have HO1:Hid (OwnI wr G u7 (dR false j s 0)):=ae HO.out;obtain⟨a,c,rfl⟩:=HO.out.lenA;rw[List.length_range] at HO1 ⊢;have hD1:At wr ⟨b,o,none⟩ (.int .u64 s):=HD.out.below HBL.out hbG
   have hset0:Hid (Below G (fM w (some ⟨b,o,none⟩) s) wr):=ae (by
    show Below G (w.setCell ⟨b,o,none⟩ (.int .u64 s)) wr;rw[eF w _ _ HD.out.1];exact HBL.out)
   have HD1:Hid (At wr ⟨b,o,none⟩ (.int .u64 (dE false j s 0))):=ae hD1;have HS0:Hid (Below G (fM w (some ⟨b,o,none⟩) (dE false j s 0)) wr):=ae hset0.out;clear HO HBL hD1 HD g1 hlt hset0;go_wp2_with fail;go_loopw [9,10] (fun i _ wr=>∃q:Nat,q≤k∧i=.int .i64 q∧Hid (OwnI wr G (.slice a j c) (dR false j s q))∧Hid (At wr ⟨b,o,none⟩ (.int .u64 (dE false j s q)))∧Hid (Below G (fM w (some ⟨b,o,none⟩) (dE false j s q)) wr)) (fun i _ _=>k-(intOf i).toNat)
   case atStart=>exact⟨0,by omega,rfl,HO1,HD1,HS0⟩
   case round=>
    clear HO1 HD1 HS0;obtain⟨q,hq,rfl,HO,HD,HBL⟩:=hrel;by_cases hlt:q<k
    ·have hqn:q<j:=by omega
     have hjj:=Bg (nl:=false) (s:=s) hqn;have cD:=yE (dE false j s q) ((j:Int)-(q:Int)) b o wr HD.out (by omega);have hL1:Hid (dR false j s (q+1)=kC (dR false j s q) q (q+bN false (dE false j s q) ((j:Int)-(q:Int)))):=ae rfl;have hS1:Hid (dE false j s (q+1)=sN false (dE false j s q) ((j:Int)-(q:Int))):=ae rfl;have hlen:=eT false j s q;have hBb:=Ia (nl:=false) (s:=dE false j s q) (n:=(j:Int)-(q:Int)) (by omega);generalize bN false (dE false j s q) ((j:Int)-(q:Int))=bb at*;generalize hs1:sN false (dE false j s q) ((j:Int)-(q:Int))=s1 at*;generalize dE false j s q=s0 at*;generalize dR false j s q=L at*;have CD:=ae cD;have HLEN:=ae hlen;have HBb:=ae hBb;clear cD hlen hBb hs1;have hlt':(q:Int)<(k:Int):=(by omega);obtain⟨g,rfl,hgG,hgs⟩:=HO.out.formA HLEN.out (by omega);have hbg:b<g:=(by omega);go_wp2_with fail;refine CD.out.mono ?_;rintro e w2 ⟨rfl,rfl⟩;have hO2:OwnI (fM wr (some ⟨b,o,none⟩) s1) G (.slice (some ⟨g,0,none⟩) j c) L:=ownsRow_setCell_below HO.out (a:=⟨b,o,none⟩) hbG (.int .u64 s1);have hD2:At (fM wr (some ⟨b,o,none⟩) s1) ⟨b,o,none⟩ (.int .u64 s1):=HD.out.put _;have hbl2:=uV HBL.out (by rw[jw,HG.out];exact ah _) (some ⟨b,o,none⟩) s1;rw[xk _ _ _ _ (.inr ⟨b,o,rfl⟩)] at hbl2;have HBL2:=ae hbl2;obtain⟨jj,hjje⟩:∃jj,jj=q+bb:=⟨_,rfl⟩;rw[←hjje] at hjj;have hjI:(q:Int)+(bb:Int)=(jj:Int):=(by omega);have hbI:(bb:Int)<64:=(by have:=HBb.out;omega);rw[←hjje] at hL1;obtain⟨c1,f1⟩:=hO2.cellA HLEN.out hqn;obtain⟨c2,f2⟩:=hO2.cellA HLEN.out hjj;have t1:=(hO2.storedA HLEN.out q (L.getD jj 0)).storedA (by rw[List.length_set];exact HLEN.out) jj (L.getD q 0);have T1:Hid (OwnI (((fM wr (some ⟨b,o,none⟩) s1).setCell ⟨g,q,none⟩ (.int .i64 (L.getD jj 0:Nat))).setCell ⟨g,jj,none⟩ (.int .i64 (L.getD q 0:Nat))) G (.slice (some ⟨g,0,none⟩) j c) (dR false j s (q+1))):=ae (by rw[hL1.out];exact t1);have HJJ:=ae hjje;have HD2:=ae hD2;clear hO2 hD2 hbl2 t1 HO HBL HD hjje CD HBb;generalize L.getD q 0=x at*;generalize L.getD jj 0=y at*;generalize fM wr (some ⟨b,o,none⟩) s1=w3 at*;have T2:=ae ((HBL2.out.setCell (p:=⟨g,q,none⟩) hgG (.int .i64 (y:Nat))).setCell (p:=⟨g,jj,none⟩) hgG (.int .i64 (x:Nat)));have T3:=ae ((HD2.out.far (q:=⟨g,q,none⟩) (by simp;omega) (.int .i64 (y:Nat))).far (q:=⟨g,jj,none⟩) (by simp;omega) (.int .i64 (x:Nat)));rw[hS1.out.symm] at T2 T3;have hqI:(q:Int)<(j:Int):=(by omega);have hjjI:(jj:Int)<(j:Int):=(by omega);go_wp2_with fail;have HLT:=ae hlt;clear hjI hbI hqn hjj hlt hlt' hq;by_cases hqj:q=jj
     ·subst hqj
      obtain rfl:x=y:=(by rw[c1] at c2;injection c2 with c2;injection c2 with _ c2;omega);go_region;go_wp2_with fail;refine⟨⟨q+1,by have:=HLT.out;omega,by go_num,ae T1.out,ae T3.out,ae (Below.drew T2.out)⟩,?_⟩;have:=HLT.out;simp[intOf];omega
     ·go_region
      go_wp2_with fail;refine⟨⟨q+1,by have:=HLT.out;omega,by go_num,ae T1.out,ae T3.out,ae (Below.drew T2.out)⟩,?_⟩;have:=HLT.out;simp[intOf];omega
    ·obtain rfl:q=k:=by omega
     have hO1:=OwnI.takeA HO.out (eT _ _ _ _) hk;have hch:Hid (chosen false j s q=((dR false j s q).take q).mergeSort leB):=ae rfl;have hZl:((dR false j s q).take q).length=q:=(by rw[aI,eT];omega);have HZL:=ae hZl;have hZb:∀x∈(dR false j s q).take q,x<64:=fun x hx=>(by have:=List.mem_range.1 ((nU (nl:=false) (s:=s) hk).mem_iff.1 (List.mem_of_mem_take hx));omega);have HZB:=ae hZb;have HBL3:=ae HBL.out;generalize (dR false j s q).take q=Z at*;have HO3:=ae hO1
     have hqc:q≤c:=aQ hk (by
      have h:=HO.out;unfold OwnI at h;rcases h.2 with⟨h1,h2⟩ | ⟨g',cap,cur,h1,_,_,h4,_⟩
      ·rw[eT] at h2;omega
      ·injection h1 with e1 e2 e3;rw[eT] at h4;omega)
     clear hO1 hZl hZb HO HD HBL;go_wp2_with fail;go_loopw [11,12,68] (fun _ _ i wr=>∃i':Nat,i'≤q∧i=.int .i64 i'∧Hid (∃P,OwnI wr G (.slice a q c) P∧P.Perm Z∧DD (P.take i'))∧Hid (Below G (fM w (some ⟨b,o,none⟩) (dE false j s q)) wr)) (fun _ _ i _=>q-(intOf i).toNat)
     case atStart=>exact⟨0,by omega,rfl,ae ⟨Z,HO3.out,List.Perm.refl _,by simp[DD]⟩,HBL3⟩
     case round=>
      clear HO3 HBL3;obtain⟨i,hi,rfl,HP,HBL⟩:=hrel;by_cases hiq:i<q
      ·have hiqI:(i:Int)<(q:Int):=by omega
       have hP0:Hid (∃P,OwnI wr G (.slice a q c) P∧Ins Z i i P):=ae (by
        obtain⟨P,h1,h2,h3⟩:=HP.out;exact⟨P,h1,Ins.start (by rw[h2.length_eq,HZL.out];exact hiq) h3 h2⟩)
       clear HP;go_wp2_with fail;go_loopw [12] (fun z wq=>∃r:Nat,r≤i∧z=.int .i64 r∧Hid (∃P,OwnI wq G (.slice a q c) P∧Ins Z i r P)∧Hid (Below G (fM w (some ⟨b,o,none⟩) (dE false j s q)) wq)) (fun z _=>(intOf z).toNat)
       case atStart=>exact⟨i,ah _,rfl,hP0,HBL⟩
       case round=>
        clear hP0 HBL;obtain⟨r,hr,rfl,HP,HBL⟩:=hrel;obtain⟨P,hO,hI⟩:=HP.out;have hperm:P.Perm Z:=(by obtain⟨_,_,_,_,_,_,_,_,_,h⟩:=hI;exact h);have hPl:P.length=q:=by rw[hperm.length_eq];exact HZL.out
        have hPb:∀k,P.getD k 0<64:=fun k=>by
         rcases Nat.lt_or_ge k P.length with h | h
         ·rw[getD_at h];exact HZB.out _ (hperm.mem_iff.1 (aU h))
         ·rw[af,List.getElem?_eq_none h];decide
        have HO:=ae hO;have HI:=ae hI;have HPL:=ae hPl;have HPP:=ae hperm;clear HP hO hI hperm;rcases Nat.eq_zero_or_pos r with h0 | h0
        ·subst h0
         have hstop:Hid (∃P,OwnI wr G (.slice a q c) P∧P.Perm Z∧DD (P.take (i+1))):=ae ⟨P,HO.out,(HI.out.stop (.inl rfl)).2,(HI.out.stop (.inl rfl)).1⟩;have hd:decide ((0:Int)<((0:Nat):Int))=false:=rfl;have hd2:decide ((((0:Nat):Int))>0)=false:=rfl;clear HO HI HPL HPP hPb;go_wp2_with fail
         go_quiet (fail)
         have HB2:Hid (Below G (fM w (some ⟨b,o,none⟩) (dE false j s q)) (wr.drewN nq)):=ae (below_drewN HBL.out nq);have HS2:Hid (∃P,OwnI (wr.drewN nq) G (.slice a q c) P∧P.Perm Z∧DD (P.take (i+1))):=ae hstop.out;clear hstop HBL;generalize wr.drewN nq=w5 at*;go_wp2_with fail;go_roundw
         case rel=>(try((repeat apply Exists.intro);refine⟨?_,rfl⟩));exact⟨i+1,by omega,by go_num,HS2,HB2⟩
         case measure=>simp[intOf];omega
        ·obtain⟨r1,hr1⟩:∃r1,r1=r-1:=⟨_,rfl⟩
         have hr1I:(r:Int)-1=(r1:Int):=(by omega);have hrr:r=r1+1:=(by omega);have hrp:(0:Int)<(r:Int):=(by omega);have hd:decide ((0:Int)<(r:Int))=true:=(by simpa using h0);have hrq:(r:Int)<(q:Int):=(by omega);have hr1q:(r1:Int)<(q:Int):=(by omega);obtain⟨g,rfl,hgG,hgs⟩:=HO.out.formA HPL.out (by omega);obtain⟨c1,f1⟩:=HO.out.cellA HPL.out (k:=r) (by omega);obtain⟨c2,f2⟩:=HO.out.cellA HPL.out (k:=r1) (by omega);have b1:=hPb r;have b2:=hPb r1;have t1:=(HO.out.storedA HPL.out r (P.getD r1 0)).storedA (by rw[List.length_set];exact HPL.out) r1 (P.getD r 0);have HT:Hid (OwnI ((wr.setCell ⟨g,r,none⟩ (.int .i64 (P.getD r1 0:Nat))).setCell ⟨g,r1,none⟩ (.int .i64 (P.getD r 0:Nat))) G (.slice (some ⟨g,0,none⟩) q c) (kC P r r1)):=ae t1
         have HDN:Hid (P.getD r 0<P.getD r1 0→Ins Z i r1 (kC P r r1)):=ae fun h=>by
          have hI:=HI.out;rw[hrr] at hI h ⊢;exact hI.down h
         have HST:Hid (P.getD r1 0≤P.getD r 0→P.Perm Z∧DD (P.take (i+1))):=ae fun h=>by
          have:=HI.out.stop (.inr (by rw[←hr1];exact h));exact⟨this.2,this.1⟩
         have HOP:=ae HO.out;clear t1 HI HPL HPP hPb HO hr1;have hrne:r≠r1:=(by omega);have HRR:=ae hrr;clear hrr;generalize P.getD r 0=y at*;generalize P.getD r1 0=x at*;by_cases hyx:y<x
         ·have hyxI:(y:Int)<(x:Int):=by omega
          have hdI:decide ((y:Int)<(x:Int))=true:=(by simpa using hyx);have HIN:=ae (HDN.out hyx);have HW:=ae hrne;clear HDN HST hyx;go_wp2_with fail
          go_quiet (fail)
          have HT2:Hid (OwnI (((wr.drewN nq).setCell ⟨g,r,none⟩ (.int .i64 (x:Nat))).setCell ⟨g,r1,none⟩ (.int .i64 (y:Nat))) G (.slice (some ⟨g,0,none⟩) q c) (kC P r r1)):=ae HT.out;have c1':(wr.drewN nq).cell? ⟨g,r,none⟩=some (.int .i64 (y:Nat)):=c1;have c2':(wr.drewN nq).cell? ⟨g,r1,none⟩=some (.int .i64 (x:Nat)):=c2;have f1':(wr.drewN nq).frozen? ⟨g,r,none⟩=false:=f1;have f2':(wr.drewN nq).frozen? ⟨g,r1,none⟩=false:=f2;have HB2:Hid (Below G (fM w (some ⟨b,o,none⟩) (dE false j s q)) (wr.drewN nq)):=ae (below_drewN HBL.out nq);clear HT c1 c2 f1 f2 HBL;generalize wr.drewN nq=w5 at*;have HB3:=ae ((HB2.out.setCell (p:=⟨g,r,none⟩) hgG (.int .i64 (x:Nat))).setCell (p:=⟨g,r1,none⟩) hgG (.int .i64 (y:Nat)));have hne1:¬((r:Int)=(r1:Int)):=(by omega);have hne2:¬(r1=r):=(by have:=HW.out;omega);go_wp2_with fail;go_region;have HT3:Hid (∃P,OwnI ((w5.setCell ⟨g,r,none⟩ (.int .i64 (x:Nat))).setCell ⟨g,r1,none⟩ (.int .i64 (y:Nat))).drew G (.slice (some ⟨g,0,none⟩) q c) P∧Ins Z i r1 P):=ae ⟨_,HT2.out,HIN.out⟩;have HB4:Hid (Below G (fM w (some ⟨b,o,none⟩) (dE false j s q)) ((w5.setCell ⟨g,r,none⟩ (.int .i64 (x:Nat))).setCell ⟨g,r1,none⟩ (.int .i64 (y:Nat))).drew):=ae (HB3.out.drew);clear HT2 HB2 HB3 c1' c2' f1' f2';generalize ((w5.setCell ⟨g,r,none⟩ (.int .i64 (x:Nat))).setCell ⟨g,r1,none⟩ (.int .i64 (y:Nat))).drew=w6 at*;go_wp2_with fail;go_roundw
          case rel=>(try((repeat apply Exists.intro);refine⟨?_,rfl⟩));exact⟨r1,by omega,by go_num,HT3,HB4⟩
          case measure=>simp[intOf];omega
         ·have hyxI:¬(y:Int)<(x:Int):=by omega
          have hdI:decide ((y:Int)<(x:Int))=false:=(by simpa using hyx);have hstop:Hid (∃P,OwnI wr G (.slice (some ⟨g,0,none⟩) q c) P∧P.Perm Z∧DD (P.take (i+1))):=ae ⟨P,HOP.out,HST.out (by omega)⟩;clear HDN HST HOP HT hyx f1 f2;go_wp2_with fail
          go_quiet (fail)
          have HB2:Hid (Below G (fM w (some ⟨b,o,none⟩) (dE false j s q)) (wr.drewN nq)):=ae (below_drewN HBL.out nq);have HS2:Hid (∃P,OwnI (wr.drewN nq) G (.slice (some ⟨g,0,none⟩) q c) P∧P.Perm Z∧DD (P.take (i+1))):=ae hstop.out;clear hstop HBL c1 c2;generalize wr.drewN nq=w5 at*;go_wp2_with fail;go_roundw
          case rel=>(try((repeat apply Exists.intro);refine⟨?_,rfl⟩));exact⟨i+1,by omega,by go_num,HS2,HB2⟩
          case measure=>simp[intOf];omega
      ·obtain rfl:i=q:=by omega
       have hfin:Hid (OwnI wr G (.slice a i c) (chosen false j s i)):=ae (by
        obtain⟨P,h1,h2,h3⟩:=HP.out;rw[aO (by rw[h2.length_eq,HZL.out];exact ah _)] at h3;rw[hch.out,←Ib h2 h3];exact h1)
       go_wp2_with fail;go_ret;exact⟨_,rfl,by rw[HG.out];exact hfin.out,by rw[HG.out];exact HBL.out⟩
end
section
open Go.RowKit Go.Sort
def Kk(n k:Int):Bool:=decide (0≤n∧n≤64∧0≤k∧k≤n)
def qH(s n k:Int):List Nat:=if Kk n k then chosen false n.toNat s k.toNat else []
def F7(s n k:Int):Int:=if Kk n k then dE false n.toNat s k.toNat else s
theorem Ja(s n k:Int):(qH s n k).length≤64:=by
 unfold qH Kk;split
 ·rename_i h
  simp only[decide_eq_true_eq] at h;rw[sZ (by omega)];omega
 ·simp
theorem wU{w:World}{b o:Nat}{s:Int}(h:At w ⟨b,o,none⟩ (.int .u64 s)):fM w (some ⟨b,o,none⟩) s=w:=eF w _ _ h.1
theorem Lj(b o:Nat)(s n k:Int)(w:World)(hD:At w ⟨b,o,none⟩ (.int .u64 s)):
 Calls prog 83 #[.pointer (some ⟨b,o,none⟩),.int .i64 n,.int .i64 k] w fun e w'=>∃v,e=.returned v∧OwnI w' w.heap.size v (qH s n k)∧Below w.heap.size (fM w (some ⟨b,o,none⟩) (F7 s n k)) w':=by
 by_cases h:0≤n∧n≤64∧0≤k∧k≤n
 ·obtain⟨N,rfl⟩:=Int.eq_ofNat_of_zero_le h.1
  obtain⟨K,rfl⟩:=Int.eq_ofNat_of_zero_le h.2.2.1;have e:Kk (N:Int) (K:Int)=true:=decide_eq_true h;unfold qH F7;rw[if_pos e,if_pos e];exact Jf (some ⟨b,o,none⟩) s N K w (by omega) (by omega) (.inr ⟨b,o,rfl,hD⟩)
 ·have e:¬Kk n k=true:=by simp only[Kk,decide_eq_true_eq];exact h
  unfold qH F7;rw[if_neg e,if_neg e,wU hD];exact(Ad _ n k w h).mono fun e w' ⟨h1,h2⟩=>⟨_,h1,h2▸OwnI.nil _ _,h2▸az _ _⟩
theorem Ll(b o:Nat)(s n k:Int)(w:World)(hD:At w ⟨b,o,none⟩ (.int .u64 s)):
 Calls prog 286 #[.pointer (some ⟨b,o,none⟩),.int .i64 n,.int .i64 k] w fun e w'=>∃v,e=.returned v∧OwnI w' w.heap.size v (qH s n k)∧Below w.heap.size (fM w (some ⟨b,o,none⟩) (F7 s n k)) w':=by
 by_cases h:0≤n∧n≤64∧0≤k∧k≤n
 ·obtain⟨N,rfl⟩:=Int.eq_ofNat_of_zero_le h.1
  obtain⟨K,rfl⟩:=Int.eq_ofNat_of_zero_le h.2.2.1;have e:Kk (N:Int) (K:Int)=true:=decide_eq_true h;unfold qH F7;rw[if_pos e,if_pos e];exact Hg b o s N K w (by omega) (by omega) hD
 ·have e:¬Kk n k=true:=by simp only[Kk,decide_eq_true_eq];exact h
  unfold qH F7;rw[if_neg e,if_neg e,wU hD];exact(yO _ n k w h).mono fun e w' ⟨h1,h2⟩=>⟨_,h1,h2▸OwnI.nil _ _,h2▸az _ _⟩
structure Aft (W:World) (b o:Nat) (t:Int) (w':World):Prop where
 far:∀k,k≠b→k<W.heap.size→w'.heap[k]? =W.heap[k]?
 at_:At w' ⟨b,o,none⟩ (.int .u64 t)
 size:W.heap.size≤w'.heap.size
theorem Aft.below{W w w':World}{b o G:Nat}{s t:Int}(hD:At W ⟨b,o,none⟩ (.int .u64 s))(h:Below W.heap.size (fM W (some ⟨b,o,none⟩) t) w')(hB:Below G w W)(hb:G≤b):Below G w w':=
 (hB.setCell (p:=⟨b,o,none⟩) hb (.int .u64 t)).trans (h.mono (by have:=hD.lt;simp at this;omega))
end
theorem Ez(l:Int)(hl: -9223372036854775808≤l∧l≤9223372036854775807)(w:World):
 Calls prog 285 #[.int .i64 l] w fun e w'=>∃v,e=.returned v∧OwnI w' w.heap.size v (eD l)∧Below w.heap.size w w':=by
 by_cases hin:1≤l∧l≤64
 ·obtain⟨n,rfl⟩:=Int.eq_ofNat_of_zero_le (a:=l) (by omega)
  have h1:1≤n:=(by omega);have h2:n≤64:=(by omega);rw[sF ⟨h1,h2⟩];clear hl hin;have hr:=Ex h1 h2;have HB4:Hid (Lib.bitLen (dH n)≤4):=ae hr.2.2;go_enter func285,ntmps285;go_wp2_with fail;go_loopw [4] (fun r wr=>∃k:Nat,k≤8∧r=.int .i64 k∧Hid (nQ n k (9-k)=dH n)∧w=wr) (fun r _=>8-(intOf r).toNat)
  case atStart=>exact⟨0,by omega,rfl,ae rfl,rfl⟩
  case round=>
   obtain⟨k,hk,rfl,HK,rfl⟩:=hrel;have hkk:k*k≤8*8:=Nat.mul_le_mul hk hk;have e1:(k:Int)*(k:Int)=((k*k:Nat):Int):=(by rw[Int.natCast_mul]);have HS:Hid (nQ n k (9-k)=if k*k<n then nQ n (k+1) (9-(k+1)) else k):=ae (by rw[show 9-k=(9-(k+1))+1 by omega,nQ]);have h8:k=8→k*k=64:=(by rintro rfl;rfl);generalize k*k=q at*;by_cases hlt:q<n
   ·have hk7:k<8:=by omega
    clear h8;go_wp2_with fail;go_roundw
    case rel=>exact⟨k+1,by omega,by go_num,ae (by rw[←HK.out,HS.out,if_pos hlt]),by first | rfl | trivial⟩
    case measure=>simp[intOf];omega
   ·have hkr:k=dH n:=by rw[←HK.out,HS.out,if_neg hlt]
    clear h8 HK HS;have HKR:=ae hkr;have hk1:1≤k:=(by omega);have q2:(n:Int)/(k:Int)=((n/k:Nat):Int):=(by simp);have q2b:n/k≤n:=Nat.div_le_self _ _;clear hkr hr;generalize hm:n/k=m at*;have HM:=ae hm;clear hm;go_wp2_with fail;go_loopw [6,7] (fun b x wr=>∃(f c y:Nat),b=.int .i64 c∧x=.int .i64 y∧y≤8∧c≤64∧Hid (y<2 ^ f)∧Hid (c+Lib.bitLenAux f y=Lib.bitLen k)∧Hid (f+c=64)∧w=wr) (fun _ x _=>(intOf x).toNat)
    case atStart=>exact⟨64,0,k,rfl,rfl,by omega,by omega,ae (by omega),ae (by rw[Nat.zero_add];rfl),ae rfl,rfl⟩
    case round=>
     obtain⟨f,c,y,rfl,rfl,hy,hc,HF,HC,HFC,rfl⟩:=hrel;by_cases hy0:0<y
     ·obtain⟨f',rfl⟩:∃f',f=f'+1:=by
       cases f with
       | zero=>have:=HF.out;omega
       | succ f'=>exact⟨f',rfl⟩
      have HF2:Hid (y/2<2 ^ f'):=ae (by have:=HF.out;rw[Nat.pow_succ] at this;omega);have HC2:Hid (c+1+Lib.bitLenAux f' (y/2)=Lib.bitLen k):=ae (by rw[←HC.out,Lib.bitLenAux,if_neg (by omega)];omega);have HFC2:Hid (f'+(c+1)=64):=ae (by have:=HFC.out;omega);have hc63:c≤63:=(by have:=HFC.out;omega);have q3:(y:Int)/2=((y/2:Nat):Int):=(by simp);have q3b:y/2<y:=(by omega);clear HF HC HFC;generalize y/2=z at*;go_wp2_with fail;go_roundw
      case rel=>exact⟨f',c+1,z,by go_num,rfl,by omega,by omega,HF2,HC2,HFC2,by first | rfl | trivial⟩
      case measure=>simp[intOf];omega
     ·obtain rfl:y=0:=by omega
      have hb0:∀f,Lib.bitLenAux f 0=0:=by intro f;cases f <;> rfl
      have hcb:c=Lib.bitLen (dH n):=by
       have:=HC.out;rw[hb0,Nat.add_zero,HKR.out] at this;exact this
      have hc4:c≤4:=(by have:=HB4.out;omega);have HCB:=ae hcb;clear HF HC HFC hcb hb0 hy hc;have HMR:Hid (n/dH n=m):=ae (by rw[←HKR.out];exact HM.out);clear HM;go_wp2_with fail;generalize hB0:w.heap.size=B0 at*;have HB0:=ae hB0;clear hB0;go_loopw [8,9,10] (fun v s i wr=>∃j K:Nat,Hid (K=j+1)∧1≤K∧K≤n+1∧i=.int .i64 K∧s=.int .i64 (fN n j:Nat)∧Hid (OwnI wr B0 v ((gG n).take j))∧Hid (Below B0 w wr)) (fun _ _ i _=>n+1-(intOf i).toNat)
      case atStart=>exact⟨0,1,ae rfl,by omega,by omega,rfl,rfl,ae (OwnI.nil _ _),ae (az _ _)⟩
      case round=>
       obtain⟨j,K,HJ,hK1,hK2,rfl,rfl,HO,HB⟩:=hrel;by_cases hlt:K≤n
       ·have hlt':(K:Int)≤(n:Int):=by omega
        have hs0:=sum_lt h2 (k:=j) (by have:=HJ.out;omega);have hs1:=sum_lt h2 (k:=j+1) (by have:=HJ.out;omega);have hss:(fN n j:Int)+(yN n K:Int)=(fN n (j+1):Nat):=(by rw[←Int.natCast_add,HJ.out];rfl);have htk:=xw (k:=j) (l:=n) (by have:=HJ.out;omega);have hlen:((gG n).take j).length=j:=(by rw[aI,eC];have:=HJ.out;omega);have hjn:j<n:=(by have:=HJ.out;omega);have HT:=ae htk;have HL:=ae hlen;clear htk hlen;have hV:yN n K=if K<n/dH n then He n K+1048576*dH n/(n*K) else if K=n/dH n then He n K+1048576*dH n*Lib.bitLen (dH n)/n else He n K:=rfl;have hBB:He n K=if 1<K then 1048576/(K*(K-1)) else 1048576/n:=rfl;rw[HMR.out,←HCB.out,←HKR.out] at hV;generalize yN n K=wt at*;generalize He n K=base at*;generalize fN n j=s0 at*;generalize hs1e:fN n (j+1)=s1 at*;have HS1:=ae hs1e;clear hs1e;have p1:K*(K-1)≤64*63:=Nat.mul_le_mul (by omega) (by omega);have p1':1<K→2*1≤K*(K-1):=fun h=>Nat.mul_le_mul h (by omega);have p2:n*K≤64*64:=Nat.mul_le_mul h2 (by omega);have p2':1*1≤n*K:=Nat.mul_le_mul h1 (by omega);have p3:1048576*k*c≤1048576*8*4:=Nat.mul_le_mul (by omega) hc4;have e1:(K:Int)*((K:Int)-1)=((K*(K-1):Nat):Int):=(by rw[Int.natCast_mul,Int.ofNat_sub (by omega)];rfl);have e2:(n:Int)*(K:Int)=((n*K:Nat):Int):=(by rw[Int.natCast_mul]);have e3:1048576*(k:Int)*(c:Int)=((1048576*k*c:Nat):Int):=(by rw[Int.natCast_mul,Int.natCast_mul];rfl);have q1:(1048576:Int)/(n:Int)=((1048576/n:Nat):Int):=(by simp);have q1b:1048576/n≤1048576:=Nat.div_le_self _ _;generalize hd1:1048576/n=d1 at*;generalize K*(K-1)=P at*;generalize n*K=Q at*;have q3:(1048576:Int)/(P:Int)=((1048576/P:Nat):Int):=(by simp);have q3b:1048576/P≤1048576:=Nat.div_le_self _ _;generalize hd2:1048576/P=d2 at*;have q4:(1048576*(k:Int))/(Q:Int)=((1048576*k/Q:Nat):Int):=(by simp);have q4b:1048576*k/Q≤1048576*k:=Nat.div_le_self _ _;generalize hd3:1048576*k/Q=d3 at*;generalize 1048576*k*c=V at*;have q5:(V:Int)/(n:Int)=((V/n:Nat):Int):=(by simp);have q5b:V/n≤V:=Nat.div_le_self _ _;generalize hd4:V/n=d4 at*;have hsz:B0≤wr.heap.size:=(by have:=HB.out.size;have:=HB0.out;omega);have ho:=HO.out;unfold OwnI at ho;rw[HL.out] at ho;by_cases hj1:1<K
        ·rw[if_pos hj1] at hBB
         have p1'':=p1' hj1;clear p1';rcases Nat.lt_trichotomy K m with hm | hm | hm
         ·rw[if_pos hm] at hV
          have hsum:(s0:Int)+((d2:Int)+(d3:Int))=(s1:Int):=(by omega);have hm1:(K:Int)<(m:Int):=(by omega);have hm2:((K:Int) == (m:Int))=false:=(by rw[beq_eq_false_iff_ne];omega);clear hss hV hBB hd1 hd2 hd3 hd4
          go_wp2_with (at_builtin;refine jX _ rfl _ _ 24 rfl B0 3 (.int .i64 0) 8 underlying24 dK rfl _ j _ rfl (ho.alloc _) _ (.int .i64 (s1:Nat)) rfl ?z2 rfl ?z3 ?z4 ?z5 ?_)
          (try(case z2=>first | done | go_simp))
          case z3=>omega
          case z4=>unfold maxLen;omega
          case z5=>first | omega | (simp;omega)
          intro v6 w6 hown6 hg6 _;have HO6:Hid (OwnI w6 B0 v6 ((gG n).take (j+1))):=ae (by rw[HT.out];exact OwnI.append (by rw[HL.out];exact hown6));have HB6:Hid (Below B0 w w6):=ae ((HB.out.alloc hsz _).grown hg6 (by first | omega | (simp;omega)) (fun g hg=>(ho.lt g hg).1));clear hown6 hg6;go_wp2_with fail;go_roundw
          case rel=>(try((repeat apply Exists.intro);refine⟨?_,rfl⟩));exact⟨j+1,K+1,ae (by rw[HJ.out]),by omega,by omega,by go_num,by rw[HS1.out],HO6,HB6⟩
          case measure=>simp[intOf];omega
         ·rw[if_neg (by omega),if_pos hm] at hV
          have hsum:(s0:Int)+((d2:Int)+(d4:Int))=(s1:Int):=(by omega);have hm1:¬(K:Int)<(m:Int):=(by omega);have hm2:((K:Int) == (m:Int))=true:=(by rw[beq_iff_eq];omega);have HM:=ae hm;clear hss hV hBB hd1 hd2 hd3 hd4 hm
          go_wp2_with (at_builtin;refine jX _ rfl _ _ 24 rfl B0 3 (.int .i64 0) 8 underlying24 dK rfl _ j _ rfl (ho.alloc _) _ (.int .i64 (s1:Nat)) rfl ?z2 rfl ?z3 ?z4 ?z5 ?_)
          (try(case z2=>first | done | go_simp))
          case z3=>omega
          case z4=>unfold maxLen;omega
          case z5=>first | omega | (simp;omega)
          intro v6 w6 hown6 hg6 _;have HO6:Hid (OwnI w6 B0 v6 ((gG n).take (j+1))):=ae (by rw[HT.out];exact OwnI.append (by rw[HL.out];exact hown6));have HB6:Hid (Below B0 w w6):=ae ((HB.out.alloc hsz _).grown hg6 (by first | omega | (simp;omega)) (fun g hg=>(ho.lt g hg).1));clear hown6 hg6;go_wp2_with fail;go_roundw
          case rel=>(try((repeat apply Exists.intro);refine⟨?_,rfl⟩));exact⟨j+1,K+1,ae (by rw[HJ.out]),by omega,by omega,by go_num,by rw[HS1.out],HO6,HB6⟩
          case measure=>simp[intOf];omega
         ·rw[if_neg (by omega),if_neg (by omega)] at hV
          have hsum:(s0:Int)+(d2:Int)=(s1:Int):=(by omega);have hm1:¬(K:Int)<(m:Int):=(by omega);have hm2:((K:Int) == (m:Int))=false:=(by rw[beq_eq_false_iff_ne];omega);clear hss hV hBB hd1 hd2 hd3 hd4
          go_wp2_with (at_builtin;refine jX _ rfl _ _ 24 rfl B0 3 (.int .i64 0) 8 underlying24 dK rfl _ j _ rfl (ho.alloc _) _ (.int .i64 (s1:Nat)) rfl ?z2 rfl ?z3 ?z4 ?z5 ?_)
          (try(case z2=>first | done | go_simp))
          case z3=>omega
          case z4=>unfold maxLen;omega
          case z5=>first | omega | (simp;omega)
          intro v6 w6 hown6 hg6 _;have HO6:Hid (OwnI w6 B0 v6 ((gG n).take (j+1))):=ae (by rw[HT.out];exact OwnI.append (by rw[HL.out];exact hown6));have HB6:Hid (Below B0 w w6):=ae ((HB.out.alloc hsz _).grown hg6 (by first | omega | (simp;omega)) (fun g hg=>(ho.lt g hg).1));clear hown6 hg6;go_wp2_with fail;go_roundw
          case rel=>(try((repeat apply Exists.intro);refine⟨?_,rfl⟩));exact⟨j+1,K+1,ae (by rw[HJ.out]),by omega,by omega,by go_num,by rw[HS1.out],HO6,HB6⟩
          case measure=>simp[intOf];omega
        ·rw[if_neg hj1] at hBB
         clear p1';rcases Nat.lt_trichotomy K m with hm | hm | hm
         ·rw[if_pos hm] at hV
          have hsum:(s0:Int)+((d1:Int)+(d3:Int))=(s1:Int):=(by omega);have hm1:(K:Int)<(m:Int):=(by omega);have hm2:((K:Int) == (m:Int))=false:=(by rw[beq_eq_false_iff_ne];omega);clear hss hV hBB hd1 hd2 hd3 hd4
          go_wp2_with (at_builtin;refine jX _ rfl _ _ 24 rfl B0 3 (.int .i64 0) 8 underlying24 dK rfl _ j _ rfl (ho.alloc _) _ (.int .i64 (s1:Nat)) rfl ?z2 rfl ?z3 ?z4 ?z5 ?_)
          (try(case z2=>first | done | go_simp))
          case z3=>omega
          case z4=>unfold maxLen;omega
          case z5=>first | omega | (simp;omega)
          intro v6 w6 hown6 hg6 _;have HO6:Hid (OwnI w6 B0 v6 ((gG n).take (j+1))):=ae (by rw[HT.out];exact OwnI.append (by rw[HL.out];exact hown6));have HB6:Hid (Below B0 w w6):=ae ((HB.out.alloc hsz _).grown hg6 (by first | omega | (simp;omega)) (fun g hg=>(ho.lt g hg).1));clear hown6 hg6;go_wp2_with fail;go_roundw
          case rel=>(try((repeat apply Exists.intro);refine⟨?_,rfl⟩));exact⟨j+1,K+1,ae (by rw[HJ.out]),by omega,by omega,by go_num,by rw[HS1.out],HO6,HB6⟩
          case measure=>simp[intOf];omega
         ·rw[if_neg (by omega),if_pos hm] at hV
          have hsum:(s0:Int)+((d1:Int)+(d4:Int))=(s1:Int):=(by omega);have hm1:¬(K:Int)<(m:Int):=(by omega);have hm2:((K:Int) == (m:Int))=true:=(by rw[beq_iff_eq];omega);have HM:=ae hm;clear hss hV hBB hd1 hd2 hd3 hd4 hm
          go_wp2_with (at_builtin;refine jX _ rfl _ _ 24 rfl B0 3 (.int .i64 0) 8 underlying24 dK rfl _ j _ rfl (ho.alloc _) _ (.int .i64 (s1:Nat)) rfl ?z2 rfl ?z3 ?z4 ?z5 ?_)
          (try(case z2=>first | done | go_simp))
          case z3=>omega
          case z4=>unfold maxLen;omega
          case z5=>first | omega | (simp;omega)
          intro v6 w6 hown6 hg6 _;have HO6:Hid (OwnI w6 B0 v6 ((gG n).take (j+1))):=ae (by rw[HT.out];exact OwnI.append (by rw[HL.out];exact hown6));have HB6:Hid (Below B0 w w6):=ae ((HB.out.alloc hsz _).grown hg6 (by first | omega | (simp;omega)) (fun g hg=>(ho.lt g hg).1));clear hown6 hg6;go_wp2_with fail;go_roundw
          case rel=>(try((repeat apply Exists.intro);refine⟨?_,rfl⟩));exact⟨j+1,K+1,ae (by rw[HJ.out]),by omega,by omega,by go_num,by rw[HS1.out],HO6,HB6⟩
          case measure=>simp[intOf];omega
         ·rw[if_neg (by omega),if_neg (by omega)] at hV
          have hsum:(s0:Int)+(d1:Int)=(s1:Int):=(by omega);have hm1:¬(K:Int)<(m:Int):=(by omega);have hm2:((K:Int) == (m:Int))=false:=(by rw[beq_eq_false_iff_ne];omega);clear hss hV hBB hd1 hd2 hd3 hd4
          go_wp2_with (at_builtin;refine jX _ rfl _ _ 24 rfl B0 3 (.int .i64 0) 8 underlying24 dK rfl _ j _ rfl (ho.alloc _) _ (.int .i64 (s1:Nat)) rfl ?z2 rfl ?z3 ?z4 ?z5 ?_)
          (try(case z2=>first | done | go_simp))
          case z3=>omega
          case z4=>unfold maxLen;omega
          case z5=>first | omega | (simp;omega)
          intro v6 w6 hown6 hg6 _;have HO6:Hid (OwnI w6 B0 v6 ((gG n).take (j+1))):=ae (by rw[HT.out];exact OwnI.append (by rw[HL.out];exact hown6));have HB6:Hid (Below B0 w w6):=ae ((HB.out.alloc hsz _).grown hg6 (by first | omega | (simp;omega)) (fun g hg=>(ho.lt g hg).1));clear hown6 hg6;go_wp2_with fail;go_roundw
          case rel=>(try((repeat apply Exists.intro);refine⟨?_,rfl⟩));exact⟨j+1,K+1,ae (by rw[HJ.out]),by omega,by omega,by go_num,by rw[HS1.out],HO6,HB6⟩
          case measure=>simp[intOf];omega
       ·have hjn:j=n:=by have:=HJ.out;omega
        subst hjn;have ht:(gG j).take j=gG j:=aO (by rw[eC];exact ah _);rw[ht] at HO;go_wp2_with fail;go_ret;exact⟨_,rfl,by rw[HB0.out];exact HO.out,by rw[HB0.out];exact HB.out⟩
 ·have hout:l<1∨64<l:=by omega
  rw[AX hout];clear hin;by_cases h1:l<1
  ·go_enter func285,ntmps285
   go_wp2_with fail;go_ret;exact⟨_,rfl,OwnI.nil _ _,az _ _⟩
  ·have h2:64<l:=by omega
   go_enter func285,ntmps285;go_wp2_with fail;go_ret;exact⟨_,rfl,OwnI.nil _ _,az _ _⟩
theorem AB{xs:List Nat}{x:Int}{n k:Nat}(h:k<n):AZ xs x k (n-k)=if x<(xs.getD k 0:Int) then k+1 else AZ xs x (k+1) (n-(k+1)):=by
 rw[show n-k=(n-(k+1))+1 by omega,AZ]
theorem Cy(xs:List Nat)(B:Nat)(a:Option Addr)(n c:Nat)(x:Int)(w:World)(hr:Rd w B a n (bf xs))(hxn:xs.length=n)(hn:n≤4096)(hb:∀i,xs.getD i 0<4611686018427387904)(hx: -9223372036854775808≤x∧x≤9223372036854775807):
 Calls prog 153 #[.slice a n c,.int .i64 x] w fun e w'=>e=.returned (.int .i64 (ng xs x:Nat))∧w=w':=by
 have HV:Hid (ng xs x=if xs=[]∨x<0∨(xs.getD (n-1) 0:Int)≤x then 0 else AZ xs x 0 n):=ae (by unfold ng;rw[hxn]);generalize ng xs x=out at*;by_cases h0:n=0
 ·subst h0
  have hxe:xs=[]:=List.eq_nil_of_length_eq_zero hxn;have hv:=HV.out;rw[if_pos (.inl hxe)] at hv;have HV2:=ae hv;clear hv hr hb hxn hxe HV;go_enter func153,ntmps153;go_wp2_with fail;go_ret;exact⟨by rw[HV2.out];rfl,rfl⟩
 ·obtain⟨b,o,rfl,hbB,hc⟩:=hr.2 (by omega)
  have hne:¬xs=[]:=(by rintro rfl;simp at hxn;omega);have hcI:∀i,i<n→w.cell? ⟨b,o+i,none⟩=some (.int .i64 (xs.getD i 0:Nat)):=fun i hi=>hc i _ (bM (by omega));have HC:=ae hcI;have HB:=ae hb;have h00:((n:Int) == 0)=false:=(by rw[beq_eq_false_iff_ne];omega);have ht:((n:Int)-1).toNat=n-1:=(by omega);have hn1:0≤(n:Int)-1:=(by omega);have cl:=hcI (n-1) (by omega);have hl:=hb (n-1);clear hr hc hb hcI;by_cases hx0:x<0
  ·have hv:=HV.out
   rw[if_pos (.inr (.inl hx0))] at hv;have HV2:=ae hv;clear hv HV;go_enter func153,ntmps153;go_wp2_with fail;go_ret;exact⟨by rw[HV2.out];rfl,rfl⟩
  ·by_cases hlx:(xs.getD (n-1) 0:Int)≤x
   ·have hv:=HV.out
    rw[if_pos (.inr (.inr hlx))] at hv;have HV2:=ae hv;clear hv HV;generalize xs.getD (n-1) 0=last at*;go_enter func153,ntmps153;go_wp2_with fail;go_ret;exact⟨by rw[HV2.out];rfl,rfl⟩
   ·have hv:=HV.out
    rw[if_neg (by rintro(h | h | h);exact hne h;exact hx0 h;exact hlx h)] at hv;have HV2:=ae hv;clear hv HV hne;generalize xs.getD (n-1) 0=last at*;go_enter func153,ntmps153;go_wp2_with fail;clear cl hl hlx;go_loopw [5,6,26] (fun _ _ i wr=>∃k:Nat,k≤n∧i=.int .i64 k∧Hid (AZ xs x k (n-k)=AZ xs x 0 n)∧w=wr) (fun _ _ i _=>n-(intOf i).toNat)
    case atStart=>exact⟨0,by omega,rfl,ae rfl,rfl⟩
    case round=>
     obtain⟨k,hk,rfl,HK,rfl⟩:=hrel;by_cases hlt:k<n
     ·have ck:=HC.out k hlt
      have hg:=HB.out k;have HS:=ae (AB (xs:=xs) (x:=x) hlt);generalize xs.getD k 0=y at*;by_cases hyx:x<(y:Int)
      ·go_wp2_with fail
       go_ret;exact⟨by rw[HV2.out,←HK.out,HS.out,if_pos hyx];rfl,rfl⟩
      ·go_wp2_with fail
       go_roundw
       case rel=>exact⟨k+1,by omega,by go_num,ae (by rw[←HK.out,HS.out,if_neg hyx]),by first | rfl | trivial⟩
       case measure=>simp[intOf];omega
     ·obtain rfl:k=n:=by omega
      go_wp2_with fail;go_ret;exact⟨by rw[HV2.out,←HK.out,Nat.sub_self];rfl,rfl⟩
theorem CH(xs:List Nat)(B:Nat)(a:Option Addr)(n c:Nat)(x:Int)(w:World)(hr:Rd w B a n (bf xs))(hxn:xs.length=n)(hn:n≤4096)(hb:∀i,xs.getD i 0<4611686018427387904)(hx: -9223372036854775808≤x∧x≤9223372036854775807):
 Calls prog 315 #[.slice a n c,.int .i64 x] w fun e w'=>e=.returned (.int .i64 (rH xs x:Nat))∧w=w':=by
 have HV:Hid (rH xs x=if x<0 then 0 else AZ xs x 0 n):=ae (by unfold rH;rw[hxn]);generalize rH xs x=out at*;have HR:=ae hr;have HB:=ae hb;clear hr hb hxn;go_enter func315,ntmps315;go_wp2_with fail;go_loopw [5] (fun i wr=>∃k:Nat,k≤n∧i=.int .i64 k∧Hid (AZ xs x k (n-k)=AZ xs x 0 n)∧Hid (0<k→0≤x)∧w=wr) (fun i _=>n-(intOf i).toNat)
 case atStart=>exact⟨0,by omega,rfl,ae rfl,ae (by omega),rfl⟩
 case round=>
  obtain⟨k,hk,rfl,HK,HP,rfl⟩:=hrel;by_cases hx0:x<0
  ·have hk0:k=0:=by
    have:=HP.out;omega
   have hv:=HV.out;rw[if_pos hx0] at hv;have HV2:=ae hv;have hx0':¬0≤x:=(by omega);clear hk0 hv;by_cases hlt:k<n
   ·go_wp2_with fail
    go_ret;exact⟨by rw[HV2.out];rfl,rfl⟩
   ·have hlt':¬(k:Int)<(n:Int):=by omega
    go_wp2_with fail;go_ret;exact⟨by rw[HV2.out];rfl,rfl⟩
  ·have hv:=HV.out
   rw[if_neg hx0] at hv;have HV2:=ae hv;have hx0':0≤x:=(by omega);clear hv;by_cases hlt:k<n
   ·obtain⟨b,o,rfl,hbB,hc⟩:=HR.out.2 (by omega)
    have hkx:k<xs.length:=by
     have:=HR.out.len;rw[sS] at this;omega
    have ck:=hc k _ (bM hkx);have hg:=HB.out k;have HS:=ae (AB (xs:=xs) (x:=x) hlt);clear hc hkx;generalize xs.getD k 0=y at*;by_cases hyx:x<(y:Int)
    ·go_wp2_with fail
     go_ret;exact⟨by rw[HV2.out,←HK.out,HS.out,if_pos hyx];rfl,rfl⟩
    ·go_wp2_with fail
     go_roundw
     case rel=>exact⟨k+1,by omega,by go_num,ae (by rw[←HK.out,HS.out,if_neg hyx]),ae (fun _=>hx0'),by first | rfl | trivial⟩
     case measure=>simp[intOf];omega
   ·obtain rfl:k=n:=by omega
    have hlt':¬(k:Int)<(k:Int):=(by omega);go_wp2_with fail;go_ret;exact⟨by rw[HV2.out,←HK.out,Nat.sub_self];rfl,rfl⟩
def j4(xs:List Nat)(s:Int):Nat:=if xs=[] then 0 else ng xs (iT s (xs.getD (xs.length-1) 0:Nat))
def Ai(xs:List Nat)(s:Int):Nat:=if xs=[] then 0 else rH xs (iT s (xs.getD (xs.length-1) 0:Nat))
def fS(xs:List Nat)(s:Int):Int:=if xs=[] then s else Kj s (xs.getD (xs.length-1) 0:Nat)
theorem Jm(l s:Int):j4 (eD l) s=Ai (eD l) s:=by
 unfold j4 Ai;split
 ·rfl
 ·exact Ki l _
theorem xa(l:Int):∀i,(eD l).getD i 0<4611686018427387904:=by
 intro i;unfold eD;split
 ·rcases Nat.lt_or_ge i l.toNat with h | h
  ·rw[jc h]
   have:=sum_lt (l:=l.toNat) (k:=i+1) (by omega) h;omega
  ·rw[af,List.getElem?_eq_none (by rw[eC];exact h)];decide
 ·simp
theorem Jn(xs:List Nat)(B:Nat)(a:Option Addr)(n c:Nat)(s:Int)(p:Addr)(w:World)(hr:Rd w B a n (bf xs))(hxn:xs.length=n)(hn:n≤4096)(hb:∀i,xs.getD i 0<4611686018427387904)
 (hc:w.cell? p=some (.int .u64 s))(hf:w.frozen? p=false)(hp:B≤p.block∨∃b o,a=some ⟨b,o,none⟩∧b≠p.block):
 Calls prog 81 #[.slice a n c,.pointer (some p)] w fun e w'=>e=.returned (.int .i64 (j4 xs s:Nat))∧w.setCell p (.int .u64 (fS xs s))=w':=by
 by_cases h0:n=0
 ·subst h0
  have hxe:xs=[]:=List.eq_nil_of_length_eq_zero hxn;subst hxe;have hself:=ae (eF w p _ hc);have hd:fS [] s=s:=rfl;rw[hd];clear hr hb hd;go_enter func81,ntmps81;go_wp2_with fail;go_ret;exact⟨rfl,hself.out⟩
 ·obtain⟨b,o,rfl,hbB,hcx⟩:=hr.2 (by omega)
  have hne:¬xs=[]:=by rintro rfl;simp at hxn;omega
  have hbp:b≠p.block:=by
   rcases hp with h | ⟨b',o',e,h⟩
   ·omega
   ·simp at e;rw[e.1];exact h
  clear hp;have hv1:j4 xs s=ng xs (iT s (xs.getD (n-1) 0:Nat)):=(by unfold j4;rw[if_neg hne,hxn]);have hs1:fS xs s=Kj s (xs.getD (n-1) 0:Nat):=(by unfold fS;rw[if_neg hne,hxn]);rw[hv1,hs1];have cl:=hcx (n-1) _ (bM (by omega));have hl:=hb (n-1);have hr2:∀v,Rd (w.setCell p v) (b+1) (some ⟨b,o,none⟩) n (bf xs):=fun v=>⟨hr.1,fun _=>⟨b,o,rfl,by omega,fun i u hu=>(World.cell?_of_block (w:=w) (aZ w p v b hbp)).trans (hcx i u hu)⟩⟩;have hbv:=lZ s (xs.getD (n-1) 0:Nat);have cD:=fun v=>Cy xs (b+1) (some ⟨b,o,none⟩) n c (iT s (xs.getD (n-1) 0:Nat)) (w.setCell p v) (hr2 v) hxn hn hb (by omega);have h00:((n:Int) == 0)=false:=(by rw[beq_eq_false_iff_ne];omega);have ht:((n:Int)-1).toNat=n-1:=(by omega);have hn1:0≤(n:Int)-1:=(by omega);have cB:=fun w hc hf=>sP s (xs.getD (n-1) 0:Nat) p w hc hf (by omega);generalize ng xs (iT s (xs.getD (n-1) 0:Nat))=out at*;generalize xs.getD (n-1) 0=last at*;have CD:=ae cD;have CB:=ae cB;clear hr hcx hb hr2 hne hv1 hs1 cD cB hxn;go_enter func81,ntmps81;go_wp2_with fail;refine(CB.out _ hc hf).mono ?_;rintro e w1 ⟨rfl,rfl⟩;go_wp2_with fail;refine(CD.out _).mono ?_;rintro e w1 ⟨rfl,rfl⟩;go_wp2_with fail;go_ret;exact⟨rfl,rfl⟩
theorem uH(xs:List Nat)(B:Nat)(a:Option Addr)(n c:Nat)(s:Int)(p:Addr)(w:World)(hr:Rd w B a n (bf xs))(hxn:xs.length=n)(hn:n≤4096)(hb:∀i,xs.getD i 0<4611686018427387904)
 (hc:w.cell? p=some (.int .u64 s))(hf:w.frozen? p=false)(hp:B≤p.block∨∃b o,a=some ⟨b,o,none⟩∧b≠p.block):
 Calls prog 284 #[.slice a n c,.pointer (some p)] w fun e w'=>e=.returned (.int .i64 (Ai xs s:Nat))∧w.setCell p (.int .u64 (fS xs s))=w':=by
 by_cases h0:n=0
 ·subst h0
  have hxe:xs=[]:=List.eq_nil_of_length_eq_zero hxn;subst hxe;have hself:=ae (eF w p _ hc);have hd:fS [] s=s:=rfl;rw[hd];clear hr hb hd;go_enter func284,ntmps284;go_wp2_with fail;go_ret;exact⟨rfl,hself.out⟩
 ·obtain⟨b,o,rfl,hbB,hcx⟩:=hr.2 (by omega)
  have hne:¬xs=[]:=by rintro rfl;simp at hxn;omega
  have hbp:b≠p.block:=by
   rcases hp with h | ⟨b',o',e,h⟩
   ·omega
   ·simp at e;rw[e.1];exact h
  clear hp;have hv1:Ai xs s=rH xs (iT s (xs.getD (n-1) 0:Nat)):=(by unfold Ai;rw[if_neg hne,hxn]);have hs1:fS xs s=Kj s (xs.getD (n-1) 0:Nat):=(by unfold fS;rw[if_neg hne,hxn]);rw[hv1,hs1];have cl:=hcx (n-1) _ (bM (by omega));have hl:=hb (n-1);have hr2:∀v,Rd (w.setCell p v) (b+1) (some ⟨b,o,none⟩) n (bf xs):=fun v=>⟨hr.1,fun _=>⟨b,o,rfl,by omega,fun i u hu=>(World.cell?_of_block (w:=w) (aZ w p v b hbp)).trans (hcx i u hu)⟩⟩;have hbv:=lZ s (xs.getD (n-1) 0:Nat);have cD:=fun v=>CH xs (b+1) (some ⟨b,o,none⟩) n c (iT s (xs.getD (n-1) 0:Nat)) (w.setCell p v) (hr2 v) hxn hn hb (by omega);have h00:((n:Int) == 0)=false:=(by rw[beq_eq_false_iff_ne];omega);have ht:((n:Int)-1).toNat=n-1:=(by omega);have hn1:0≤(n:Int)-1:=(by omega);have cB:=fun w hc hf=>qU s (xs.getD (n-1) 0:Nat) p w hc hf (by omega);generalize rH xs (iT s (xs.getD (n-1) 0:Nat))=out at*;generalize xs.getD (n-1) 0=last at*;have CD:=ae cD;have CB:=ae cB;clear hr hcx hb hr2 hne hv1 hs1 cD cB hxn;go_enter func284,ntmps284;go_wp2_with fail;refine(CB.out _ hc hf).mono ?_;rintro e w1 ⟨rfl,rfl⟩;go_wp2_with fail;refine(CD.out _).mono ?_;rintro e w1 ⟨rfl,rfl⟩;go_wp2_with fail;go_ret;exact⟨rfl,rfl⟩
end Go.Proofs.YtofgapdnadbgkaaGreatDoor
