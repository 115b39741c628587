import Derived.Test.YtgccllbnfngpcaaGreatDoorW13
set_option linter.unusedVariables false
set_option maxRecDepth 100000
set_option maxHeartbeats 400000000
namespace Go.Proofs.YtgccllbnfngpcaaGreatDoor
open Go.RowKit _root_.Go.Proofs.Tryz List
open Value (int slice pointer bool)
open IntKind (i64)
open Ending (returned)
open Obj (cells)
def iY(ys:List (Nat×Nat)):List Value:=ys.flatMap fun s=>[int i64 s.1,int i64 s.2]
theorem jf(s:Nat×Nat)(ys:List (Nat×Nat)):iY (s :: ys)=int i64 (s.1:Nat) :: int i64 (s.2:Nat) :: iY ys:=rfl
theorem jg(ys:List (Nat×Nat)):(iY ys).length=ys.length*2:=by
 induction ys with
 | nil=>rfl
 | cons s ys ih=>rw[jf,length_cons,length_cons,ih,length_cons];omega
theorem nR{ys:List (Nat×Nat)}:∀ {i:Nat},i<ys.length->(iY ys)[i*2]? =some (int i64 ((ys.getD i (0,0)).1:Nat))/\(iY ys)[i*2+1]? =some (int i64 ((ys.getD i (0,0)).2:Nat)):=by
 induction ys with
 | nil=>intro i h;simp at h
 | cons s ys ih=>
   intro i h;cases i with
   | zero=>exact⟨rfl,rfl⟩
   | succ i=>
     have:=ih (i:=i) (by simpa using h);rw[jf,show(i+1)*2=i*2+1+1 by omega];exact this
theorem IA{ys:List (Nat×Nat)}(x:Nat×Nat):∀ {i:Nat},((iY ys).set (i*2) (int i64 (x.1:Nat))).set (i*2+1) (int i64 (x.2:Nat))=iY (ys.set i x):=by
 induction ys with
 | nil=>intro i;rfl
 | cons s ys ih=>
   intro i;cases i with
   | zero=>rfl
   | succ i=>
     rw[show(i+1)*2=i*2+1+1 by omega,set_cons_succ,jf,jf,set_cons_succ,set_cons_succ,set_cons_succ,set_cons_succ,ih]
theorem Ee{ys:List (Nat×Nat)}:∀ {i:Nat},iY (ys.take i)=(iY ys).take (i*2):=by
 induction ys with
 | nil=>intro i;simp[iY]
 | cons s ys ih=>
   intro i;cases i with
   | zero=>rfl
   | succ i=>rw[show(i+1)*2=i*2+1+1 by omega,take_succ_cons,jf,jf,take_succ_cons,take_succ_cons,ih]
theorem lI{l:List (Nat×Nat)}{i:Nat}(h:i<l.length):l.getD i (0,0)=l[i]:=by rw[af,ag h];rfl
def OwnT(w:World)(C:Nat)(v:Value)(ys:List (Nat×Nat)):Prop:=w.ownsRow C 359 2 v ys.length (iY ys)
theorem NP{w:World}{B n:Nat}{a:Option Addr}{ys:List (Nat×Nat)}(h:Rd w B a (n*2) (iY ys)){k:Nat}(hk:k<n):∃b o,a=some ⟨b,o,none⟩/\b<B/\w.cell? ⟨b,o+k*2,none⟩=some (int i64 ((ys.getD k (0,0)).1:Nat))/\w.cell? ⟨b,o+k*2+1,none⟩=some (int i64 ((ys.getD k (0,0)).2:Nat)):=by
 have hl:ys.length=n:=by have:=h.len;rw[jg] at this;omega
 obtain⟨b,o,e,hb,hc⟩:=h.2 (by omega);obtain⟨h1,h2⟩:=nR (ys:=ys) (i:=k) (by omega);exact⟨b,o,e,hb,hc _ _ h1,hc _ _ h2⟩
theorem OwnT.rdT{w:World}{C n c:Nat}{a:Option Addr}{ys:List (Nat×Nat)}(h:OwnT w C (slice a n c) ys)(hl:ys.length=n):Rd w w.heap.size a (n*2) (iY ys):=by
 obtain⟨h1,⟨e1,h0⟩ | ⟨g',cap',cur,e1,hg,hh,h3,h4,h5,h6⟩⟩:=h
 ·exact⟨by rw[jg,hl],fun hp=>by omega⟩
 ·injection e1 with e1 _ _
  subst e1;refine⟨by rw[jg,hl],fun _=>⟨g',0,rfl,(Array.getElem?_eq_some_iff.1 hh).1,fun i u hu=> ?_⟩⟩;rw[Nat.zero_add,cell_of_row w g' i cur _ (0,0) hh];rw[<-h6,List.getElem?_take] at hu;split at hu
  ·simpa using hu
  ·cases hu
theorem OwnT.formT{w:World}{C n c:Nat}{a:Option Addr}{l:List (Nat×Nat)}(h:OwnT w C (slice a n c) l)(hl:l.length=n)(h0:0<n):∃g,a=some ⟨g,0,none⟩/\C<=g/\g<w.heap.size:=by
 unfold OwnT at h;rw[hl] at h;obtain⟨g,cap,e,h1,h2⟩:=World.ownsRow.form h (by omega);injection e with e e2 e3;exact⟨g,e,h1,h2⟩
theorem OwnT.cellT{w:World}{C g n c:Nat}{l:List (Nat×Nat)}(h:OwnT w C (slice (some ⟨g,0,none⟩) n c) l)(hl:l.length=n){k:Nat}(hk:k<n):w.cell? ⟨g,k*2,none⟩=some (int i64 ((l.getD k (0,0)).1:Nat))/\w.cell? ⟨g,k*2+1,none⟩=some (int i64 ((l.getD k (0,0)).2:Nat))/\w.frozen? ⟨g,k*2,none⟩=false/\w.frozen? ⟨g,k*2+1,none⟩=false:=by
 unfold OwnT at h;rw[hl] at h;obtain⟨h1,h2⟩:=nR (ys:=l) (i:=k) (by omega);exact⟨(h.cellAt _ (by omega)).trans h1,(h.cellAt _ (by omega)).trans h2,h.frozenAt _,h.frozenAt _⟩
theorem OwnT.storedT{w:World}{C g n c:Nat}{l:List (Nat×Nat)}(h:OwnT w C (slice (some ⟨g,0,none⟩) n c) l)(hl:l.length=n)(k:Nat)(x:Nat×Nat):
 OwnT ((w.setCell ⟨g,k*2,none⟩ (int i64 (x.1:Nat))).setCell ⟨g,k*2+1,none⟩ (int i64 (x.2:Nat))) C (slice (some ⟨g,0,none⟩) n c) (l.set k x):=by
 unfold OwnT at h ⊢;rw[hl] at h;rw[length_set,hl,<-IA];exact((h.stored _ _).1.stored _ _).1
theorem Lj(n:Nat):(Builtin.zeroCells #[Value.int .i64 0,int i64 0] n).toList=replicate (n*2) (Value.int .i64 0):=by
 apply ext_getElem
 ·simp[Builtin.zeroCells]
 ·intro i h1 h2
  simp[Builtin.zeroCells];rcases Nat.mod_two_eq_zero_or_one i with h | h <;> simp[h]
theorem Bz(w:World)(ty:TypeId)(b o n c:Nat)(hn:0<n)(hc:∀j,j<n*2->(w.cell? ⟨b,o+j,none⟩).isSome=true)(hf:∀j,j<n*2->w.frozen? ⟨b,o+j,none⟩=false):
 (Builtin.clear_ #[288] ty #[slice (some ⟨b,o,none⟩) n c]).run prog w=.ok (.tuple #[]) (w.setCells b o (replicate (n*2) (int i64 0))):=by
 have hst:=run_storeCells_cells (P:=prog) b o (replicate (n*2) (int i64 0)) 0 w (by simpa using hc) (by simpa using hf) (by intro v hv';rw[eq_of_mem_replicate hv'];rfl);simp only[Nat.add_zero] at hst;obtain⟨m,rfl⟩:∃m,n=m+1:=⟨n-1,by omega⟩;have hz:∀w,(zeroValue 359).run prog w=.ok (.agg #[int i64 0,int i64 0]) w:=Tryz.zeroValue359;have hzc:=Lj (m+1);simp[Builtin.clear_,run_underlying underlying288,hz,Value.cells,hzc,hst]
def Oj(w:World)(B:Nat)(p:Nat×Nat->Bool)(xs:List (Nat×Nat)):Prop:=∀x∈xs,Calls prog 297 #[.agg #[int i64 (x.1:Nat),int i64 (x.2:Nat)],pointer (some ⟨B,0,none⟩)] w fun e w'=>e=returned (bool (p x))/\Below w.heap.size w w'
theorem zx(B n c:Nat)(a:Option Addr)(xs:List (Nat×Nat))(p:Nat×Nat->Bool)(w:World)(hx:Rd w w.heap.size a (n*2) (iY xs))(hf:∀w',Below w.heap.size w w'->Oj w' B p xs)(hn:n<=1000000):
 Calls prog 357 #[slice a n c,.func (.func 297) #[] #[pointer (some ⟨B,0,none⟩)]] w fun e w'=>(∃z:Int,e=returned (int i64 z)/\((z= -1/\∀i,i<n->p (xs.getD i (0,0))=false)\/∃i:Nat,z=(i:Int)/\i<n/\p (xs.getD i (0,0))=true/\∀k,k<i->p (xs.getD k (0,0))=false))/\Below w.heap.size w w':=by
 have hl:xs.length=n:=by have:=hx.len;rw[jg] at this;omega
 have HX:=ae hx;have HF:=ae hf;have HL:=ae hl;clear hx hf hl;go_enter func357,ntmps357;go_wp2_with fail;go_loopw [8] (fun i wr=>∃k:Nat,k<=n/\i=int i64 k/\Hid (∀i,i<k->p (xs.getD i (0,0))=false)/\Hid (Below w.heap.size w wr)) (fun i _=>n-(intOf i).toNat)
 case atStart=>exact⟨0,by omega,rfl,ae fun i h=>absurd h (by omega),ae (az _ _)⟩
 case round=>
  obtain⟨k,hk,rfl,H0,HJ⟩:=hrel;by_cases hlt:k<n
  ·obtain⟨bx,ox,rfl,hbx,hcx,hcx2⟩:=NP HX.out hlt
   have cx:wr.cell? ⟨bx,ox+k*2,none⟩=some (int i64 ((xs.getD k (0,0)).1:Nat)):=(HJ.out.cell (p:=⟨bx,ox+k*2,none⟩) hbx).trans hcx;have cx2:wr.cell? ⟨bx,ox+k*2+1,none⟩=some (int i64 ((xs.getD k (0,0)).2:Nat)):=(HJ.out.cell (p:=⟨bx,ox+k*2+1,none⟩) hbx).trans hcx2;have hm:xs.getD k (0,0)∈xs:=(by rw[lI (by rw[HL.out];exact hlt)];exact aP _);have CL:=ae (HF.out _ HJ.out _ hm);clear hcx hcx2 hm;generalize hg:xs.getD k (0,0)=x at*;have HGX:=ae hg;have hlt':(k:Int)<(n:Int):=(by omega);clear hg;cases hpx:p x with
   | false=>
     rw[hpx] at CL;have HP:=ae hpx;clear hpx;go_wp2_with fail;refine CL.out.mono ?_;rintro e w2 ⟨rfl,hw2⟩;have HJ2:Hid (Below w.heap.size w w2):=ae (HJ.out.trans (hw2.mono HJ.out.size))
     have HN0:Hid (∀i,i<k+1->p (xs.getD i (0,0))=false):=ae fun i h=>by
      rcases Nat.lt_succ_iff_lt_or_eq.1 h with h1 | rfl
      ·exact H0.out i h1
      ·rw[HGX.out];exact HP.out
     clear hw2;go_wp2_with fail;go_roundw
     case rel=>exact⟨k+1,by omega,by go_num,HN0,HJ2⟩
     case measure=>simp[intOf];omega
   | true=>
     rw[hpx] at CL;have HP:=ae hpx;clear hpx;go_wp2_with fail;refine CL.out.mono ?_;rintro e w2 ⟨rfl,hw2⟩;have HJ2:Hid (Below w.heap.size w w2):=ae (HJ.out.trans (hw2.mono HJ.out.size));clear hw2;go_wp2_with fail;go_ret;exact⟨⟨_,rfl,.inr ⟨k,rfl,hlt,by rw[HGX.out];exact HP.out,H0.out⟩⟩,HJ2.out⟩
  ·obtain rfl:k=n:=by omega
   go_wp2_with fail;go_ret;exact⟨⟨-1,rfl,.inl ⟨rfl,H0.out⟩⟩,HJ.out⟩
theorem wY(B C n c:Nat)(a:Option Addr)(xs:List (Nat×Nat))(p:Nat×Nat->Bool)(w:World)(hx:OwnT w C (slice a n c) xs)(hl:xs.length=n)(hC:C<=w.heap.size)
 (hf:∀w',w.heap.size<=w'.heap.size->(∀b,b<w.heap.size->some b≠(Value.slice a n c).ownBlock->w'.heap[b]? =w.heap[b]?)->Oj w' B p xs)(hn:n<=1000000):
 Calls prog 296 #[slice a n c,.func (.func 297) #[] #[pointer (some ⟨B,0,none⟩)]] w fun e w'=>∃m,e=returned (slice a m c)/\OwnT w' C (slice a m c) (xs.filter fun x=> !p x)/\Below 0 w w'/\∀b,b<w.heap.size->some b≠(Value.slice a n c).ownBlock->w'.heap[b]? =w.heap[b]? :=by
 have hRd:Rd w w.heap.size a (n*2) (iY xs):=by
  exact hx.rdT hl
 have CI:=ae (zx B n c a xs p w hRd (fun w' hb=>hf _ hb.size fun b h _=>hb.block b h) hn);have HF:=ae hf;have HL:=ae hl;have HO:=ae hx;clear hRd hf hl hx;go_enter func296,ntmps296;go_wp2_with fail;refine CI.out.mono ?_;rintro e w1 ⟨⟨z,rfl,hz⟩,hw1⟩;have HW1:=ae hw1;clear hw1 CI;rcases hz with⟨rfl,hno⟩ | ⟨i,rfl,hin,hpi,hno⟩
 ·have HNO:=ae hno
  clear hno;go_wp2_with fail;go_ret
  have hfl:xs.filter (fun x=> !p x)=xs:=filter_eq_self.2 fun x hx=>by
   obtain⟨i,hi,rfl⟩:=bC hx;have:=HNO.out i (by rw[<-HL.out];exact hi);rw[lI hi] at this;rw[this];rfl
  refine⟨n,rfl,by rw[hfl];exact lq HO.out HW1.out,HW1.out.mono (bu _),fun b h _=>HW1.out.block b h⟩
 ·obtain⟨g,rfl,hgC,hgs⟩:=OwnT.formT HO.out HL.out (by omega)
  have hcap:n<=c/\c<=maxLen:=by
   rcases HO.out.2 with⟨e1,_⟩ | ⟨g',cap',cur,e1,hg,hh,h3,h4,h5,h6⟩
   ·cases e1
   ·injection e1 with _ _ e3
    subst e3;rw[<-HL.out];exact⟨h3,h4⟩
  have HQ0:Hid (∃ys:List (Nat×Nat),ys.length=n/\OwnT w1 C (slice (some ⟨g,0,none⟩) n c) ys/\ys.take i=(xs.take (i+1)).filter (fun x=> !p x)/\ys.drop (i+1)=xs.drop (i+1)/\Below 0 w w1/\∀b,b<w.heap.size->b≠g->w1.heap[b]? =w.heap[b]?):=ae ⟨xs,HL.out,lq HO.out HW1.out,by
   rw[kL (by rw[HL.out];exact hin),filter_eq_self.2 fun x hx=> ?_]
   ·rw[lI (by rw[HL.out];exact hin)] at hpi
    rw[hpi];simp
   ·obtain⟨k,hk,rfl⟩:=bC hx
    rw[aG] at hk;have:=hno k (by omega);rw[lI (by omega)] at this;rw[getElem_take,this];rfl,rfl,HW1.out.mono (bu _),fun b h _=>HW1.out.block b h⟩
  clear hpi hno HW1 HO;go_wp2_with fail;go_loopw [5,6] (fun u v wr=>∃i j:Nat,i<j/\j<=n/\u=int i64 i/\v=int i64 j/\Hid (∃ys:List (Nat×Nat),ys.length=n/\OwnT wr C (slice (some ⟨g,0,none⟩) n c) ys/\ys.take i=(xs.take j).filter (fun x=> !p x)/\ys.drop j=xs.drop j/\Below 0 w wr/\∀b,b<w.heap.size->b≠g->wr.heap[b]? =w.heap[b]?)) (fun _ v _=>n-(intOf v).toNat)
  case atStart=>exact⟨i,i+1,by omega,by omega,rfl,by go_num,HQ0⟩
  case round=>
   clear HQ0 hin;obtain⟨i,j,hij,hjn,rfl,rfl,HQ⟩:=hrel;obtain⟨ys,hyl,hO,ht,hd,hs,hk⟩:=HQ.out;have hs':=hs.size;by_cases hlt:j<n
   ·have hltI:(j:Int)<(n:Int):=by omega
    have hiI:(i:Int)<(n:Int):=(by omega);obtain⟨cj,cj2,fj,fj2⟩:=hO.cellT hyl hlt;obtain⟨ci,cib,fi,fib⟩:=hO.cellT hyl (show i<n by omega)
    have hjx:ys.getD j (0,0)=xs.getD j (0,0):=by
     have h1:(ys.drop j)[0]? =(xs.drop j)[0]? :=(by rw[hd]);rw[List.getElem?_drop,List.getElem?_drop,Nat.add_zero] at h1;rw[af,af,h1]
    rw[hjx] at cj cj2;have hjl:j<xs.length:=(by rw[HL.out];exact hlt);have hm:xs.getD j (0,0)∈xs:=(by rw[lI hjl];exact aP _);have hba:=(az wr.heap.size wr).alloc (ah _) (cells #[int i64 ((xs.getD j (0,0)).1:Nat),int i64 ((xs.getD j (0,0)).2:Nat)] 359);have hK:=Blk.new wr 359 #[int i64 ((xs.getD j (0,0)).1:Nat),int i64 ((xs.getD j (0,0)).2:Nat)];have HBA:=ae hba;have HKA:=ae hK;have CF:=ae (HF.out (wr.alloc (cells #[int i64 ((xs.getD j (0,0)).1:Nat),int i64 ((xs.getD j (0,0)).2:Nat)] 359)) (aO hs.size hba.size) (fun b hb hb2=>(hba.block b (aU hb hs.size)).trans (hk b hb (fun e=>hb2 (by rw[e];rfl)))) _ hm);have HT:=ae (kL (p:=fun x=> !p x) hjl);rw[<-lI hjl] at HT;have hd2:ys.drop (j+1)=xs.drop (j+1):=(by rw[<-drop_drop,hd,drop_drop]);have HYT:=ae ht;have hgr:g<wr.heap.size:=(by omega);have HD:=ae hd2;have HO:=ae hO;have HY:=ae hyl;have HS:=ae hs;have HK:=ae hk;clear hba hK hjx hm hjl hd2 ht hd hO hyl hs hs' hk HQ;generalize xs.getD j (0,0)=x at*;generalize ys.getD i (0,0)=yo at*;cases hpx:p x with
    | true=>
      rw[hpx] at CF;have HP:=ae hpx;clear hpx ci fi cib fib;go_wp2_with fail;refine CF.out.mono ?_;rintro e w2 ⟨rfl,hw2⟩;have HB2:=ae (HBA.out.trans (hw2.mono HBA.out.size));have hsz2:Below 0 w w2:=HS.out.trans (HB2.out.mono (bu _));have HK2:Hid (∀b,b<w.heap.size->b≠g->w2.heap[b]? =w.heap[b]?):=ae fun b hb hne=>(HB2.out.block b (aU hb HS.out.size)).trans (HK.out b hb hne);have HO2:=ae (lq HO.out HB2.out);have HQn:Hid (∃ys:List (Nat×Nat),ys.length=n/\OwnT w2 C (slice (some ⟨g,0,none⟩) n c) ys/\ys.take i=(xs.take (j+1)).filter (fun x=> !p x)/\ys.drop (j+1)=xs.drop (j+1)/\Below 0 w w2/\∀b,b<w.heap.size->b≠g->w2.heap[b]? =w.heap[b]?):=ae ⟨ys,HY.out,HO2.out,by rw[HT.out,HP.out,HYT.out];simp,HD.out,hsz2,HK2.out⟩;clear hw2 HO HS HK CF HB2 hsz2 HK2 HO2;go_wp2_with fail;go_roundw
      case rel=>(repeat apply Exists.intro);exact⟨⟨i,j+1,by omega,by omega,rfl,by go_num,HQn⟩,rfl⟩
      case measure=>simp[intOf];omega
    | false=>
      rw[hpx] at CF;have HP:=ae hpx;clear hpx;go_wp2_with fail;refine CF.out.mono ?_;rintro e w2 ⟨rfl,hw2⟩;have HB2:=ae (HBA.out.trans (hw2.mono HBA.out.size));have hsz2:Below 0 w w2:=HS.out.trans (HB2.out.mono (bu _));have HK2:Hid (∀b,b<w.heap.size->b≠g->w2.heap[b]? =w.heap[b]?):=ae fun b hb hne=>(HB2.out.block b (aU hb HS.out.size)).trans (HK.out b hb hne);have HO2:=ae (lq HO.out HB2.out);have ci2:w2.cell? ⟨g,i*2,none⟩=some (int i64 (yo.1:Nat)):=(HB2.out.cell (p:=⟨g,i*2,none⟩) hgr).trans ci;have fi2:w2.frozen? ⟨g,i*2,none⟩=false:=(OwnT.cellT HO2.out HY.out (show i<n by omega)).2.2.1;have ci3:w2.cell? ⟨g,i*2+1,none⟩=some (int i64 (yo.2:Nat)):=(HB2.out.cell (p:=⟨g,i*2+1,none⟩) hgr).trans cib;have fi3:w2.frozen? ⟨g,i*2+1,none⟩=false:=(OwnT.cellT HO2.out HY.out (show i<n by omega)).2.2.2;have v0:=(hw2.cell (p:=⟨wr.heap.size,0,none⟩) HKA.out.lt).trans (HKA.out.cell 0);have v1:=(hw2.cell (p:=⟨wr.heap.size,1,none⟩) HKA.out.lt).trans (HKA.out.cell 1);have HQn:Hid (∃ys:List (Nat×Nat),ys.length=n/\OwnT ((w2.setCell ⟨g,i*2,none⟩ (int i64 (x.1:Nat))).setCell ⟨g,i*2+1,none⟩ (int i64 (x.2:Nat))) C (slice (some ⟨g,0,none⟩) n c) ys/\ys.take (i+1)=(xs.take (j+1)).filter (fun x=> !p x)/\ys.drop (j+1)=xs.drop (j+1)/\Below 0 w ((w2.setCell ⟨g,i*2,none⟩ (int i64 (x.1:Nat))).setCell ⟨g,i*2+1,none⟩ (int i64 (x.2:Nat)))/\∀b,b<w.heap.size->b≠g->((w2.setCell ⟨g,i*2,none⟩ (int i64 (x.1:Nat))).setCell ⟨g,i*2+1,none⟩ (int i64 (x.2:Nat))).heap[b]? =w.heap[b]?):=ae ⟨ys.set i x,by rw[length_set];exact HY.out,OwnT.storedT HO2.out HY.out i x,by rw[oC (by rw[HY.out];omega),HT.out,HP.out,HYT.out];simp,by rw[rZ (by omega)];exact HD.out,(hsz2.setCell (bu _) _).setCell (bu _) _,fun b hb hne=>((bE _ _ _ _ hne).trans (bE _ _ _ _ hne)).trans (HK2.out b hb hne)⟩;clear hw2 HO HS HK CF ci fi cib fib HB2 hsz2 HK2 HO2;go_wp2_with fail;go_roundw
      case rel=>(repeat apply Exists.intro);exact⟨⟨i+1,j+1,by omega,by omega,by go_num,by go_num,HQn⟩,rfl⟩
      case measure=>simp[intOf];omega
   ·obtain rfl:j=n:=by omega
    have hic:(i:Int)<=(c:Int):=(by omega);have hicn:¬c=i:=by omega
    have hcl:∀ty,(Builtin.clear_ #[288] ty #[slice (some ⟨g,i*2,none⟩) (j-i) (c-i)]).run prog wr=.ok (.tuple #[]) (wr.setCells g (i*2) (replicate ((j-i)*2) (int i64 0))):=fun ty=>Bz wr ty g (i*2) (j-i) _ (by omega) (fun q hq=>by
     have hc:=OwnT.cellT hO hyl (k:=(i*2+q)/2) (by omega);rcases Nat.mod_two_eq_zero_or_one q with h | h
     ·rw[show i*2+q=(i*2+q)/2*2 by omega,hc.1];rfl
     ·rw[show i*2+q=(i*2+q)/2*2+1 by omega,hc.2.1];rfl) (fun q hq=>by
     have hc:=OwnT.cellT hO hyl (k:=(i*2+q)/2) (by omega);rcases Nat.mod_two_eq_zero_or_one q with h | h
     ·rw[show i*2+q=(i*2+q)/2*2 by omega];exact hc.2.2.1
     ·rw[show i*2+q=(i*2+q)/2*2+1 by omega];exact hc.2.2.2)
    have hxj:xs.take j=xs:=aJ (by rw[HL.out];exact ah _);rw[hxj] at ht;clear hxj;have hlen:(xs.filter fun x=> !p x).length=i:=by rw[<-ht,aG,hyl];omega
    have HFin:Hid (∃m,Value.slice (some ⟨g,0,none⟩) i c=slice (some ⟨g,0,none⟩) m c/\OwnT (wr.setCells g (i*2) (replicate ((j-i)*2) (int i64 0))) C (slice (some ⟨g,0,none⟩) m c) (xs.filter fun x=> !p x)/\Below 0 w (wr.setCells g (i*2) (replicate ((j-i)*2) (int i64 0)))/\∀b,b<w.heap.size->some b≠(Value.slice (some ⟨g,0,none⟩) j c).ownBlock->(wr.setCells g (i*2) (replicate ((j-i)*2) (int i64 0))).heap[b]? =w.heap[b]?):=ae (by
     refine⟨i,rfl,?_,yS hs _ _ _,fun b hb0 hb=>(qB (fun e=>hb (by rw[e];rfl)) _ _ _).trans (hk b hb0 (fun e=>hb (by rw[e];rfl)))⟩;unfold OwnT at hO ⊢;rw[hyl] at hO;rw[hlen];have hO':=hO;obtain⟨h1,⟨e1,_⟩ | ⟨g',cap',cur,e1,hg,hh,h3,h4,h5,h6⟩⟩:=hO'
     ·cases e1
     ·injection e1 with e1 e2 e3
      injection e1 with e1;injection e1 with e1 _ _;subst e1;obtain⟨cur',d1,d2,d3⟩:=oD (replicate ((j-i)*2) (int i64 0)) (i*2) wr cur hh;refine EH hO (by omega) ⟨cur,cur',hh,d1,d2,fun q hq=>d3 q (by omega)⟩ ?_;rw[<-ht,Ee])
    have HCL:=hcl;clear hcl ht hlen hyl hO hd hs hs' hk HQ HF HL;go_wp2_with fail;go_ret;exact HFin.out.elim fun m h=>⟨m,by rw[h.1];rfl,h.2⟩
theorem Hm(B g gf K H Z N cR x:Nat)(aR:Option Addr)(vals vS vD vL way more:Value)(w:World)(hB:w.cell? ⟨B,0,none⟩=some (pointer (some ⟨g,0,none⟩)))(hg:Blk w g 292 (svC gf K H Z vals (slice aR N cR) vS vD vL way more)):
 Calls prog 298 #[int i64 x,pointer (some ⟨B,0,none⟩)] w fun e w'=>e=returned (bool (decide (N<=x)))/\∃j,w'=w.drewN j:=by
 have p5:=hg.cell 5;unfold svC at p5;clear hg;go_enter func298,ntmps298;go_wp2_with fail;go_ret;exact⟨rfl,0,rfl⟩
theorem Hn(B g gf K H Z N cR r c:Nat)(aR:Option Addr)(vals vS vD vL way more:Value)(w:World)(hB:w.cell? ⟨B,0,none⟩=some (pointer (some ⟨g,0,none⟩)))(hBl:B<w.heap.size)(hg:Blk w g 292 (svC gf K H Z vals (slice aR N cR) vS vD vL way more)):
 Calls prog 297 #[.agg #[int i64 r,int i64 c],pointer (some ⟨B,0,none⟩)] w fun e w'=>e=returned (bool (decide (N<=r)))/\Below w.heap.size w w':=by
 have hba:=(az w.heap.size w).alloc (ah _) (cells #[int i64 r,int i64 c] 359);have p5:=(hg.below hba hg.lt).cell 5;have hK:=(Blk.new w 359 #[int i64 r,int i64 c]).cell 0;have hB':=(hba.cell (p:=⟨B,0,none⟩) hBl).trans hB;unfold svC at p5;have HBA:=ae hba;clear hg hba hB;go_enter func297,ntmps297;go_wp2_with fail
 go_quiet (fail)
 go_wp2_with fail;go_ret;exact⟨rfl,below_drewN HBA.out _⟩
theorem xZ:(prog.info? 22).map (fun i=>(i.zero,i.size,i.bytes))=some (some (slice none 0 0),1,24):=by kernel_rfl
theorem Pi{w:World}{g c:Nat}{F:Nat->Prop}(h:Blk w g 3 #[int i64 (c:Nat)])(hF:F g):(rI [c]).ok w F [slice (some ⟨g,0,none⟩) 1 1]:=
 ⟨_,_,_,rfl,ah _,(by unfold maxLen;omega),fun e=>(by cases e),rfl,fun _=>⟨g,0,rfl,hF,fun i u hu=>by
   rw[Nat.zero_add,h.cell i];simpa[bG] using hu⟩⟩
theorem zn(k:Nat)(p:Nat->Bool):cJ (k+1) p=cJ k p++if p k=true then [[k]] else []:=by
 unfold cJ;rw[range_succ,filter_append,aQ,filter_cons];split <;> rfl
theorem mL(k:Nat)(p:Nat->Bool):(cJ k p).length<=k:=by
 unfold cJ;rw[aC];exact aO (length_filter_le _ _) (by rw[aY];exact ah _)
theorem zo{w:World}{C D e k n:Nat}{v:Value}{xs:List Value}(h:w.ownsRow C e k v n xs)(hD:D<=C):w.ownsRow D e k v n xs:=by
 refine⟨h.1,?_⟩;rcases h.2 with h2 | ⟨g,cap,cur,rfl,hg,r⟩
 ·exact .inl h2
 ·exact .inr ⟨g,cap,cur,rfl,aO hD hg,r⟩
theorem nO{a:Option Addr}{n m c b:Nat}(h:(Value.slice a n c).ownBlock=some b):(Value.slice a m c).ownBlock=some b:=by
 cases a with
 | none=>simp[Value.ownBlock] at h
 | some a=>exact h
theorem Ig{w:World}{C:Nat}{v:Value}{St:List (Nat×Nat)}(h:OwnS w C 359 2 (fun _=>False) v (St.map iD)):OwnT w C v St:=by
 obtain⟨cs,h1,h2⟩:=h;rw[aC] at h1;have hl:=h1.1
 have e:cs=iY St:=by
  apply ext_getElem?;intro i;by_cases hi:i<cs.length
  ·have hik:i/2<St.length:=by omega
   have hok:=h2 (i/2) (iD (St.getD (i/2) (0,0))) (by rw[List.getElem?_map,af,ag hik];rfl);obtain⟨x,y,hxy,hx,hy⟩:=hok;have hx1:x=[int i64 ((St.getD (i/2) (0,0)).1:Nat)]:=hx.1;have hy1:y=[int i64 ((St.getD (i/2) (0,0)).2:Nat)]:=hy.1;rw[hx1,hy1] at hxy
   have g0:cs[i/2*2]? =some (int i64 ((St.getD (i/2) (0,0)).1:Nat)):=by
    have:((cs.drop (i/2*2)).take 2)[0]? =some (int i64 ((St.getD (i/2) (0,0)).1:Nat)):=(by rw[hxy];rfl);rw[List.getElem?_take,bf (by decide),List.getElem?_drop,Nat.add_zero] at this;exact this
   have g1:cs[i/2*2+1]? =some (int i64 ((St.getD (i/2) (0,0)).2:Nat)):=by
    have:((cs.drop (i/2*2)).take 2)[1]? =some (int i64 ((St.getD (i/2) (0,0)).2:Nat)):=(by rw[hxy];rfl);rw[List.getElem?_take,bf (by decide),List.getElem?_drop] at this;exact this
   obtain⟨s0,s1⟩:=nR hik;rcases Nat.mod_two_eq_zero_or_one i with h | h
   ·rw[show i=i/2*2 by omega,g0,s0]
   ·rw[show i=i/2*2+1 by omega,g1,s1]
  ·rw[List.getElem?_eq_none (by omega),List.getElem?_eq_none (by rw[jg];omega)]
 rw[e] at h1;exact h1
theorem Ih(g gf K H Z n N cR cK:Nat)(aR aK:Option Addr)(vals vS0 vD0 vL0 way more:Value)(F:Nat->Prop)(kn:List Bool)(rest:List (List Nat×List Nat))(w:World)
 (hg:Blk w g 292 (svC gf K H Z vals (slice aR N cR) vS0 vD0 vL0 way more))(hR:(fG rest).ok w F [slice aR N cR])(hF:∀b,F b->b≠g)(hk:Rd w w.heap.size aK n (bY kn))(hkg:∀p:Addr,aK=some p->p.block≠g)
 (hrl:rest.length=N)(hNb:N<=1000)(hn:n<=64)(hcn:∀x∈rest,x.1.length<=1000/\(∀c∈x.1,c<n)/\O5 x.1):
 Calls prog 234 #[pointer (some ⟨g,0,none⟩),slice aK n cK] w fun e w'=>e=returned (.tuple #[])/\∃vS vD vL St De Le,oM n (rest.map Prod.fst++cJ n fun c=>kn.getD c false) St De Le/\
  OwnT w' w.heap.size vS (St.filter fun s=> !decide (N<=s.1))/\OwnI w' w.heap.size vD De/\OwnI w' w.heap.size vL (Le.filter fun i=> !decide (N<=i))/\
  Blk w' g 292 (svC gf K H Z vals (slice aR N cR) vS vD vL way more)/\Below 0 w w'/\∀b,b<w.heap.size->b≠g->w'.heap[b]? =w.heap[b]? :=by
 have hba:=(az w.heap.size w).alloc (ah _) (cells #[pointer (some ⟨g,0,none⟩)] 287);have hKB:=Blk.new w 287 #[pointer (some ⟨g,0,none⟩)]
 have S0:Hid (Sx (w.alloc (cells #[pointer (some ⟨g,0,none⟩)] 287)) (w.alloc (cells #[pointer (some ⟨g,0,none⟩)] 287)) [bQ w.heap.size 287 #[pointer (some ⟨g,0,none⟩)],kT aK n (bY kn),eR F (slice aR N cR) (fG rest),bQ g 292 (svC gf K H Z vals (slice aR N cR) vS0 vD0 vL0 way more)]):=
  ae (((((Sx.nil _).add (bQ g _ _) (hg.below hba hg.lt)).add (eR F (slice aR N cR) (fG rest)) ((fG rest).new hR hba)).add (kT aK n (bY kn)) ((hk.below hba (ah _)).more hba.size)).add (bQ w.heap.size _ _) hKB)
 have HBW:=ae hba;have HN:=ae hrl;have HCN:=ae hcn;have hglt:=hg.lt;have HRF:Hid ((fG rest).ok (w.alloc (cells #[pointer (some ⟨g,0,none⟩)] 287)) (Bl w.heap.size) [slice aR N cR]):=ae ((fG rest).new ((fG rest).bl hR) hba);have q0:=hKB.cell 0;have q5:=(hg.below hba hglt).cell 5;unfold svC at q5;clear hg hR hk hba hKB hrl hcn;go_enter func234,ntmps234;go_wp2_with fail;clear q0 q5;generalize hw0:w.alloc (cells #[pointer (some ⟨g,0,none⟩)] 287)=w0 at*;have HW0:=ae hw0;clear hw0;have HO0:Hid (OwnS w0 w0.heap.size 22 1 Any (slice none 0 0) ((rest.take 0).map fun x=>rI x.1)):=ae (OwnS.nil _ _ _ _ _);have HB0:=ae (az w0.heap.size w0);go_loopw [4,16] (fun v i wr=>∃k:Nat,k<=N/\i=int i64 k/\Hid (OwnS wr w0.heap.size 22 1 Any v ((rest.take k).map fun x=>rI x.1))/\Hid (Below w0.heap.size w0 wr)) (fun _ i _=>N-(intOf i).toNat)
 case atStart=>exact⟨0,by omega,rfl,HO0,HB0⟩
 case round=>
  clear HO0 HB0;obtain⟨k,hkN,rfl,HO,HB⟩:=hrel;have S1:=ae (S0.out.step HB.out);have hw0s:=HB.out.size;obtain⟨a6,n6,c6,rfl⟩:=HO.out.sl;by_cases hlt:k<N
  ·have hltI:(k:Int)<(N:Int):=by omega
   have hkl:k<rest.length:=(by rw[HN.out];exact hlt);obtain⟨b,o,a1,q1,c1,a2,q2,c2,rfl,_,hb,he0,he1,hE1,hE2,hq1,hq2⟩:=mK ((fG rest).new HRF.out HB.out) HN.out hlt;have hba:=(az wr.heap.size wr).alloc (ah _) (cells #[slice a1 q1 c1,slice a2 q2 c2] 286);have hK:=Blk.new wr 286 #[slice a1 q1 c1,slice a2 q2 c2];have hE1':=(rI _).new hE1 hba;have k0:=hK.cell 0;have HO1:=ae (HO.out.new hba);have HB1:=ae (HB.out.trans (hba.mono hw0s));have hrl:((rest.take k).map fun x=>rI x.1).length<=1000000:=(by rw[aC,aG];omega);have HT:Hid ((rest.take (k+1)).map (fun x=>rI x.1)=((rest.take k).map fun x=>rI x.1)++[rI (rest.getD k ([],[])).1]):=ae (by rw[aN hkl,aQ,af,ag hkl];rfl);have hw01:w0.heap.size<=(wr.alloc (cells #[slice a1 q1 c1,slice a2 q2 c2] 286)).heap.size:=aO hw0s hba.size;have hwW:w.heap.size<=w0.heap.size:=HBW.out.size;have HR1:Hid ((rI (rest.getD k ([],[])).1).ok (wr.alloc (cells #[slice a1 q1 c1,slice a2 q2 c2] 286)) (fun b=>Any b/\some b≠(Value.slice a6 n6 c6).ownBlock) [slice a1 q1 c1]):=ae (HO1.out.off hE1' fun b hb=>⟨trivial,.inl (aU hb hwW)⟩);clear hba hK hE1 hE1' hE2 hq1 hq2 hkl HO HB S1;generalize rest.getD k ([],[])=x at*;generalize (rest.take k).map (fun x=>rI x.1)=LL at*;go_upto_region 5 with fail;clear he0 he1;generalize wr.alloc (cells #[slice a1 q1 c1,slice a2 q2 c2] 286)=wa at*
   go_wp2_with (at_builtin;refine fF (w:=wa) (w1:=wa) rfl _ _ rfl underlying98 xZ rfl (by decide) (by decide) HO1.out (az _ _) hw01 hrl (R:=rI x.1) HR1.out rfl rfl rfl ?_)
   intro v6 w6 hO6 hb6;rw[<-HT.out] at hO6;have HO6:=ae hO6;have HB6:=ae (HB1.out.trans hb6);clear hO6 hb6 HO1 HR1 HB1 k0;obtain⟨b6,n6,c6,rfl⟩:=HO6.out.sl;go_wp2_with fail;go_roundw
   case rel=>exact⟨k+1,by omega,by go_num,HO6,HB6⟩
   case measure=>simp[intOf];omega
  ·obtain rfl:k=N:=by omega
   rw[aJ (by rw[HN.out];exact ah _)] at HO
   have HO0:Hid (OwnS wr w0.heap.size 22 1 Any (slice a6 n6 c6) ((rest.map Prod.fst++cJ 0 fun c=>kn.getD c false).map rI)):=ae (by
    have e:(rest.map Prod.fst++cJ 0 fun c=>kn.getD c false).map rI=rest.map fun x=>rI x.1:=by
     rw[show cJ 0 (fun c=>kn.getD c false)=[] from rfl,append_nil,map_map];rfl
    rw[e];exact HO.out)
   clear HO S1;go_wp2_with fail;clear hw0s;have HBo:=HB;clear HB;go_loopw [4,28] (fun v i wr=>∃k:Nat,k<=n/\i=int i64 k/\Hid (OwnS wr w0.heap.size 22 1 Any v ((rest.map Prod.fst++cJ k fun c=>kn.getD c false).map rI))/\Hid (Below w0.heap.size w0 wr)) (fun _ i _=>n-(intOf i).toNat)
   case atStart=>exact⟨0,by omega,rfl,HO0,HBo⟩
   case round=>
    clear HO0 HBo;obtain⟨j,hjn,rfl,HO,HB⟩:=hrel;have S1:=ae (S0.out.step HB.out);have hw0s:=HB.out.size;obtain⟨a6,n6,c6,rfl⟩:=HO.out.sl;by_cases hlj:j<n
    ·have hljI:(j:Int)<(n:Int):=by omega
     obtain⟨bk,ok,rfl,hbk,hkc⟩:=tF (S1.out.rd 1 rfl) hlj;have HT:=ae (zn j fun c=>kn.getD c false);have hsl:=mL j fun c=>kn.getD c false;have hrl:((rest.map Prod.fst++cJ j fun c=>kn.getD c false).map rI).length<=1000000:=(by rw[aC,aH,aC,HN.out];omega);generalize cJ j (fun c=>kn.getD c false)=SL at*;cases hky:kn.getD j false with
     | false=>
       rw[hky] at hkc;have HN1:Hid (OwnS wr w0.heap.size 22 1 Any (slice a6 n6 c6) ((rest.map Prod.fst++cJ (j+1) fun c=>kn.getD c false).map rI)):=ae (by rw[HT.out,hky,bg (by decide),append_nil];exact HO.out);clear hky HO HT S1;go_wp2_with fail;go_roundw
       case rel=>exact⟨j+1,by omega,by go_num,HN1,HB⟩
       case measure=>simp[intOf];omega
     | true=>
       rw[hky] at hkc HT;rw[bf rfl] at HT;have HT2:Hid ((rest.map Prod.fst++cJ (j+1) fun c=>kn.getD c false).map rI=(rest.map Prod.fst++SL).map rI++[rI [j]]):=ae (by rw[HT.out,<-append_assoc,aQ];rfl);have hba:=(az wr.heap.size wr).alloc (ah _) (cells #[int i64 j] 3);have HO1:=ae (HO.out.new hba);have HB1:=ae (HB.out.trans (hba.mono hw0s));have hw01:w0.heap.size<=(wr.alloc (cells #[int i64 j] 3)).heap.size:=aO hw0s hba.size;have hsz1:(wr.alloc (cells #[int i64 j] 3)).heap.size=wr.heap.size+1:=(by simp);have HR1:Hid ((rI [j]).ok (wr.alloc (cells #[int i64 j] 3)) (fun b=>Any b/\some b≠(Value.slice a6 n6 c6).ownBlock) [slice (some ⟨wr.heap.size,0,none⟩) 1 1]):=ae (HO.out.off (Pi (Blk.new wr _ _) (F:=fun b=>b=wr.heap.size) rfl) fun b hb=>⟨trivial,.inr (by rw[hb];exact ah _)⟩);clear hky hba HT HO HB S1;generalize (rest.map Prod.fst++SL).map rI=LL at*
       go_wp2_with (at_builtin;refine fF (w:=wr.alloc (cells #[int i64 j] 3)) (w1:=wr.alloc (cells #[int i64 j] 3)) rfl _ _ rfl underlying98 xZ rfl (by decide) (by decide) HO1.out (az _ _) hw01 hrl (R:=rI [j]) HR1.out rfl rfl (by rw[hsz1];rfl) ?_)
       intro v6 w6 hO6 hb6;rw[<-HT2.out] at hO6;have HO6:=ae hO6;have HB6:=ae (HB1.out.trans hb6);clear hO6 hb6 HO1 HR1 HB1;obtain⟨b6,n6,c6,rfl⟩:=HO6.out.sl;go_wp2_with fail;go_roundw
       case rel=>exact⟨j+1,by omega,by go_num,HO6,HB6⟩
       case measure=>simp[intOf];omega
    ·obtain rfl:j=n:=by omega
     have hLN:(rest.map Prod.fst++cJ j fun c=>kn.getD c false).length<=2000:=by
      have:=mL j fun c=>kn.getD c false;rw[aH,aC,HN.out];omega
     obtain⟨hl6,-⟩:=HO.out.len;rw[aC] at hl6
     have CP:=ae (Eg j n6 a6 c6 _ (rest.map Prod.fst++cJ j fun c=>kn.getD c false) wr HO.out.rep hl6 (by omega) hn (fun x hx=>by
      rcases bz.1 hx with h | h
      ·obtain⟨y,hy,rfl⟩:=aW.1 h
       exact HCN.out y hy
      ·obtain⟨c,hc,rfl⟩:=aW.1 h
       have:=bA.1 (mem_filter.1 hc).1;exact⟨by simp,fun d hd=>by rw[mem_singleton.1 hd];exact this,fun i hi=>by simp at hi⟩))
     have HLN:=ae hl6;have hn6:n6<=2000:=(by omega);clear hl6 hLN;go_wp2_with fail;refine CP.out.mono ?_;rintro e w2 ⟨vS,vD,vL,St,De,Le,rfl,hP,hS,hD,hL,hap,hb2⟩;obtain⟨aS,nS,cS,rfl⟩:=hS.sl;obtain⟨aD,nD,cD,rfl⟩:=OwnI.sl hD;obtain⟨aL,nL,cL,rfl⟩:=OwnI.sl hL;have hT:=Ig hS;have hba:=(az w2.heap.size w2).alloc (ah _) (cells #[slice aS nS cS,slice aD nD cD,slice aL nL cL] 290);have hKP:=Blk.new w2 290 #[slice aS nS cS,slice aD nD cD,slice aL nL cL];have hT3:=lq hT hba;have hD3:=fQ hD hba;have hL3:=fQ hL hba;have S3:=S0.out.step ((HB.out.trans (hb2.mono hw0s)).trans (hba.mono (aO hw0s hb2.size)));have hWB:w.heap.size<w0.heap.size:=(S0.out.blk 0 rfl).lt;have hKB:=S3.blk 0 rfl;have hKG:=S3.blk 3 rfl
     have hT3l:St.length=nS:=by
      obtain⟨a',c',e,_⟩:=dB hT3;injection e with _ e _;exact e.symm
     have hL3l:Le.length=nL:=by
      obtain⟨a',c',e,_⟩:=dB hL3;injection e with _ e _;exact e.symm
     have hcnt:St.length<=1000000/\Le.length<=1000000:=by
      constructor
      ·have h1:(St.map Prod.fst).length<=n6:=jB hP.rows fun r hr=>by
        obtain⟨⟨r',d⟩,h5,e5⟩:=aW.1 hr;obtain⟨i,hi,h6⟩:=bC h5;have:r'=r:=e5;subst this;have:=(hP.step i r' d (by rw[ag hi,h6])).1
        rwa [HLN.out] at this
       rw[aC] at h1;omega
      ·rw[hP.left]
       exact aO (length_filter_le _ _) (by rw[aY,HLN.out];omega)
     have hwr2:=hb2.size;have hblS:=World.ownsRow.lt hT;have hblD:=World.ownsRow.lt hD;have hblL:=World.ownsRow.lt hL;have hSD:=jL hT hD (by decide);have hSL:=jL hT hL (by decide);have HKBW:Hid (∀b,b<w.heap.size->(w2.alloc (cells #[slice aS nS cS,slice aD nD cD,slice aL nL cL] 290)).heap[b]? =w.heap[b]?):=ae fun b hb=>(((HB.out.trans (hb2.mono hw0s)).trans (hba.mono (aO hw0s hb2.size))).block b (Nat.lt_trans hb hWB)).trans (HBW.out.block b hb);have HZ3:Hid (Below 0 w (w2.alloc (cells #[slice aS nS cS,slice aD nD cD,slice aL nL cL] 290))):=ae ((((HBW.out.mono (bu _)).trans (HB.out.mono (bu _))).trans (hb2.mono (bu _))).trans (hba.mono (bu _)));have hw23:=hba.size;have hP3:=hKP.lt
     have CD:=ae (wY w.heap.size wr.heap.size nS cS aS St (fun s=>decide (k<=s.1)) _ hT3 hT3l (by omega) (fun w' hw' hk s hs=>by
      obtain⟨r,c⟩:=s;have e1:w'.heap[w.heap.size]? =_:=hk w.heap.size hKB.lt (fun e=>by have:=hblS _ e.symm;omega);have e2:w'.heap[g]? =_:=hk g hKG.lt (fun e=>by have:=hblS _ e.symm;omega);exact Hn w.heap.size g gf K H Z k cR r c aR vals vS0 vD0 vL0 way more w' ((World.cell?_of_block (a:=⟨w.heap.size,0,none⟩) e1).trans (hKB.cell 0)) (by have:=hKB.lt;omega) (e2.trans hKG)) (by omega))
     have kP0:=hKP.cell 0;have HKP:=ae hKP;have HD3:=ae hD3;have HL3:=ae hL3;have HKB3:=ae hKB;have HKG3:=ae hKG;have HPL:=ae hP;have HL3l:=ae hL3l;have HCNT:=ae hcnt;have HSD:=ae hSD;have HSL:=ae hSL;have HAP:=ae hap;have HBS:=ae hblS;have HBD:=ae hblD;have HBL:=ae hblL;clear hT hS hD hL hba hKP hT3 hD3 hL3 S3 hKB hKG hP hap hT3l hL3l hcnt hblS hblD hblL hSD hSL CP hb2 HO HB;go_upto_region 14 with fail;generalize w2.alloc (cells #[slice aS nS cS,slice aD nD cD,slice aL nL cL] 290)=w3 at*;generalize hGP:w2.heap.size=GP at*;clear hGP;go_wp2_with fail;refine CD.out.mono ?_;rintro e w4 ⟨m4,rfl,hT4,hb04,hk4⟩;have hs4:=hb04.size;have HZ4:=ae (HZ3.out.trans hb04);clear hb04 HZ3;have hPw:GP<w3.heap.size:=HKP.out.lt
     have same:∀b,b<w3.heap.size->(b<wr.heap.size\/b=GP\/(Value.slice aD nD cD).ownBlock=some b\/(Value.slice aL nL cL).ownBlock=some b)->w4.heap[b]? =w3.heap[b]? :=fun b hb hor=>hk4 b hb fun e=>by
      have h1:=HBS.out b e.symm;rcases hor with h | h | h | h
      ·omega
      ·omega
      ·exact HSD.out b e.symm h
      ·exact HSL.out b e.symm h
     have hKP4:Blk w4 GP 290 #[slice aS nS cS,slice aD nD cD,slice aL nL cL]:=(same GP hPw (.inr (.inl rfl))).trans HKP.out;have hD4:OwnI w4 wr.heap.size (slice aD nD cD) De:=bZ HD3.out fun b hb=>same b (World.ownsRow.lt HD3.out b hb).2 (.inr (.inr (.inl hb)));have hL4:OwnI w4 wr.heap.size (slice aL nL cL) Le:=bZ HL3.out fun b hb=>same b (World.ownsRow.lt HL3.out b hb).2 (.inr (.inr (.inr hb)));have hKB4:Blk w4 w.heap.size 287 _:=(same w.heap.size HKB3.out.lt (.inl (by omega))).trans HKB3.out;have hKG4:Blk w4 g 292 _:=(same g HKG3.out.lt (.inl (by omega))).trans HKG3.out;have hk04:∀b,b<w.heap.size->w4.heap[b]? =w.heap[b]? :=fun b hb=>(same b (by omega) (.inl (by omega))).trans (HKBW.out b hb);have c40:=hKP4.cell 0;have f40:=hKP4.frozen 0;have far5:=fun (b:Nat) (hb:b≠GP)=>bE w4 ⟨GP,0,none⟩ (slice aS m4 cS) b hb;have HKP5:=ae (hKP4.set 0 (slice aS m4 cS));have HT5:Hid (OwnT (w4.setCell ⟨GP,0,none⟩ (slice aS m4 cS)) wr.heap.size (slice aS m4 cS) (St.filter fun s=> !decide (k<=s.1))):=ae (jK hT4 fun b hb=>far5 b (fun e=>by have:=HBS.out b (nO hb);omega));have hD5:OwnI (w4.setCell ⟨GP,0,none⟩ (slice aS m4 cS)) wr.heap.size (slice aD nD cD) De:=bZ hD4 fun b hb=>far5 b (fun e=>by have:=HBD.out b hb;omega);have hL5:OwnI (w4.setCell ⟨GP,0,none⟩ (slice aS m4 cS)) wr.heap.size (slice aL nL cL) Le:=bZ hL4 fun b hb=>far5 b (fun e=>by have:=HBL.out b hb;omega);have hKB5:Blk (w4.setCell ⟨GP,0,none⟩ (slice aS m4 cS)) w.heap.size 287 _:=(far5 w.heap.size (by omega)).trans hKB4;have hKG5:Blk (w4.setCell ⟨GP,0,none⟩ (slice aS m4 cS)) g 292 _:=(far5 g (by omega)).trans hKG4;have hk05:∀b,b<w.heap.size->(w4.setCell ⟨GP,0,none⟩ (slice aS m4 cS)).heap[b]? =w.heap[b]? :=fun b hb=>(far5 b (by omega)).trans (hk04 b hb);have hs5:(w4.setCell ⟨GP,0,none⟩ (slice aS m4 cS)).heap.size=w4.heap.size:=(by simp);have HS5:=ae hs5;have HZ5:=ae (HZ4.out.setCell (p:=⟨GP,0,none⟩) (bu _) (slice aS m4 cS));clear HZ4
     have CE:=ae (yT w.heap.size wr.heap.size nL cL aL Le (fun i=>decide (k<=i)) _ hL5 HL3l.out (by rw[hs5];omega) (fun w' hk x hx=>by
      have e1:w'.heap[w.heap.size]? =_:=hk w.heap.size hKB5.lt (fun e=>by have:=HBL.out _ e.symm;omega);have e2:w'.heap[g]? =_:=hk g hKG5.lt (fun e=>by have:=HBL.out _ e.symm;omega);exact Hm w.heap.size g gf K H Z k cR x aR vals vS0 vD0 vL0 way more w' ((World.cell?_of_block (a:=⟨w.heap.size,0,none⟩) e1).trans (hKB5.cell 0)) (e2.trans hKG5)) (by have:=HCNT.out.2;rw[HL3l.out] at this;exact this))
     have c52:=HKP5.out.cell 2;have HD5:=ae hD5;have HKB5:=ae hKB5;have HKG5:=ae hKG5;have HK05:=ae hk05;clear hs5 hL5 hD5 hKB5 hKG5 hk05 far5 hKP4 hD4 hL4 hKB4 hKG4 hk04 same hT4 HKP HD3 HL3 HKB3 HKG3 HKBW CD hk4;go_upto_region 15 with fail;clear c40 f40 kP0;generalize w4.setCell ⟨GP,0,none⟩ (slice aS m4 cS)=w5 at*;go_wp2_with fail;refine CE.out.mono ?_;rintro e w6 ⟨m6,rfl,hL6,hb06,hk6⟩;have hs6:=hb06.sz;have HZ7:=ae ((HZ5.out.trans hb06.bl).setCell (p:=⟨GP,2,none⟩) (bu _) (slice aL m6 cL));clear hb06 HZ5;have hs5:=HS5.out
     have same:∀b,(b<wr.heap.size\/b=GP\/(Value.slice aD nD cD).ownBlock=some b\/(Value.slice aS nS cS).ownBlock=some b)->w6.heap[b]? =w5.heap[b]? :=fun b hor=>hk6 b fun e=>by
      have h1:=HBL.out b e.symm;rcases hor with h | h | h | h
      ·omega
      ·omega
      ·exact HAP.out b h e.symm
      ·exact HSL.out b h e.symm
     have hKP6:Blk w6 GP 290 _:=(same GP (.inr (.inl rfl))).trans HKP5.out;have hD6:OwnI w6 wr.heap.size (slice aD nD cD) De:=bZ HD5.out fun b hb=>same b (.inr (.inr (.inl hb)));have hT6:OwnT w6 wr.heap.size (slice aS m4 cS) (St.filter fun s=> !decide (k<=s.1)):=jK HT5.out fun b hb=>same b (.inr (.inr (.inr (nO hb))));have hKB6:Blk w6 w.heap.size 287 _:=(same w.heap.size (.inl (by omega))).trans HKB5.out;have hKG6:Blk w6 g 292 _:=(same g (.inl (by omega))).trans HKG5.out;have hk06:∀b,b<w.heap.size->w6.heap[b]? =w.heap[b]? :=fun b hb=>(same b (.inl (by omega))).trans (HK05.out b hb);have f62:=hKP6.frozen 2;have d62:=hKP6.cell 2;have far7:=fun (b:Nat) (hb:b≠GP)=>bE w6 ⟨GP,2,none⟩ (slice aL m6 cL) b hb;have hKP7:=hKP6.set 2 (slice aL m6 cL);have HT7:Hid (OwnT (w6.setCell ⟨GP,2,none⟩ (slice aL m6 cL)) wr.heap.size (slice aS m4 cS) (St.filter fun s=> !decide (k<=s.1))):=ae (jK hT6 fun b hb=>far7 b (fun e=>by have:=HBS.out b (nO hb);omega));have HD7:Hid (OwnI (w6.setCell ⟨GP,2,none⟩ (slice aL m6 cL)) wr.heap.size (slice aD nD cD) De):=ae (bZ hD6 fun b hb=>far7 b (fun e=>by have:=HBD.out b hb;omega));have HL7:Hid (OwnI (w6.setCell ⟨GP,2,none⟩ (slice aL m6 cL)) wr.heap.size (slice aL m6 cL) (Le.filter fun i=> !decide (k<=i))):=ae (bZ hL6 fun b hb=>far7 b (fun e=>by have:=HBL.out b (nO hb);omega));have hKB7:Blk (w6.setCell ⟨GP,2,none⟩ (slice aL m6 cL)) w.heap.size 287 _:=(far7 w.heap.size (by omega)).trans hKB6;have hKG7:Blk (w6.setCell ⟨GP,2,none⟩ (slice aL m6 cL)) g 292 _:=(far7 g (by omega)).trans hKG6;have HK07:Hid (∀b,b<w.heap.size->(w6.setCell ⟨GP,2,none⟩ (slice aL m6 cL)).heap[b]? =w.heap[b]?):=ae fun b hb=>(far7 b (by omega)).trans (hk06 b hb);have hs7:w.heap.size<=(w6.setCell ⟨GP,2,none⟩ (slice aL m6 cL)).heap.size:=(by simp;omega);have HS7:=ae hs7;have b0:=hKB7.cell 0;have e0:=hKP7.cell 0;have e1:=hKP7.cell 1;have e2:=hKP7.cell 2;have g6:=hKG7.cell 6;have g7:=hKG7.cell 7;have g8:=hKG7.cell 8;have y6:=hKG7.frozen 6;have y7:=hKG7.frozen 7;have y8:=hKG7.frozen 8;unfold svC at g6 g7 g8;have HKG7:=ae hKG7;clear hKB7 hKP7 hKG7 hs5 hs7 hKP6 hD6 hT6 hKB6 hKG6 hk06 far7 same hL6 HKP5 HD5 HT5 HKB5 HKG5 HK05 CE hk6 HL3l hs6 HS5;go_upto_region 16 with fail;clear f62 d62 c52;generalize w6.setCell ⟨GP,2,none⟩ (slice aL m6 cL)=w7 at*;have hgGP:¬g=GP:=(by omega);have hGPg:¬GP=g:=(by omega);have hgB:¬w.heap.size=g:=(by omega);go_wp2_with fail
     go_end0
     have far8:∀b,b≠g->(((w7.setCell ⟨g,6,none⟩ (slice aS m4 cS)).setCell ⟨g,7,none⟩ (slice aD nD cD)).setCell ⟨g,8,none⟩ (slice aL m6 cL)).heap[b]? =w7.heap[b]? :=fun b hb=>((bE _ _ _ _ hb).trans (bE _ _ _ _ hb)).trans (bE _ _ _ _ hb);have hlow:w.heap.size<=wr.heap.size:=(by omega);refine⟨rfl,slice aS m4 cS,slice aD nD cD,slice aL m6 cL,St,De,Le,HPL.out,?_,?_,?_,?_,?_,?_⟩
     ·exact zo (jK HT7.out fun b hb=>far8 b (fun e=>by have:=HBS.out b (nO hb);omega)) hlow
     ·exact zo (bZ HD7.out fun b hb=>far8 b (fun e=>by have:=HBD.out b hb;omega)) hlow
     ·exact zo (bZ HL7.out fun b hb=>far8 b (fun e=>by have:=HBL.out b (nO hb);omega)) hlow
     ·exact((HKG7.out.set 6 _).set 7 _).set 8 _
     ·exact((HZ7.out.setCell (bu _) _).setCell (bu _) _).setCell (bu _) _
     ·exact fun b hb hne=>(far8 b hne).trans (HK07.out b hb)
def gH(L:List (Nat×List Nat)):Rp:=rS 2 (L.map fun x=>sF x.1 x.2)
theorem tE{L:List (Nat×List Nat)}{w:World}{F:Nat->Prop}{a:Option Addr}{n c i:Nat}(h:(gH L).ok w F [slice a n c])(hl:L.length=n)(hi:i<n):
 ∃b o a2 q2 c2,a=some ⟨b,o,none⟩/\F b/\b<w.heap.size/\w.cell? ⟨b,o+i*2,none⟩=some (int i64 ((L.getD i (0,[])).1:Nat))/\w.cell? ⟨b,o+i*2+1,none⟩=some (slice a2 q2 c2)/\(rB (L.getD i (0,[])).2).ok w F [slice a2 q2 c2]/\q2=(L.getD i (0,[])).2.length:=by
 have hiL:i<L.length:=by omega
 have hR:(L.map fun x=>sF x.1 x.2)[i]? =some (sF (L.getD i (0,[])).1 (L.getD i (0,[])).2):=by rw[List.getElem?_map,af,ag hiL];rfl
 obtain⟨b,o,ds,rfl,hF,hb,hok,hlen,hc⟩:=rY h (by decide) hi hR;obtain⟨x,y,rfl,h1,h2⟩:=hok;have hx:x=[int i64 ((L.getD i (0,[])).1:Nat)]:=h1.1;subst hx;have l2:=(rB (L.getD i (0,[])).2).len h2;obtain⟨u2,rfl⟩:=length_eq_one_iff.1 l2;obtain⟨a2,c2,rfl,-⟩:=gP h2 rfl;exact⟨b,o,a2,_,c2,rfl,hF,hb,hc 0 _ rfl,hc 1 _ rfl,h2,rfl⟩
theorem Hw(K H Z id c:Nat)(a:Option Addr)(w:World)(hid:id<=65535):
 Calls prog 172 #[.agg #[int i64 K,int i64 H,int i64 Z],.agg #[int i64 id,slice a Z c]] w fun e w'=>e=returned (bool true)/\Below w.heap.size w w':=by
 have b1:=(az w.heap.size w).alloc (ah _) (cells #[int i64 K,int i64 H,int i64 Z] 25);have k1:=Blk.new w 25 #[int i64 K,int i64 H,int i64 Z];have e1:(w.alloc (cells #[int i64 K,int i64 H,int i64 Z] 25)).heap.size=w.heap.size+1:=by simp
 generalize w.alloc (cells #[int i64 K,int i64 H,int i64 Z] 25)=w1 at*;have h1:(0:Int)<=(id:Int):=by omega
 have h2:(id:Int)<=65535:=by omega
 clear k1 e1 b1;go_enter func172,ntmps172;go_wp2_with fail;go_ret;refine⟨rfl,?_⟩;exact(((az w.heap.size w).alloc (ah _) _).alloc (by simp) _)
theorem Nv(N c:Nat)(a:Option Addr)(F:Nat->Prop)(L:List (Nat×List Nat))(w:World)(hL:(gH L).ok w F [slice a N c])(hl:L.length=N)(hN:N<=1000):
 Calls prog 174 #[slice a N c] w fun e w'=>∃v,e=returned v/\OwnI w' w.heap.size v (L.map Prod.fst)/\Below w.heap.size w w':=by
 have HL:=ae hL;have HN:=ae hl;have HO0:Hid (OwnI w w.heap.size (slice none 0 0) ((L.take 0).map Prod.fst)):=ae (OwnI.nil _ _);have HB0:=ae (az w.heap.size w);clear hL hl;go_enter func174,ntmps174;go_wp2_with fail;go_loopw [3,8] (fun v i wr=>∃k:Nat,k<=N/\i=int i64 k/\Hid (OwnI wr w.heap.size v ((L.take k).map Prod.fst))/\Hid (Below w.heap.size w wr)) (fun _ i _=>N-(intOf i).toNat)
 case atStart=>exact⟨0,by omega,rfl,HO0,HB0⟩
 case round=>
  clear HO0 HB0;obtain⟨k,hkN,rfl,HO,HB⟩:=hrel;have hw0:=HB.out.size;obtain⟨a6,n6,c6,rfl⟩:=OwnI.sl HO.out;by_cases hlt:k<N
  ·have hltI:(k:Int)<(N:Int):=by omega
   have hkl:k<L.length:=(by rw[HN.out];exact hlt);obtain⟨b,o,a2,q2,c2,rfl,_,hb,he0,he1,-,hq2⟩:=tE ((gH L).new HL.out HB.out) HN.out hlt;have hba:=(az wr.heap.size wr).alloc (ah _) (cells #[int i64 ((L.getD k (0,[])).1:Nat),slice a2 q2 c2] 154);have k0:=(Blk.new wr 154 #[int i64 ((L.getD k (0,[])).1:Nat),slice a2 q2 c2]).cell 0;have HO1:Hid (OwnI _ _ _ _):=ae (fQ HO.out hba);have HB1:=ae (HB.out.trans (hba.mono hw0));have hw1:w.heap.size<=(wr.alloc (cells #[int i64 ((L.getD k (0,[])).1:Nat),slice a2 q2 c2] 154)).heap.size:=aO hw0 hba.size;have HT:Hid ((L.take (k+1)).map Prod.fst=(L.take k).map Prod.fst++[(L.getD k (0,[])).1]):=ae (by rw[aN hkl,aQ,af,ag hkl];rfl);have hrl:((L.take k).map Prod.fst).length<=1000000:=(by rw[aC,aG];omega);clear hba hq2 hkl HO HB;generalize (L.getD k (0,[])).1=x at*;generalize (L.take k).map Prod.fst=LL at*;go_upto_region 5 with fail;clear he0 he1;generalize wr.alloc (cells #[int i64 (x:Nat),slice a2 q2 c2] 154)=wa at*
   go_wp2_with (at_builtin;refine nN (w:=wa) (y:=x) rfl _ _ ?hi rfl HO1.out hw1 hrl rfl rfl ?_)
   case hi=>first | rfl | trivial
   intro v6 w6 hO6 hb6 _ _ _;rw[<-HT.out] at hO6;have HO6:=ae hO6;have HB6:=ae (HB1.out.trans hb6);clear hO6 hb6 HO1 HB1 k0;obtain⟨b6,n6,c6,rfl⟩:=OwnI.sl HO6.out;go_wp2_with fail;go_roundw
   case rel=>exact⟨k+1,by omega,by go_num,HO6,HB6⟩
   case measure=>simp[intOf];omega
  ·obtain rfl:k=N:=by omega
   rw[aJ (by rw[HN.out];exact ah _)] at HO;go_wp2_with fail;go_ret;exact⟨_,rfl,HO.out,HB.out⟩
theorem JG(B K H Z id c:Nat)(a:Option Addr)(w:World)(hB:Blk w B 25 #[int i64 K,int i64 H,int i64 Z])(hid:id<=65535):
 Calls prog 171 #[.agg #[int i64 id,slice a Z c],pointer (some ⟨B,0,none⟩)] w fun e w'=>e=returned (bool false)/\Below w.heap.size w w':=by
 have hba:=(az w.heap.size w).alloc (ah _) (cells #[int i64 id,slice a Z c] 154);have hK:=Blk.new w 154 #[int i64 id,slice a Z c];have k0:=hK.cell 0;have k1:=hK.cell 1;have hB1:=hB.below hba hB.lt;have p0:=hB1.cell 0;have p1:=hB1.cell 1;have p2:=hB1.cell 2;have HBA:=ae hba;clear hba hK hB1 hB;go_enter func171,ntmps171;go_wp2_with fail;have CR:=ae (Hw K H Z id c a (w.alloc (cells #[int i64 id,slice a Z c] 154)) hid);refine CR.out.mono ?_;rintro e w1 ⟨rfl,hb⟩;have HB:=ae (HBA.out.trans (hb.mono HBA.out.size));clear hb CR p0 p1 p2 k0 k1;go_wp2_with fail;go_ret;exact⟨rfl,HB.out⟩
theorem Cs(B K H Z N c:Nat)(a:Option Addr)(F:Nat->Prop)(L:List (Nat×List Nat))(w:World)(hL:(gH L).ok w F [slice a N c])(hl:L.length=N)(hN:N<=1000)(hB:Blk w B 25 #[int i64 K,int i64 H,int i64 Z])
 (hx:∀x∈L,x.1<=65535/\x.2.length=Z):
 Calls prog 230 #[slice a N c,.func (.func 171) #[] #[pointer (some ⟨B,0,none⟩)]] w fun e w'=>e=returned (int i64 (-1))/\Below w.heap.size w w':=by
 have HL:=ae hL;have HN:=ae hl;have HX:=ae hx;have HBB:=ae hB;have HB0:=ae (az w.heap.size w);clear hL hl hx hB;go_enter func230,ntmps230;go_wp2_with fail;go_loopw [8] (fun i wr=>∃k:Nat,k<=N/\i=int i64 k/\Hid (Below w.heap.size w wr)) (fun i _=>N-(intOf i).toNat)
 case atStart=>exact⟨0,by omega,rfl,HB0⟩
 case round=>
  clear HB0;obtain⟨k,hkN,rfl,HB⟩:=hrel;by_cases hlt:k<N
  ·have hltI:(k:Int)<(N:Int):=by omega
   have hkl:k<L.length:=(by rw[HN.out];exact hlt);have hm:L.getD k (0,[])∈L:=(by rw[af,ag hkl];exact aP _);obtain⟨h1,h2⟩:=HX.out _ hm;obtain⟨b,o,a2,q2,c2,rfl,_,hb,he0,he1,-,hq2⟩:=tE ((gH L).new HL.out HB.out) HN.out hlt;obtain rfl:q2=Z:=(by omega);have CF:=ae (JG B K H q2 (L.getD k (0,[])).1 c2 a2 wr (HBB.out.below HB.out HBB.out.lt) h1);clear hkl hm h1 h2 hq2;generalize (L.getD k (0,[])).1=x at*;go_wp2_with fail;refine CF.out.mono ?_;rintro e w1 ⟨rfl,hb1⟩;have HB1:=ae (HB.out.trans (hb1.mono HB.out.size));clear hb1 HB CF he0 he1;go_wp2_with fail;go_roundw
   case rel=>exact⟨k+1,by omega,by go_num,HB1⟩
   case measure=>simp[intOf];omega
  ·obtain rfl:k=N:=by omega
   go_wp2_with fail;go_ret;exact⟨rfl,HB.out⟩
theorem wL(B K H Z N c:Nat)(a:Option Addr)(F:Nat->Prop)(L:List (Nat×List Nat))(w:World)(hL:(gH L).ok w F [slice a N c])(hl:L.length=N)(hN:N<=1000)(hB:Blk w B 25 #[int i64 K,int i64 H,int i64 Z])
 (hx:∀x∈L,x.1<=65535/\x.2.length=Z):
 Calls prog 170 #[slice a N c,.func (.func 171) #[] #[pointer (some ⟨B,0,none⟩)]] w fun e w'=>e=returned (bool false)/\Below w.heap.size w w':=by
 have CI:=ae (Cs B K H Z N c a F L w hL hl hN hB hx);clear hL hl hx hB;go_enter func170,ntmps170;go_wp2_with fail;refine CI.out.mono ?_;rintro e w1 ⟨rfl,hb⟩;have HB:=ae hb;clear hb CI;go_wp2_with fail;go_ret;exact⟨rfl,HB.out⟩
structure Hs (w:World) (g n:Nat) (F:Nat->Prop) (W:Nat->List Nat):Prop where
 ex:∃hs:List Value,Blk w g 30 hs.toArray/\hs.length=n/\∀c,c<n->(rB (W c)).ok w F [hs.getD c undef]
theorem Hs.new{w w':World}{g n:Nat}{F:Nat->Prop}{W:Nat->List Nat}(h:Hs w g n F W)(hb:Below w.heap.size w w'):Hs w' g n F W:=by
 obtain⟨hs,h1,h2,h3⟩:=h.ex;exact⟨hs,h1.below hb h1.lt,h2,fun c hc=>(rB _).new (h3 c hc) hb⟩
theorem Hs.keep{w w':World}{g n:Nat}{F G:Nat->Prop}{W:Nat->List Nat}(h:Hs w g n F W)(h1:w'.heap[g]? =w.heap[g]?)(h2:∀k,F k->k<w.heap.size->w'.heap[k]? =w.heap[k]? /\G k):Hs w' g n G W:=by
 obtain⟨hs,a1,a2,a3⟩:=h.ex;exact⟨hs,h1.trans a1,a2,fun c hc=>(rB _).keep (a3 c hc) h2⟩
theorem Hs.lt{w:World}{g n:Nat}{F:Nat->Prop}{W:Nat->List Nat}(h:Hs w g n F W):g<w.heap.size:=by
 obtain⟨hs,h1,_⟩:=h.ex;exact h1.lt
theorem Hs.at{w:World}{g n c:Nat}{F:Nat->Prop}{W:Nat->List Nat}(h:Hs w g n F W)(hc:c<n):
 ∃a q d,w.cell? ⟨g,c,none⟩=some (slice a q d)/\q=(W c).length/\(rB (W c)).ok w F [slice a q d]/\Rd w w.heap.size a q (bF (W c))/\(a=none->d=0)/\q<=d/\d<=maxLen/\w.frozen? ⟨g,c,none⟩=false:=by
 obtain⟨hs,h1,h2,h3⟩:=h.ex;have h4:=h3 c hc;obtain⟨a,d,e,h5,h6,h7,h8⟩:=gP h4 rfl;rw[e] at h4;exact⟨a,_,d,(h1.cell c).trans (by rw[<-e];simpa using rK (hs:=hs) (by omega)),rfl,h4,h5,h6,h7,h8,h1.frozen c⟩
theorem Hs.put{w w':World}{g n c:Nat}{F:Nat->Prop}{W:Nat->List Nat}{u:Value}{d:List Nat}(h:Hs w g n F W)(hd:(rB d).ok w' F [u])(hw:∀b,F b->b<w.heap.size->w'.heap[b]? =w.heap[b]?)
 (hg:∀hs:Array Value,Blk w g 30 hs->Blk w' g 30 (hs.setIfInBounds c u)):Hs w' g n F (jC W c d):=by
 obtain⟨hs,h1,h2,h3⟩:=h.ex;refine⟨hs.set c u,by simpa using hg _ h1,by rw[length_set];exact h2,fun i hi=> ?_⟩;by_cases hic:i=c
 ·subst hic
  rw[lL,af,List.getElem?_set,bf rfl,bf (by omega)];exact hd
 ·rw[kF _ _ hic,af,List.getElem?_set,bg (fun e=>hic e.symm),<-af]
  exact(rB _).keep (h3 i hi) fun k hk hlt=>⟨hw k hk hlt,hk⟩
theorem Hs.begin{w:World}{g n:Nat}{F:Nat->Prop}(h:Blk w g 30 (replicate n (Value.slice none 0 0)).toArray):Hs w g n F (fun _=>[]):=
 ⟨_,h,aI,fun c hc=>by
   rw[af,List.getElem?_replicate,bf hc];exact⟨none,0,0,rfl,ah _,bu _,fun _=>rfl,rfl,fun h=>absurd h (Nat.lt_irrefl _)⟩⟩
structure SvSt (w:World) (g gf K H Z n:Nat) (gv gw gm:Nat) (rest vS vD vL:Value) (F:Nat->Prop) (V W M:Nat->List Nat):Prop where
 blk:Blk w g 292 (svC gf K H Z (slice (some ⟨gv,0,none⟩) n n) rest vS vD vL (slice (some ⟨gw,0,none⟩) n n) (slice (some ⟨gm,0,none⟩) n n))
 fld:Fld w gf
 vls:∃hs:List Value,Blk w gv 30 hs.toArray/\hs.length=n/\∀c,c<n->(rN (V c)).ok w F [hs.getD c undef]
 way:Hs w gw n F W
 mor:Hs w gm n F M
 ne:gv≠gw/\gv≠gm/\gw≠gm
 off:∀b,F b->b≠g/\b≠gv/\b≠gw/\b≠gm
