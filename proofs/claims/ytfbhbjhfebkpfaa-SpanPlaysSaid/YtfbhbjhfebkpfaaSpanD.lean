/- Contracts of the package span: Add, Clone. -/
import Derived.Test.YtfbhbjhfebkpfaaSpanC
import Derived.Deep.RegionHeld3
namespace Go.Proofs.Ytfbhbjhfebkpfaa
open Go.RowKit
set_option linter.unusedVariables false

/-- 'append(out, row)' in a region that draws. -/
theorem step_appRow {w0 w1 : World} {ops : Array Oper} {o : Oper} {a : Act} {K : Act → World → Prop} {Q : Exit → Act → World → Prop} {E : Prop} (hgd : o.guard = none) (s x : Operand) {C : Nat} {v u : Value} {M : List (List Nat)} {l : List Nat}
    (ho : o.op = .call { callee := .builtin .append, args := #[s, x], argTypes := #[46, 46] })
    (h : MOwn w0 C v M) (hb : Below w0.heap.size w0 w1) (hu : OwnB w1 w0.heap.size u l) (hC : C ≤ w0.heap.size) (hl : M.length ≤ 1000000)
    (hs : a.eval s = v) (hx : a.eval x = .slice (some ⟨w1.heap.size, 0, none⟩) 1 1)
    (hK : ∀ v' w2, MOwn w2 C v' (M ++ [l]) → Below C w0 w2 → (w1.alloc (.cells #[u] 49)).grownBy w2 v.ownBlock → K (a.put o.dst v') w2) :
    if Region.wanted o (yielded ops a.tmps) = true then Oper.wp Try.prog o a (w1.alloc (.cells #[u] 49)) K Q else E := by
  obtain ⟨vs, h⟩ := h
  have hs1 := hb.size
  have h1 := h.new hb
  have hba := (Below.refl w1.heap.size w1).alloc (Nat.le_refl _) (.cells #[u] 49)
  have h2 := h1.new hba
  have hone : u.oneCell' = true := by obtain ⟨a', c', e, _⟩ := hu.rd; rw [e]; rfl
  have hr : Rd (w1.alloc (.cells #[u] 49)) (w1.alloc (.cells #[u] 49)).heap.size (some ⟨w1.heap.size, 0, none⟩) 1 [u] := rd_lit w1 #[u] 49 w1.heap.size 1 rfl rfl
  refine step_appAt (P := Try.prog) hgd s x 46 ho C 49 (.slice none 0 0) 24 Try.underlying46 info_rows rfl v M.length vs hs h2.hd _ _ 1 1 [u] hx (fun e => by cases e) hr (fun u' hu' => by rw [List.mem_singleton] at hu'; rw [hu']; exact hone) (by omega) (by unfold maxLen; omega) (by simp; omega) fun v' w2 hown hg hat => ?_
  have hrow : ∀ (i : Nat) u', vs[i]? = some u' → ∀ b, u'.ownBlock = some b → b < w0.heap.size := fun i u' hu' b hb' => ((h.of hu').1.lt b hb').2
  refine hK v' w2 ⟨_, h2.snoc hrow hC (hu.below hba) hown hg⟩ ?_ hg
  refine (((hb.mono hC).alloc (by omega) _).grown hg (by simp; omega) fun k hk => ?_)
  exact (h.hd.lt k hk).1

theorem drew_alloc (w : World) (o : Obj) : (w.alloc o).drew = w.drew.alloc o := rfl
/-- The same, the new block laid in a world that has drawn since. -/
theorem step_appRowD {w0 w1 : World} {ops : Array Oper} {o : Oper} {a : Act} {K : Act → World → Prop} {Q : Exit → Act → World → Prop} {E : Prop} (hgd : o.guard = none) (s x : Operand) {C : Nat} {v u : Value} {M : List (List Nat)} {l : List Nat}
    (ho : o.op = .call { callee := .builtin .append, args := #[s, x], argTypes := #[46, 46] })
    (h : MOwn w0 C v M) (hb : Below w0.heap.size w0 w1) (hu : OwnB w1 w0.heap.size u l) (hC : C ≤ w0.heap.size) (hl : M.length ≤ 1000000)
    (hs : a.eval s = v) (hx : a.eval x = .slice (some ⟨w1.heap.size, 0, none⟩) 1 1)
    (hK : ∀ v' w2, MOwn w2 C v' (M ++ [l]) → Below C w0 w2 → (w1.drew.alloc (.cells #[u] 49)).grownBy w2 v.ownBlock → K (a.put o.dst v') w2) :
    if Region.wanted o (yielded ops a.tmps) = true then Oper.wp Try.prog o a (w1.alloc (.cells #[u] 49)).drew K Q else E := by
  rw [drew_alloc]
  exact step_appRow (w1 := w1.drew) hgd s x ho h hb.drew (hu.drewN 1) hC hl hs hx hK

/-- Was it something new? -/
def newB (A : List (List Nat)) (v : List Nat) : Bool := decide ((rref (A ++ [v])).length ≠ (rref A).length)

set_option maxRecDepth 100000 in
set_option maxHeartbeats 4000000 in
theorem span_add (C g n : Nat) (o : Option Nat) (A : List (List Nat)) (r : List Nat) (a : Option Addr) (c : Nat) (w : World) (hS : SpR w C g n o (rref A)) (hA : Wf n A) (hx : Rd w w.heap.size a n (cellsB r)) (hnil : a = none → c = 0) (hb : By r) (hn : n ≤ 64) (hC : C ≤ w.heap.size) :
    Calls Try.prog 73 #[.pointer (some ⟨g, 0, none⟩), .slice a n c] w fun e w' => e = .returned (.bool (newB A r)) ∧ ∃ o', SpR w' C g n o' (rref (A ++ [r])) ∧ Upd w w' g o ∧ (o' = o ∨ ∃ b, o' = some b ∧ w.heap.size ≤ b) := by
  obtain ⟨ls, hR, hSp⟩ := rref_spec hA
  have hlr : r.length = n := by have := hx.len; rwa [cellsB_len] at this
  have CR := Lib.hid (span_rest C g n o (rref A) ls r a c w hS hR hx hnil hb hn)
  obtain ⟨hlo, hbo⟩ := restR_wf hR.wf hlr hb
  obtain ⟨hn1, hn2⟩ := rank_new hA hlr hb
  have hcnt := hR.cnt
  have HSS := Lib.hid hS
  by_cases hnew : leadI (restR (rref A) r) < 0
  · have e1 : rref (A ++ [r]) = rref A := rref_same hA hlr hb (leadI_neg.1 hnew)
    have e2 : newB A r = false := by unfold newB; rw [e1]; simp
    rw [e1, e2]
    generalize restR (rref A) r = q at *
    have HLO := Lib.hid hlo
    have HBO := Lib.hid hbo
    have hqm : q.length ≤ maxLen := by rw [HLO.out]; unfold maxLen; omega
    clear hS hR hSp hx hb hlo hbo hn1 hn2 e1 e2 hA
    generalize rref A = R at *
    go_enter Try.func73, Try.ntmps73
    go_wp2_with fail
    refine CR.out.mono ?_
    rintro e w1 ⟨v, rfl, ho, hb1⟩
    obtain ⟨a1, c1, rfl, hr1⟩ := ho.rd
    have HR1 := Lib.hid hr1
    have HB1 := Lib.hid hb1
    clear ho hr1 hb1 CR
    go_wp2_with fail
    refine (row_lead q _ a1 q.length c1 w1 HR1.out HBO.out hqm).mono ?_
    rintro e w2 ⟨rfl, j, rfl⟩
    go_wp2_with fail
    go_ret
    exact ⟨rfl, o, (HSS.out.new HB1.out).drewN j, Upd.of (below_drewN HB1.out j), .inl rfl⟩
  · have e1 : rref (rref A ++ [restR (rref A) r]) = rref (A ++ [r]) := rref_add hA hlr hb
    have e2 : newB A r = true := by
      unfold newB
      rw [decide_eq_true_iff]
      intro h
      exact hnew (leadI_neg.2 (hn2.1 h))
    rw [e2]
    have hwq : Wf n (rref A ++ [restR (rref A) r]) := wf_snoc hR.wf hlo hbo
    have hlen1 := (rref_len hwq).1
    have hpos : 0 < (rref (A ++ [r])).length := by
      have : newB A r = true := e2
      unfold newB at this
      have := of_decide_eq_true this
      omega
    rw [e1] at hlen1
    generalize hRR : rref (A ++ [r]) = R2 at *
    generalize restR (rref A) r = q at *
    have HRR := Lib.hid e1
    have HWQ := Lib.hid hwq
    have HLO := Lib.hid hlo
    have HBO := Lib.hid hbo
    have hqm : q.length ≤ maxLen := by rw [HLO.out]; unfold maxLen; omega
    clear hS hR hSp hx hb hlo hbo hn1 hn2 e1 e2 hA hRR hwq
    generalize rref A = R at *
    obtain ⟨hCg, gf, av, cv, hB, hF, hM, ho⟩ := HSS.out
    obtain ⟨c0, c1, c2⟩ := blk3s hB
    have hglt := hB.lt
    have hglt2 : gf < w.heap.size := Blk.lt hF
    have HBk := Lib.hid hB
    have HF := Lib.hid hF
    have HM := Lib.hid hM
    have HO := Lib.hid ho
    have hHO := HSS.out.hto
    have HHO := Lib.hid hHO
    have hgo : some g ≠ o := fun e => by have := (hHO g e.symm).1; exact this.ne HSS.out.ht (by decide) rfl
    have hfo : some gf ≠ o := fun e => by have := (hHO gf e.symm).1; exact this.ne (t' := 100) ⟨_, hF⟩ (by decide) rfl
    have hml : R.length ≤ 1000000 := by omega
    clear hB hF hM ho hHO
    go_enter Try.func73, Try.ntmps73
    go_wp2_with fail
    refine CR.out.mono ?_
    rintro e w1 ⟨v, rfl, ho, hb1⟩
    obtain ⟨a1, c1', rfl, hr1⟩ := ho.rd
    have HR1 := Lib.hid hr1
    have HB1 := Lib.hid hb1
    have HO1 := Lib.hid ho
    clear ho hr1 hb1 CR c1
    go_wp2_with fail
    refine (row_lead q _ a1 q.length c1' w1 HR1.out HBO.out hqm).mono ?_
    rintro e w2 ⟨rfl, j, rfl⟩
    have HB2 := Lib.hid (below_drewN HB1.out j)
    have HO2 := Lib.hid (HO1.out.drewN j)
    clear HB1 HO1 HR1
    generalize w1.drewN j = w2 at *
    have k0 := (HB2.out.cell (p := ⟨g, 0, none⟩) hglt).trans c0
    have k2 := (HB2.out.cell (p := ⟨g, 2, none⟩) hglt).trans c2
    have hs2 := HB2.out.size
    have HB3 : Hid (Below w.heap.size w w2.drew) := Lib.hid HB2.out.drew
    clear c0 c2
    go_wp2_with fail
    have hg2 : g < w2.heap.size := Nat.lt_of_lt_of_le hglt hs2
    go_region_law (first
      | (change (if _ = true then Oper.wp _ (Oper.mk (some 31) _ _ _ _ _) _ _ _ _ else _)
         refine step_appRowD (w0 := w) (w1 := w2) (C := C) (v := .slice av R.length cv) (M := R) (l := q) rfl _ _ rfl HM.out HB2.out HO2.out hC hml rfl rfl ?_
         intro v3 w3 hM3 hb3 hg3
         rw [HO.out] at hg3
         have HBA : Hid (Blk w3 g 109 #[.pointer (some ⟨gf, 0, none⟩), .int .i64 n, .slice av R.length cv]) := Lib.hid (Blk.grown (Blk.alloc (HBk.out.below HB3.out hglt) _) hg3 hgo)
         have HFA : Hid (Fld w3 gf) := Lib.hid (Blk.grown (Blk.alloc (HF.out.below HB3.out hglt2) _) hg3 hfo)
         have HUA : Hid (Upd w w3 g o) := Lib.hid ((Upd.of (HB3.out.alloc (by exact hs2) _)).trans (Upd.grow hg3))
         have m0 := (blk3s HBA.out).1
         have m2 := (blk3s HBA.out).2.2
         have hl3 : (R ++ [q]).length = R.length + 1 := by simp
         obtain ⟨a3, c3, e3⟩ := hM3.val
         rw [hl3] at e3
         subst e3
         have HM3 := Lib.hid hM3
         clear hM3 hb3 hg3)
      | (go_simp
         go_at_call 64
         refine (mat_Reduce (some ⟨gf, 0, none⟩) n (R.length + 1) c3 (R ++ [q]) a3 w3 (Fp.of HFA.out) HM3.out.rdM HWQ.out hn (by omega)).mono ?_
         rintro e w4 ⟨v4, rfl, hM4, hb4⟩
         rw [HRR.out] at hM4
         obtain ⟨a4, c4, rfl⟩ := hM4.val
         have HM4 := Lib.hid hM4
         have HB4 := Lib.hid hb4
         have HBB := Lib.hid (HBA.out.below hb4 HBA.out.lt)
         have m0 := (blk3s HBB.out).1
         have m2 := (blk3s HBB.out).2.2
         have mf := HBB.out.frozen 2
         clear hM4 hb4
         go_simp))
    all_goals (
    go_wp2_with fail
    go_ret
    obtain ⟨b4, rfl, hb41, hb42⟩ := HM4.out.form hpos
    have hg3 : g < w3.heap.size := HBA.out.lt
    refine ⟨rfl, some b4, ⟨hCg, gf, some ⟨b4, 0, none⟩, c4, ?_, ?_, ?_, by rfl⟩, ?_, .inr ⟨b4, rfl, Nat.le_trans HUA.out.size hb41⟩⟩
    · have := HBB.out.set 2 (.slice (some ⟨b4, 0, none⟩) R2.length c4)
      exact this
    · exact Blk.far (w := w4) (HFA.out.below HB4.out (Blk.lt HFA.out)) (by show gf ≠ g; exact (show HT w gf 100 from ⟨_, HF.out⟩).ne HSS.out.ht (by decide)) _
    · refine (HM4.out.same (C := w3.heap.size) fun k hk _ => heap_setCell_other w4 ⟨g, 2, none⟩ k _ (by show k ≠ g; omega)).base ?_
      exact Nat.le_trans hC HUA.out.size
    · exact (HUA.out.trans (Upd.of HB4.out)).trans (Upd.set w4 g 2 _ o))
theorem span_add_un (C g n m : Nat) (o : Option Nat) (R : List (List Nat)) (a : Option Addr) (c : Nat) (w : World) (hS : SpR w C g n o R) (hne : m ≠ n) :
    Calls Try.prog 73 #[.pointer (some ⟨g, 0, none⟩), .slice a m c] w fun e w' => e = .returned (.bool false) ∧ w = w' := by
  have CR := Lib.hid (span_rest_un C g n m o R a c w hS hne)
  clear hS
  go_enter Try.func73, Try.ntmps73
  go_wp2_with fail
  refine CR.out.mono ?_
  rintro e w1 ⟨rfl, rfl⟩
  go_wp2_with fail
  go_ret
  exact ⟨rfl, rfl⟩
set_option maxRecDepth 100000 in
set_option maxHeartbeats 2000000 in
theorem span_clone (C g n : Nat) (o : Option Nat) (R : List (List Nat)) (w : World) (hS : SpR w C g n o R) (hW : Wf n R) (hn : n ≤ 64) (hl : R.length ≤ 64) :
    Calls Try.prog 80 #[.pointer (some ⟨g, 0, none⟩)] w fun e w' => ∃ g2 o2, e = .returned (.pointer (some ⟨g2, 0, none⟩)) ∧ SpR w' w.heap.size g2 n o2 R ∧ Below w.heap.size w w' := by
  have CR := Lib.hid fun w hS => span_rows C g n o R w hS hW hn hl
  have HSS := Lib.hid hS
  obtain ⟨_, gf, av, cv, hB, hF, hM, _⟩ := hS
  obtain ⟨c0, c1, c2⟩ := blk3s hB
  have hglt := hB.lt
  have HF := Lib.hid hF
  clear hB hF hM hW
  go_enter Try.func80, Try.ntmps80
  go_wp2_with fail
  go_region_held3 (fun w' => w'.cell? ⟨g, 0, none⟩ = some (.pointer (some ⟨gf, 0, none⟩)) ∧ w'.cell? ⟨g, 1, none⟩ = some (.int .i64 n)) (go_keep) (first
      | (go_at_call 75
         refine (CR.out _ (HSS.out.drewN 1)).mono ?_
         rintro e w1 ⟨v, rfl, hM1, hb1⟩
         obtain ⟨a1, c1', rfl⟩ := hM1.val
         have HM1 := Lib.hid hM1
         have HB1 : Hid (Below w.heap.size w w1) := Lib.hid ((below_drewN (Below.refl w.heap.size w) 1).trans hb1)
         have k0 := (HB1.out.cell (p := ⟨g, 0, none⟩) hglt).trans c0
         have k1 := (HB1.out.cell (p := ⟨g, 1, none⟩) hglt).trans c1
         clear hM1 hb1))
  go_wp2_with fail
  go_ret
  have hF1 : Fld w1 gf := HF.out.below HB1.out (Blk.lt HF.out)
  have hb2 : Below w1.heap.size w1 (w1.alloc (.cells #[.pointer (some ⟨gf, 0, none⟩), .int .i64 n, .slice a1 R.length c1'] 109)) := (Below.refl _ _).alloc (Nat.le_refl _) _
  exact ⟨_, _, rfl, ⟨HB1.out.size, gf, a1, c1', Blk.new _ _ _, Blk.alloc hF1 _, HM1.out.new hb2, rfl⟩, HB1.out.alloc HB1.out.size _⟩
end Go.Proofs.Ytfbhbjhfebkpfaa
