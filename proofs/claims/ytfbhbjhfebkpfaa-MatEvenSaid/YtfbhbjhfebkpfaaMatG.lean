/- The walk of mat.Solve. -/
import Derived.Test.YtfbhbjhfebkpfaaMatF
namespace Go.Proofs.Ytfbhbjhfebkpfaa
open Go.RowKit
set_option linter.unusedVariables false

set_option maxRecDepth 100000 in
set_option maxHeartbeats 8000000 in
theorem mat_Solve (p : Option Addr) (n k m c d : Nat) (A B : List (List Nat)) (a b : Option Addr) (w : World) (hF : Fp w p) (hA : RdM w w.heap.size a m A) (hB : RdM w w.heap.size b m B) (hWA : Wf n A) (hWB : Wf k B) (hn : n ≤ 64) (hk : k ≤ 64) (hm : m ≤ 1000000) (h0 : 0 < m) :
    Calls Try.prog 68 #[.pointer p, .slice a m c, .slice b m d] w fun e w' => ∃ v, e = .returned (.tuple #[v, .int .i64 (solC n A B : Nat)]) ∧ MOwn w' w.heap.size v (solR n A B) ∧ Below w.heap.size w w' := by
  have C1 := Lib.hid (mat_may n m A _ a c w hA hWA hn hm)
  have C2 := Lib.hid (mat_may k m B _ b d w hB hWB hk hm)
  have C3 := Lib.hid (mat_width A _ a m c w hA hm)
  rw [wid_eq hWA (fun e => by rw [e] at hA; have := hA.len; simp at this; omega)] at C3
  have C4 := Lib.hid (mat_own A _ a m c w hA (Nat.le_refl _) (fun l hl => by have := (hWA l hl).1; omega) hm)
  have hne : ((m : Int) != (m : Int)) = false := by simp
  have hm0 : ((m : Int) == 0) = false := by rw [beq_eq_false_iff_ne]; omega
  have HB := Lib.hid hB
  have HLA := Lib.hid hA.len
  have HLB := Lib.hid hB.len
  have HWA := Lib.hid hWA
  have HWB := Lib.hid hWB
  have HF := Lib.hid hF
  have HAB : Hid (A.length = B.length) := Lib.hid (by rw [hA.len, hB.len])
  clear hA hB hWA hWB hF
  go_enter Try.func68, Try.ntmps68
  go_wp2_with fail
  refine C1.out.mono ?_
  rintro e w1 ⟨rfl, rfl⟩
  go_wp2_with fail
  refine C2.out.mono ?_
  rintro e w1 ⟨rfl, rfl⟩
  go_wp2_with fail
  refine C3.out.mono ?_
  rintro e w1 ⟨rfl, rfl⟩
  go_wp2_with fail
  refine C4.out.mono ?_
  rintro e w1 ⟨g, c', rfl, hM, hb⟩
  have HM0 : Hid (MOwn w1 w.heap.size (.slice (some ⟨g, 0, none⟩) m c') (sideK A B 0)) := Lib.hid hM
  have HBL := Lib.hid hb
  have hgG : w.heap.size ≤ g := by obtain ⟨g2, e, h1, _⟩ := hM.form h0; injection e with e; injection e with e; omega
  clear hM hb C1 C2 C3 C4
  generalize hG : w.heap.size = G at *
  have HG := Lib.hid hG
  clear hG
  go_wp2_with fail
  go_loopw [10, 43] (fun _ i wr => ∃ r : Nat, r ≤ m ∧ i = .int .i64 r ∧ Hid (MOwn wr G (.slice (some ⟨g, 0, none⟩) m c') (sideK A B r)) ∧ Hid (Below G w wr)) (fun _ i _ => m - (intOf i).toNat)
  case atStart => exact ⟨0, by omega, rfl, HM0, HBL⟩
  case round =>
    clear HM0 HBL
    obtain ⟨r, hr, rfl, HM, HBL⟩ := hrel
    have hGr : G ≤ wr.heap.size := by have := HBL.out.size; have := HG.out; omega
    by_cases hrm : r < m
    · have hrmI : (r : Int) < (m : Int) := by omega
      have hrA : r < A.length := by rw [HLA.out]; exact hrm
      have hrow := sideK_row HAB.out hrA
      obtain ⟨ar, cr, hcr, hfr, hor⟩ := HM.out.at2 hrm (r := n) (by rw [hrow]; exact (HWA.out.get hrA).1)
      rw [hrow] at hor
      obtain ⟨bB, oB, aB, cB, rfl, hbB, hcB, hrB, hnB, -, -⟩ := (HB.out.below HBL.out (Nat.le_refl _)).at hrm
      have hgB := HWB.out.get (i := r) (by rw [← HAB.out]; exact hrA)
      have hgA := HWA.out.get hrA
      rw [hgB.1] at hcB hrB
      have HST := Lib.hid (sideK_set HAB.out hrA)
      have HOR := Lib.hid hor
      have HRB : Hid (Rd wr.drew G aB k (cellsB (B.getD r []))) := Lib.hid hrB
      have HNB := Lib.hid hnB
      have hhd : Hid ((Value.slice ar n cr).ownBlock = none ∨ (Value.slice ar n cr).ownBlock ≠ some g) := Lib.hid (by
        obtain ⟨vs, h⟩ := HM.out
        have := own_ne hor h.hd tne_hd
        simpa [Value.ownBlock] using this)
      have hown : wr.drew.ownsRow G 5 1 (.slice ar n cr) n (cellsB (A.getD r [])) := by
        have h := hor
        unfold OwnB at h
        rw [hgA.1] at h
        exact h
      have hhb : Hid ((Value.slice ar n cr).ownBlock ≠ some bB) := Lib.hid (fun e => by have := (hown.lt _ e).1; omega)
      have HOW := Lib.hid hown
      have HGA := Lib.hid hgA
      have HGB := Lib.hid hgB
      have HONE := Lib.hid (cellsB_one (B.getD r []))
      have hgr : g < wr.heap.size := by obtain ⟨g2, e, _, h2⟩ := HM.out.form h0; injection e with e; injection e with e; omega
      clear hor hrow hrB hnB hown hgA hgB
      have HCR := Lib.hid hcr
      have HFR := Lib.hid hfr
      have HCB := Lib.hid hcB
      go_wp2_with fail
      go_region_law (first
          | (refine step_appAt (P := Try.prog) (w := wr.drew) rfl _ _ 49 rfl G 5 (.int .u8 0) 1 Try.underlying49 infoS_u8 rfl (.slice ar n cr) n (cellsB (A.getD r [])) rfl HOW.out G aB k cB (cellsB (B.getD r [])) rfl HNB.out HRB.out HONE.out (by omega) (by unfold maxLen; omega) (by exact hGr) ?_
             intro v' w2 hown2 hg2 hat2
             obtain ⟨a2, c2, rfl, -⟩ := rd_of_own hown2
             have hgb2 : w2.heap[g]? = wr.heap[g]? := hg2.block g hgr (hhd.out.elim (fun h => by rw [h]; simp) (fun h e => h e.symm))
             have kc : w2.cell? ⟨g, r, none⟩ = some (.slice ar n cr) := (World.cell?_of_block (w := wr) (a := ⟨g, r, none⟩) hgb2).trans HCR.out
             have hgb3 : w2.heap[bB]? = wr.heap[bB]? := hg2.block bB (by have := hbB; have : wr.drew.heap.size = wr.heap.size := rfl; omega) (fun e => hhb.out e.symm)
             have kb : w2.cell? ⟨bB, oB + r, none⟩ = some (.slice aB k cB) := (World.cell?_of_block (w := wr) (a := ⟨bB, oB + r, none⟩) hgb3).trans HCB.out
             have kf : w2.frozen? ⟨g, r, none⟩ = false := (World.frozen?_of_block (w := wr) (a := ⟨g, r, none⟩) hgb2).trans HFR.out))
      all_goals (
        have ho2 : OwnB w2 G (.slice a2 (n + k) c2) (A.getD r [] ++ B.getD r []) := by
          unfold OwnB
          rw [List.length_append, HGA.out.1, HGB.out.1]
          have e : cellsB (A.getD r [] ++ B.getD r []) = cellsB (A.getD r []) ++ cellsB (B.getD r []) := by simp [cellsB]
          rw [e]; exact hown2
        have hg3 : wr.grownBy w2 (Value.slice ar n cr).ownBlock := grownBy_trans (grownBy_drewN (grownBy_refl wr _) 1) hg2
        have hM3 := HM.out.reput hrm HCR.out hg3 ho2 (hat2.elim (fun h => .inl h) (fun h => .inr (by rw [h]; rfl)))
        rw [HST.out] at hM3
        have HB3 := Lib.hid ((HBL.out.trans (below_grownBy hg3 (fun g hg => (HOR.out.lt g hg).1) hGr)).setCell (p := ⟨g, r, none⟩) hgG (.slice a2 (n + k) c2))
        have HM3 := Lib.hid hM3
        clear hM3 hg3 ho2 hown2 hg2 hat2 kc kf hgb2
        clear HM HBL hcr hfr HOR HOW HRB HNB hhd HST HGA HGB HONE HCR HFR hcB
        generalize w2.setCell ⟨g, r, none⟩ (.slice a2 (n + k) c2) = w4 at *
        go_wp2_with fail
        go_roundw
        case rel => first | exact ⟨r + 1, by omega, by go_num, HM3, HB3⟩ | ((repeat apply Exists.intro); exact ⟨⟨r + 1, by omega, by go_num, HM3, HB3⟩, rfl⟩)
        case measure => simp [intOf]; omega)
    · obtain rfl : r = m := by omega
      have hS : sideK A B r = sideM A B := by rw [← HLA.out]; exact sideK_full HAB.out
      rw [hS] at HM
      clear hS hrm
      have hWS := Lib.hid (sideM_wf HAB.out HWA.out HWB.out)
      have HSL : Hid ((sideM A B).length = r) := Lib.hid (by rw [sideM_len HAB.out]; exact HLA.out)
      have hF1 : Hid (Fp wr p) := Lib.hid (HF.out.below HBL.out (by rw [HG.out]; exact Nat.le_refl _))
      go_wp2_with fail
      refine (mat_sure p wr hF1.out).mono ?_
      rintro e w2 ⟨gf, rfl, hfl, hb⟩
      have HM2 := Lib.hid (HM.out.new hb)
      have HB2 := Lib.hid (HBL.out.trans (hb.mono (by have := HBL.out.size; have := HG.out; omega)))
      have HFL := Lib.hid hfl
      clear hfl hb HM HBL hF1 HF
      have hG2 : G ≤ w2.heap.size := by have := HB2.out.size; have := HG.out; omega
      have CR := Lib.hid (mat_reduce gf (n + k) r n c' G (sideM A B) (some ⟨g, 0, none⟩) w2 HFL.out HM2.out hWS.out (by omega) hG2 hm (by omega))
      obtain ⟨ls, hinv⟩ := redF_inv hWS.out n
      have hle := hinv.le
      rw [redF_len, HSL.out] at hle
      have HWX := Lib.hid hinv.wf
      have HXL : Hid ((redF (sideM A B) n).1.length = r) := Lib.hid (by rw [redF_len]; exact HSL.out)
      have hrn : (redF (sideM A B) n).2 ≤ n := by
        have := hinv.up
        rw [← hinv.cnt]
        exact up_le hinv.up hinv.lt
      have HC : Hid (solC n A B = if (redF (sideM A B) n).2 < n then 9 else if clashB (redF (sideM A B) n).1 (redF (sideM A B) n).2 then 10 else 0) := Lib.hid rfl
      have HR : Hid (solR n A B = if solC n A B = 0 then ((redF (sideM A B) n).1.take (redF (sideM A B) n).2).map (List.drop n) else []) := Lib.hid rfl
      have hcap : r ≤ c' := HM2.out.caps.2.1
      clear hinv hWS HSL
      generalize (redF (sideM A B) n).1 = X at *
      generalize (redF (sideM A B) n).2 = q at *
      go_wp2_with fail
      refine CR.out.mono ?_
      rintro e w3 ⟨rfl, hM, hb⟩
      have HM3 := Lib.hid hM
      have HB3 := Lib.hid (HB2.out.trans hb)
      clear hM hb HM2 HB2 CR HFL
      have hqc : q ≤ c' := by omega
      by_cases hqn : q < n
      · have hqnI : (q : Int) < (n : Int) := by omega
        have e1 : solC n A B = 9 := by rw [HC.out, if_pos hqn]
        have e2 : solR n A B = [] := by rw [HR.out, e1, if_neg (by decide)]
        have E1 := Lib.hid e1
        have E2 := Lib.hid e2
        clear HC HR e1 e2
        go_wp2_with fail
        go_ret2
        exact ⟨_, by rw [E1.out]; rfl, by rw [E2.out]; exact MOwn.nil _ _, by rw [HG.out]; exact HB3.out⟩
      · have hqnI : ¬ (q : Int) < (n : Int) := by omega
        obtain rfl : q = n := by omega
        have hRD := HM3.out.rdM.drop hcap hle
        have HXD : Hid ((X.drop q).length = r - q) := Lib.hid (by rw [List.length_drop, HXL.out])
        have HWD : Hid (Wf (q + k) (X.drop q)) := Lib.hid (fun x hx => HWX.out x (List.mem_of_mem_drop hx))
        have HC2 : Hid (solC q A B = if clashB X q then 10 else 0) := Lib.hid (by rw [HC.out, if_neg (by omega)])
        have hqq : ¬ (q : Int) < (q : Int) := by omega
        clear HC hqnI hqn
        by_cases hcq : c' = q
        case' pos =>
          rw [if_pos hcq] at hRD
          have HRD := Lib.hid hRD
          clear hRD
          go_wp2_with fail
        case' neg =>
          rw [if_neg hcq] at hRD
          have hRD : RdM w3 w3.heap.size (some ⟨g, q, none⟩) (r - q) (X.drop q) := by
            simpa [Addr.add_lit] using hRD
          have HRD := Lib.hid hRD
          clear hRD
          go_wp2_with fail
        all_goals (
          clear hcq
          generalize hrt : r - q = t at *
          have HRT := Lib.hid hrt
          have ht6 : t ≤ 1000000 := by omega
          clear hrt
          go_loopw [13, 71] (fun _ i wr => ∃ j : Nat, j ≤ t ∧ i = .int .i64 j ∧ Hid (∃ z, wr = w3.drewN z) ∧ Hid (∀ y, y < j → leadI ((X.drop q).getD y []) < 0)) (fun _ i _ => t - (intOf i).toNat)
          case atStart => exact ⟨0, by omega, rfl, Lib.hid ⟨0, rfl⟩, Lib.hid (fun y h => by omega)⟩
          case round =>
            obtain ⟨j, hj, rfl, HJ, HN⟩ := hrel
            obtain ⟨z, hz⟩ := HJ.out
            clear HJ
            by_cases hjt : j < t
            · have hjtI : (j : Int) < (t : Int) := by omega
              obtain ⟨b1, o1, a1, c1, e1, hb1, hc1, hr1, -, -, -⟩ := HRD.out.at hjt
              have k1 : wr.cell? ⟨b1, o1 + j, none⟩ = some (.slice a1 ((X.drop q).getD j []).length c1) := by rw [hz]; exact hc1
              have hgj := HWD.out.get (i := j) (by rw [HXD.out]; exact hjt)
              have CL := Lib.hid (row_lead ((X.drop q).getD j []) w3.heap.size a1 ((X.drop q).getD j []).length c1 wr (by rw [hz]; exact hr1) (by unfold By; exact hgj.2) (by unfold maxLen; rw [hgj.1]; omega))
              rw [hgj.1] at k1 CL
              cases e1
              try simp only [Nat.zero_add] at k1
              have HYES : Hid (0 ≤ leadI ((X.drop q).getD j []) → solC q A B = 10 ∧ solR q A B = []) := Lib.hid (fun h => by
                have h1 : solC q A B = 10 := by rw [HC2.out, clash_yes (by rw [HXD.out]; exact hjt) h]; rfl
                exact ⟨h1, by rw [HR.out, h1, if_neg (by decide)]⟩)
              have HNO : Hid (leadI ((X.drop q).getD j []) < 0 → ∀ y, y < j + 1 → leadI ((X.drop q).getD y []) < 0) := Lib.hid (fun h y hy => by
                rcases Nat.lt_or_ge y j with h1 | h1
                · exact HN.out y h1
                · rw [show y = j by omega]; exact h)
              have HZ := Lib.hid hz
              clear hc1 hr1 hgj HN hz
              generalize leadI ((X.drop q).getD j []) = ld at *
              by_cases hld : 0 ≤ ld
              · obtain ⟨E1, E2⟩ := HYES.out hld
                have HE1 := Lib.hid E1
                have HE2 := Lib.hid E2
                clear E1 E2 HYES HNO
                go_wp2_with fail
                refine CL.out.mono ?_
                rintro e w4 ⟨rfl, z2, rfl⟩
                go_wp2_with fail
                go_ret2
                exact ⟨_, by rw [HE1.out]; rfl, by rw [HE2.out]; exact MOwn.nil _ _, by rw [HG.out, HZ.out]; exact below_drewN (below_drewN HB3.out z) z2⟩
              · have HN2 := Lib.hid (HNO.out (by omega))
                clear HYES HNO
                go_wp2_with fail
                refine CL.out.mono ?_
                rintro e w4 ⟨rfl, z2, rfl⟩
                go_wp2_with fail
                go_roundw
                case rel => exact ⟨j + 1, by omega, by go_num, Lib.hid ⟨z + z2, by rw [HZ.out, World.drewN_drewN]⟩, HN2⟩
                case measure => simp [intOf]; omega
            · obtain rfl : j = t := by omega
              have HE1 : Hid (solC q A B = 0) := Lib.hid (by rw [HC2.out, clash_no (fun y hy => by have := HN.out y (by rw [HXD.out] at hy; exact hy); omega)]; rfl)
              have HM4 : Hid (MOwn wr G (.slice (some ⟨g, 0, none⟩) r c') X) := Lib.hid (by rw [hz]; exact HM3.out.drewN z)
              have HB4 : Hid (Below G w wr) := Lib.hid (by rw [hz]; exact below_drewN HB3.out z)
              have HE2 : Hid (solR q A B = (X.take q).map (List.drop q)) := Lib.hid (by rw [HR.out, if_pos HE1.out])
              clear HN hz HM3 HB3 HRD HC2 HR HRT
              have HT4 := Lib.hid (HM4.out.take hle).rdM
              have HTL : Hid ((X.take q).length = q) := Lib.hid (by rw [List.length_take, HXL.out]; omega)
              have HWT : Hid (Wf (q + k) (X.take q)) := Lib.hid (fun x hx => HWX.out x (List.mem_of_mem_take hx))
              have hq0 : 0 ≤ q := Nat.zero_le _
              have HQL : Hid (((X.take q).map (List.drop q)).length = q) := Lib.hid (by rw [List.length_map]; exact HTL.out)
              have HSTP : Hid (∀ y, y < q → ((X.take q).map (List.drop q)).take (y + 1) = ((X.take q).map (List.drop q)).take y ++ [((X.take q).getD y []).drop q]) := Lib.hid (fun y hy => by
                have hyl : y < ((X.take q).map (List.drop q)).length := by rw [HQL.out]; exact hy
                have h1 : ((X.take q).map (List.drop q))[y]? = some (((X.take q).getD y []).drop q) := by
                  rw [List.getElem?_map, getD_some (M := X.take q) (by rw [HTL.out]; exact hy)]; rfl
                rw [List.getElem?_eq_getElem hyl] at h1
                rw [List.take_succ_eq_append_getElem hyl, Option.some.inj h1])
              have HMO : Hid (MOwn wr wr.heap.size (.slice none 0 0) (((X.take q).map (List.drop q)).take 0)) := Lib.hid (MOwn.nil _ _)
              have HBO : Hid (Below wr.heap.size wr wr) := Lib.hid (Below.refl _ _)
              have hGW : G ≤ wr.heap.size := by have := HB4.out.size; have := HG.out; omega
              clear HM4 HXL HXD HWD HWX
              generalize (X.take q).map (List.drop q) = RR at *
              generalize X.take q = XT at *
              rename World => wo
              go_wp2_with fail
              go_loopw [14, 16, 83] (fun o _ i wr => ∃ y : Nat, y ≤ q ∧ i = .int .i64 y ∧ Hid (MOwn wr wo.heap.size o (RR.take y)) ∧ Hid (Below wo.heap.size wo wr)) (fun _ _ i _ => q - (intOf i).toNat)
              case atStart => exact ⟨0, by omega, rfl, HMO, HBO⟩
              case round =>
                clear HMO HBO
                obtain ⟨y, hy, rfl, HMO, HBO⟩ := hrel
                by_cases hyq : y < q
                · have hyqI : (y : Int) < (q : Int) := by omega
                  obtain ⟨b1, o1, a1, c1, e1, hb1, hc1, hr1, hn1, hl1, hm1⟩ := (HT4.out.below HBO.out (Nat.le_refl _)).at hyq
                  have hgy := HWT.out.get (i := y) (by rw [HTL.out]; exact hyq)
                  rw [hgy.1] at hc1 hr1 hl1
                  cases e1
                  rw [Nat.zero_add] at hc1
                  have hq1 : 1 ≤ q := by omega
                  have hqc1 : q ≤ c1 := by omega
                  have hrr := rd_rest hr1 hl1 (n := q) (by omega)
                  rw [Nat.add_sub_cancel_left] at hrr
                  have hnn := nil_rest hn1 hq1 hqc1
                  have hBs : wo.heap.size ≤ wr.heap.size := HBO.out.size
                  have HST := Lib.hid (HSTP.out y hyq)
                  have hkk : q + k - q = k := by omega
                  have HMT : (RR.take y).length ≤ 1000000 := by rw [List.length_take]; omega
                  have hmm1 : (c1 : Int) ≤ 9223372036854775807 := by unfold maxLen at hm1; omega
                  clear hr1 hn1 hgy
                  generalize (XT.getD y []).drop q = Y at *
                  by_cases hcq1 : c1 = q
                  case' pos =>
                    rw [if_pos hcq1] at hrr hnn
                    have CC := Lib.hid (bytes_clone Y wo.heap.size a1 k 0 wr hrr hBs (fun e => rfl) (by omega))
                    clear hrr hnn
                    go_wp2_with fail
                  case' neg =>
                    rw [if_neg hcq1] at hrr hnn
                    have CC := Lib.hid (bytes_clone Y wo.heap.size (Option.map (fun x => x.add q) a1) k (c1 - q) wr hrr hBs hnn (by omega))
                    clear hrr hnn
                    go_wp2_with fail
                  all_goals (
                    refine CC.out.mono ?_
                    rintro e w5 ⟨u, rfl, hu, hb5⟩
                    obtain ⟨ua, uc, rfl, -⟩ := hu.rd
                    have HU := Lib.hid hu
                    have HB5 := Lib.hid hb5
                    clear hu hb5 CC hcq1
                    go_wp2_with (at_builtin; refine wp_appRow (w0 := wr) (w1 := w5) rfl _ _ rfl HMO.out HB5.out HU.out hBs HMT rfl rfl ?_)
                    intro v' w6 hM6 hb6 hg6 hat6
                    rw [← HST.out] at hM6
                    have HM6 := Lib.hid hM6
                    have HB6 := Lib.hid (HBO.out.trans hb6)
                    clear hM6 hb6 hg6 hat6 HMO HBO HB5 HU HST
                    go_wp2_with fail
                    go_roundw
                    case rel => first | exact ⟨y + 1, by omega, by go_num, HM6, HB6⟩ | ((repeat apply Exists.intro); exact ⟨⟨y + 1, by omega, by go_num, HM6, HB6⟩, rfl⟩)
                    case measure => simp [intOf]; omega)
                · obtain rfl : y = q := by omega
                  rw [List.take_of_length_le (by rw [HQL.out]; exact Nat.le_refl _)] at HMO
                  have HFI : Hid (MOwn wr G u14 RR) := Lib.hid (HMO.out.base hGW)
                  have HBF := Lib.hid (HB4.out.trans (HBO.out.mono hGW))
                  go_wp2_with fail
                  go_ret2
                  exact ⟨_, by rw [HE1.out]; rfl, by rw [HE2.out, HG.out]; exact HFI.out, by rw [HG.out]; exact HBF.out⟩)
end Go.Proofs.Ytfbhbjhfebkpfaa
