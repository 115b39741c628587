/- law07: the walk of choose.Some. -/
import Derived.Test.YtiaoegdpofpneaaChoA
import Derived.Sort.OwnSortedInts
import Derived.StillTailTactics
namespace Go.Proofs.Ytiaoegdpofpneaa
open Go.RowKit Go.Sort
set_option linter.unusedVariables false

theorem make_ints {n : Nat} (hn : n ≤ 1000000) (w : World) : (Instr.makeSlice 30 (.int .i64 (n : Int)) (.int .i64 (n : Int))).run Try.prog w = .ok (.slice (some ⟨w.heap.size, 0, none⟩) n n) (w.alloc (.cells (rowI (upL n 0)) 3)) := by
  obtain ⟨i0, hi, hz0, hz1, hz2⟩ := info_parts info_int
  have h := run_make (P := Try.prog) w 30 3 i0 (.int .i64 0) Try.underlying30 hi hz0 .i64 .i64 (n : Int) (n : Int) (by omega) (by omega) (by rw [hz2]; omega) (by omega)
  rw [hz1, Nat.mul_one, Int.toNat_natCast] at h
  rw [← made_int]
  exact h

set_option maxRecDepth 100000 in
set_option maxHeartbeats 2000000 in
theorem cho_some_un (p : Option Addr) (n k : Int) (w : World) (hno : ¬ (0 ≤ n ∧ n ≤ 64 ∧ 0 ≤ k ∧ k ≤ n)) :
    Calls Try.prog 38 #[.pointer p, .int .i64 n, .int .i64 k] w fun e w' => e = .returned (.slice none 0 0) ∧ w = w' := by
  go_enter Try.func38, Try.ntmps38
  go_wp2_with fail
  all_goals first | omega | (go_ret; exact ⟨rfl, rfl⟩) | skip

set_option maxRecDepth 100000 in
set_option maxHeartbeats 4000000 in
theorem cho_some (p : Option Addr) (s : Int) (n k : Nat) (w : World) (hn : n ≤ 64) (hk : k ≤ n) (hD : Dp w p s) :
    Calls Try.prog 38 #[.pointer p, .int .i64 n, .int .i64 k] w fun e w' => ∃ v, e = .returned v ∧ OwnI w' w.heap.size v (chosen p.isNone n s k) ∧ Below w.heap.size (setD w p (shufS p.isNone n s k)) w' := by
  have hmk := make_ints (n := n) (by omega)
  have g1 : ¬ (n : Int) > 64 := by omega
  have g2 : ¬ (k : Int) > (n : Int) := by omega
  have HD := Lib.hid hD
  clear hD
  go_enter Try.func38, Try.ntmps38
  go_wp2_with (simp only [hmk])
  have hB1 := Blk.new w 3 (rowI (upL n 0))
  have hb1 := (Below.refl w.heap.size w).alloc (Nat.le_refl _) (.cells (rowI (upL n 0)) 3)
  have HB := Lib.hid hB1
  have HBL := Lib.hid hb1
  clear hB1 hb1 hmk
  generalize w.alloc (.cells (rowI (upL n 0)) 3) = w1 at *
  generalize hG : w.heap.size = G at *
  have HG := Lib.hid hG
  clear hG
  go_loopw [8, 31] (fun _ i wr => ∃ j : Nat, j ≤ n ∧ i = .int .i64 j ∧ Hid (Blk wr G 3 (rowI (upL n j))) ∧ Hid (Below G w wr)) (fun _ i _ => n - (intOf i).toNat)
  case atStart => exact ⟨0, by omega, rfl, HB, HBL⟩
  case round =>
    clear HB HBL
    obtain ⟨j, hj, rfl, HB, HBL⟩ := hrel
    by_cases hlt : j < n
    · have hset := HB.out.set j (.int .i64 (j : Nat))
      rw [rowI_set, upL_set hlt] at hset
      have co := (HB.out.cell j).trans (rowI_get (by rw [upL_len (by omega)]; exact hlt))
      have fo := HB.out.frozen j
      have HS := Lib.hid hset
      have HB2 := Lib.hid (HBL.out.setCell (p := ⟨G, j, none⟩) (Nat.le_refl _) (.int .i64 (j : Nat)))
      clear hset HB HBL
      have hlt' : (j : Int) < (n : Int) := by omega
      go_wp2_with fail
      go_roundw
      case rel => exact ⟨j + 1, by omega, by go_num, HS, HB2⟩
      case measure => simp [intOf]; omega
    · obtain rfl : j = n := by omega
      have HB1 : Hid (Blk wr G 3 (rowI (shufL p.isNone j s 0))) := Lib.hid (by have h := HB.out; rw [upL_full] at h; exact h)
      have hD1 : Dp wr p s := HD.out.below HBL.out (by rw [HG.out]; exact Nat.le_refl _)
      have hset0 : Hid (Below G (setD w p s) wr) := Lib.hid (by
        rcases HD.out with h | ⟨b, o, h, h2⟩
        · subst h; exact HBL.out
        · subst h
          show Below G (w.setCell ⟨b, o, none⟩ (.int .u64 s)) wr
          rw [setCell_self w _ _ h2.1]
          exact HBL.out)
      have HD1 := Lib.hid hD1
      have hform := Lib.hid HD.out.form
      have hplt := Lib.hid (show ∀ b o, p = some ⟨b, o, none⟩ → b < G from fun b o h => by rw [← HG.out]; subst h; exact HD.out.lt)
      generalize hnl : p.isNone = nl at *
      have HNL := Lib.hid hnl
      clear HB HBL hD1 HD hnl g1 hlt
      go_wp2_with fail
      go_loopw [9, 10, 40] (fun _ _ i wr => ∃ q : Nat, q ≤ k ∧ i = .int .i64 q ∧ Hid (Blk wr G 3 (rowI (shufL nl j s q))) ∧ Hid (Dp wr p (shufS nl j s q)) ∧ Hid (Below G (setD w p (shufS nl j s q)) wr)) (fun _ _ i _ => k - (intOf i).toNat)
      case atStart => exact ⟨0, by omega, rfl, HB1, HD1, hset0⟩
      case round =>
        clear HB1 HD1 hset0
        obtain ⟨q, hq, rfl, HB, HD, HBL⟩ := hrel
        by_cases hlt : q < k
        · have hqn : q < j := by omega
          have hjj := shuf_j (nl := nl) (s := s) hqn
          have cD := draw_belowD (shufS nl j s q) ((j : Int) - (q : Int)) p wr HD.out (by omega)
          rw [HNL.out] at cD
          have hL1 : Hid (shufL nl j s (q + 1) = swapL (shufL nl j s q) q (q + bN nl (shufS nl j s q) ((j : Int) - (q : Int)))) := Lib.hid rfl
          have hS1 : Hid (shufS nl j s (q + 1) = sN nl (shufS nl j s q) ((j : Int) - (q : Int))) := Lib.hid rfl
          have hlen := shufL_len nl j s q
          have hBb := bN_lt (nl := nl) (s := shufS nl j s q) (n := (j : Int) - (q : Int)) (by omega)
          generalize bN nl (shufS nl j s q) ((j : Int) - (q : Int)) = bb at *
          generalize hs1 : sN nl (shufS nl j s q) ((j : Int) - (q : Int)) = s1 at *
          generalize shufS nl j s q = s0 at *
          generalize shufL nl j s q = L at *
          have CD := Lib.hid cD
          have HLEN := Lib.hid hlen
          have HBb := Lib.hid hBb
          have HS1x := Lib.hid hs1
          clear cD hlen hBb hs1
          have hlt' : (q : Int) < (k : Int) := by omega
          go_wp2_with fail
          refine CD.out.mono ?_
          rintro e w2 ⟨rfl, rfl⟩
          have hB2 := HB.out.setD hplt.out hform.out s1
          have HD2 := Lib.hid (HD.out.put s1)
          have hbl2 := below_setD HBL.out (by rw [setD_size, HG.out]; exact Nat.le_refl _) p s1
          rw [setD_setD _ _ _ _ hform.out] at hbl2
          have HBL2 := Lib.hid hbl2
          obtain ⟨jj, hjje⟩ : ∃ jj, jj = q + bb := ⟨_, rfl⟩
          rw [← hjje] at hjj
          have hjI : (q : Int) + (bb : Int) = (jj : Int) := by omega
          have hbI : (bb : Int) < 64 := by have := HBb.out; omega
          rw [← hjje] at hL1
          have c1 := (hB2.cell q).trans (rowI_get (by rw [HLEN.out]; exact hqn))
          have c2 := (hB2.cell jj).trans (rowI_get (by rw [HLEN.out]; exact hjj))
          have f1 := hB2.frozen q
          have f2 := hB2.frozen jj
          have t1 := (hB2.set q (.int .i64 (L.getD jj 0 : Nat))).set jj (.int .i64 (L.getD q 0 : Nat))
          rw [rowI_set, rowI_set] at t1
          have T1 : Hid (Blk (((setD wr p s1).setCell ⟨G, q, none⟩ (.int .i64 (L.getD jj 0 : Nat))).setCell ⟨G, jj, none⟩ (.int .i64 (L.getD q 0 : Nat))) G 3 (rowI (shufL nl j s (q + 1)))) := Lib.hid (by rw [hL1.out]; exact t1)
          have t3 := (hB2.set q (.int .i64 (L.getD jj 0 : Nat))).frozen jj
          have HJJ := Lib.hid hjje
          clear hB2 hbl2 t1 HB HBL HD hjje CD HBb
          generalize L.getD q 0 = x at *
          generalize L.getD jj 0 = y at *
          generalize setD wr p s1 = w3 at *
          have T2 := Lib.hid ((HBL2.out.setCell (p := ⟨G, q, none⟩) (Nat.le_refl _) (.int .i64 (y : Nat))).setCell (p := ⟨G, jj, none⟩) (Nat.le_refl _) (.int .i64 (x : Nat)))
          have hqI : (q : Int) < (j : Int) := by omega
          have hjjI : (jj : Int) < (j : Int) := by omega
          go_wp2_with fail
          have HLT := Lib.hid hlt
          have T3 := Lib.hid ((HD2.out.far hplt.out q (.int .i64 (y : Nat))).far hplt.out jj (.int .i64 (x : Nat)))
          rw [hS1.out.symm] at T2 T3
          clear hjI hbI hqn hjj hlt hlt' hq
          by_cases hqj : q = jj
          · subst hqj
            obtain rfl : x = y := by rw [c1] at c2; injection c2 with c2; injection c2 with _ c2; omega
            go_region
            go_wp2_with fail
            refine ⟨⟨q + 1, by have := HLT.out; omega, by go_num, Lib.hid T1.out.drew, Lib.hid T3.out, Lib.hid (Below.drew T2.out)⟩, ?_⟩
            have := HLT.out
            simp [intOf]; omega
          · go_region
            go_wp2_with fail
            refine ⟨⟨q + 1, by have := HLT.out; omega, by go_num, Lib.hid T1.out.drew, Lib.hid T3.out, Lib.hid (Below.drew T2.out)⟩, ?_⟩
            have := HLT.out
            simp [intOf]; omega
        · obtain rfl : q = k := by omega
          have hlen := shufL_len nl j s q
          have hr : Rd wr wr.heap.size (some ⟨G, 0, none⟩) q (cellsI ((shufL nl j s q).take q)) := by
            refine ⟨by simp [cellsI]; omega, fun h0 => ⟨G, 0, rfl, HB.out.lt, fun i u hu => ?_⟩⟩
            have hi : i < q := by
              have := (List.getElem?_eq_some_iff.1 hu).1
              simp [cellsI] at this; omega
            rw [Nat.zero_add, HB.out.cell i, rowI_get (by omega)]
            rw [cellsI_get (by rw [List.length_take]; omega)] at hu
            rw [← hu]
            simp only [List.getD_eq_getElem?_getD, List.getElem?_take, if_pos hi]
          have CC := Lib.hid (clone_int ⟨G, 0, none⟩ q j _ wr hr (cellsI_one _) (by omega))
          have HLS : Hid (((shufL nl j s q).take q).length = q) := Lib.hid (by rw [List.length_take]; omega)
          have hch : Hid (chosen nl j s q = ((shufL nl j s q).take q).mergeSort leB) := Lib.hid rfl
          generalize (shufL nl j s q).take q = Z at *
          clear hr hlen HB HD
          have hqj : q ≤ j := hk
          go_wp2_with fail
          refine CC.out.mono ?_
          rintro e w5 ⟨v5, rfl, ho5, hb5, hne5⟩
          obtain ⟨g, cap, cur, rfl, hg5, hblk5, hcap1, hcap2, hcsz, hct⟩ : ∃ g cap cur, v5 = .slice (some ⟨g, 0, none⟩) q cap ∧ wr.heap.size ≤ g ∧ w5.heap[g]? = some (.cells cur 3 (0, 0)) ∧ q ≤ cap ∧ cap ≤ maxLen ∧ cur.size = cap * 1 ∧ cur.toList.take (q * 1) = cellsI Z := by
            rcases ho5.2 with ⟨h, _⟩ | h
            · exact absurd h hne5
            · exact h
          have hzl : (Z.map fun x : Nat => (x : Int)).length = q := by rw [List.length_map]; exact HLS.out
          have hZ : cellsI Z = (Z.map fun x : Nat => (x : Int)).map (Value.int .i64) := by simp [cellsI]
          have hH := holds_of_blockI (ss := Z.map fun x : Nat => (x : Int)) hblk5 (by rw [hzl, ← hZ, ← Nat.mul_one q]; exact hct)
          have cS := Try.slices_Sort_int g 0 cap (Z.map fun x : Nat => (x : Int)) w5 hH (Array.getElem?_eq_some_iff.1 hblk5).1 (by rw [hzl]; omega)
          rw [hzl] at cS
          have hms : (Z.map fun x : Nat => (x : Int)).mergeSort (fun x y => decide (x ≤ y)) = (Z.mergeSort leB).map fun x : Nat => (x : Int) := by
            refine (List.map_mergeSort ?_).symm
            intro a _ b _
            simp [leB]
          have hfin := Lib.hid fun n os => ownsRow_sortedI (n := n) (os := os) (ts := (Z.mergeSort leB).map fun x : Nat => (x : Int)) (ss := Z.map fun x : Nat => (x : Int)) (by rw [List.length_map, (sort_perm Z).length_eq, List.length_map]) hg5 hblk5 (by rw [hzl]; exact hcap1) hcap2 hcsz
          rw [hzl] at hfin
          rw [hms] at cS
          have CS := Lib.hid cS
          have HB5 := Lib.hid (HBL.out.trans (hb5.mono (by have h := HBL.out.size; rw [setD_size, HG.out] at h; exact h)))
          have HG5 := Lib.hid (show G ≤ g from Nat.le_trans (by have h := HBL.out.size; rw [setD_size, HG.out] at h; exact h) hg5)
          have HW5 := Lib.hid (show G ≤ wr.heap.size from by have h := HBL.out.size; rw [setD_size, HG.out] at h; exact h)
          clear hH cS hms hZ ho5 hb5 hne5 hblk5 hcap1 hcap2 hcsz hct hzl hg5 HBL CC
          go_wp2_with fail
          refine CS.out.mono ?_
          rintro e w6 ⟨rfl, n6, os, rfl⟩
          have HO := Lib.hid (hfin.out n6 os)
          have HB6 := Lib.hid (HB5.out.grown (grownBy_sortedI (w := w5) (g := g) (n := n6) (os := os) ((Z.mergeSort leB).map fun x : Nat => (x : Int)).toArray) (by have := HW5.out; have h := HB5.out.size; rw [setD_size, HG.out] at h; exact h) (fun g' hg' => by cases hg'; exact HG5.out))
          generalize grow _ os = w7 at *
          clear hfin CS HB5
          go_wp2_with fail
          go_ret
          refine ⟨_, rfl, ?_, by rw [HG.out, HNL.out]; exact HB6.out⟩
          rw [HNL.out, hch.out]
          have h := HO.out
          show World.ownsRow _ _ _ _ _ _ (cellsI _)
          rw [(sort_perm Z).length_eq, HLS.out, HG.out, show cellsI (Z.mergeSort leB) = ((Z.mergeSort leB).map fun x : Nat => (x : Int)).map (Value.int .i64) by simp [cellsI]]
          exact own_base h HW5.out
end Go.Proofs.Ytiaoegdpofpneaa
