/- law08: the example of the document; the rows ahead are new memory each time. -/
import Derived.Test.YtfbhbjhfebkpfaaPreC
import Derived.Test.YtfbhbjhfebkpfaaEven
namespace Go.Proofs.Ytfbhbjhfebkpfaa
open Go.RowKit
set_option linter.unusedVariables false

theorem pre_rows_box (K H : Nat) (S : Int) (hK : 1 ≤ K ∧ K ≤ 16) (hH : 1 ≤ H ∧ H ≤ 4) (hS : 1 ≤ S ∧ S ≤ 24) (G : Nat) (cs : Array Value) (w : World) (hx : Blk w G 40 cs) :
    Calls Try.prog 43 #[.agg #[.int .i64 K, .int .i64 H, .int .i64 S]] w fun e w' => ∃ g c, e = .returned (.slice (some ⟨g, 0, none⟩) H c) ∧ w.heap.size ≤ g ∧ MOwn w' w.heap.size (.slice (some ⟨g, 0, none⟩) H c) (aheadR K H H) ∧ Blk w' G 40 cs ∧ Below w.heap.size w w' :=
  (pre_rows_yes K H S w hK hH hS).mono fun e w' ⟨v, h1, h2, h3⟩ => by
    obtain ⟨a, c, rfl⟩ := h2.val
    rw [aheadR_len] at h1 h2
    obtain ⟨g, rfl, h4, h5⟩ := h2.form (by omega)
    exact ⟨g, c, h1, h4, h2, hx.below h3 hx.lt, h3⟩
theorem ref_ahead_box (K H : Nat) (S : Int) (hK : 1 ≤ K ∧ K ≤ 16) (hH : 1 ≤ H ∧ H ≤ 4) (hS : 1 ≤ S ∧ S ≤ 24) (G : Nat) (cs : Array Value) (w : World) (hx : Blk w G 40 cs) :
    Calls Try.prog 44 #[.agg #[.int .i64 K, .int .i64 H, .int .i64 S]] w fun e w' => ∃ g c, e = .returned (.slice (some ⟨g, 0, none⟩) H c) ∧ w.heap.size ≤ g ∧ MOwn w' w.heap.size (.slice (some ⟨g, 0, none⟩) H c) (aheadR K H H) ∧ Blk w' G 40 cs ∧ Below w.heap.size w w' :=
  (ref_ahead_yes K H S w hK hH hS).mono fun e w' ⟨v, h1, h2, h3⟩ => by
    obtain ⟨a, c, rfl⟩ := h2.val
    rw [aheadR_len] at h1 h2
    obtain ⟨g, rfl, h4, h5⟩ := h2.form (by omega)
    exact ⟨g, c, h1, h4, h2, hx.below h3 hx.lt, h3⟩

set_option maxRecDepth 100000 in
set_option maxHeartbeats 4000000 in
theorem wakes08 (w : World) :
    Calls Try.prog 45 #[] w fun e w' => e = .returned (.bool true) ∧ Below w.heap.size w w' := by
  have CR := Lib.hid (pre_rows_yes 1 1 1 w (by omega) (by omega) (by omega))
  unfold parV at CR
  go_enter Try.func45, Try.ntmps45
  go_wp2_with fail
  refine CR.out.mono ?_
  rintro e w1 ⟨v, rfl, hM, hb⟩
  obtain ⟨a, c, rfl⟩ := hM.val
  rw [aheadR_len] at hM ⊢
  obtain ⟨g, rfl, hg, hg2⟩ := hM.form (by omega)
  obtain ⟨bR, oR, aR, cR, e1, hbR, hcR, hrR, -⟩ := hM.rdM.at (i := 0) (by omega)
  injection e1 with e1
  injection e1 with e1 e2
  subst e1 e2
  have hrow : (aheadR 1 1 1).getD 0 [] = [3, 1] := by decide +kernel
  rw [hrow] at hcR hrR
  have HR := Lib.hid hrR
  have HB := Lib.hid hb
  clear hM hrR hb CR
  go_wp2_with fail
  have r1 := lit_rd w1 [3, 1] w1.heap.size rfl 2 rfl _ rfl
  have r2 := (HR.out.below ((Below.refl w1.heap.size w1).alloc (Nat.le_refl _) (.cells #[.int .u8 3, .int .u8 1] 5)) (Nat.le_refl _)).more (show w1.heap.size ≤ (w1.alloc (.cells #[.int .u8 3, .int .u8 1] 5)).heap.size by simp)
  have CS := Lib.hid (same_B [3, 1] aR (some ⟨w1.heap.size, 0, none⟩) 2 cR 2 _ r2 r1 (by omega))
  have HB2 := Lib.hid (HB.out.alloc HB.out.size (.cells #[.int .u8 3, .int .u8 1] 5))
  clear r1 r2 HR HB
  refine CS.out.mono ?_
  rintro e w2 ⟨rfl, z, rfl⟩
  go_wp2_with fail
  go_ret
  exact ⟨rfl, below_drewN HB2.out z⟩

theorem wf_put {N : Nat} {M : List (List Nat)} (h : Wf N M) {i j x : Nat} (hi : i < M.length) (hx : x < 256) : Wf N (M.set i ((M.getD i []).set j x)) := by
  intro l hl
  rcases List.mem_or_eq_of_mem_set hl with h1 | h1
  · exact h l h1
  · subst h1
    have h2 := h.get hi
    refine ⟨by rw [List.length_set]; exact h2.1, fun y hy => ?_⟩
    rcases List.mem_or_eq_of_mem_set hy with h3 | h3
    · exact h2.2 y h3
    · subst h3; exact hx
theorem mod_bd (a : Int) (m : Int) (hm : 0 < m) : 0 ≤ a % m ∧ a % m < m := ⟨Int.emod_nonneg a (by omega), Int.emod_lt_of_pos a hm⟩

set_option maxRecDepth 100000 in
set_option maxHeartbeats 8000000 in
theorem preOwn_walk (w : World) (a : Int) (ha : -9223372036854775808 ≤ a ∧ a ≤ 9223372036854775807) (b : Int) (hb : -9223372036854775808 ≤ b ∧ b ≤ 9223372036854775807) (c : Int) (hc : -9223372036854775808 ≤ c ∧ c ≤ 9223372036854775807) :
    Calls Try.prog 9 #[.int .i64 a, .int .i64 b, .int .i64 c] w fun e w' => e = .returned (.bool true) ∧ Below w.heap.size w w' := by
  have CP := Lib.hid (play_params a b c w ha hb hc)
  obtain ⟨K, hK1, hK⟩ : ∃ K : Nat, (K : Int) = 1 + a % 16 ∧ 1 ≤ K ∧ K ≤ 16 := ⟨(1 + a % 16).toNat, by have := mod_bd a 16 (by omega); omega, by have := mod_bd a 16 (by omega); omega⟩
  obtain ⟨H, hH1, hH⟩ : ∃ H : Nat, (H : Int) = 1 + b % 4 ∧ 1 ≤ H ∧ H ≤ 4 := ⟨(1 + b % 4).toNat, by have := mod_bd b 4 (by omega); omega, by have := mod_bd b 4 (by omega); omega⟩
  obtain ⟨S, hS1, hS⟩ : ∃ S : Int, S = 1 + c % 24 ∧ 1 ≤ S ∧ S ≤ 24 := ⟨1 + c % 24, rfl, by have := mod_bd c 24 (by omega); omega⟩
  rw [← hK1, ← hH1, ← hS1] at CP
  clear hK1 hH1 hS1 ha hb hc
  unfold parV at CP
  go_enter Try.func9, Try.ntmps9
  go_wp2_with fail
  refine CP.out.mono ?_
  rintro e w1 ⟨rfl, hb⟩
  have HB := Lib.hid hb
  clear hb CP
  go_wp2_with fail
  have HX := Lib.hid (Blk.new w1 40 #[.int .i64 K, .int .i64 H, .int .i64 S])
  have HB1 := Lib.hid (HB.out.alloc HB.out.size (.cells #[.int .i64 K, .int .i64 H, .int .i64 S] 40))
  have CR := Lib.hid fun G cs w hx => pre_rows_box K H S hK hH hS G cs w hx
  have CA := Lib.hid fun G cs w hx => ref_ahead_box K H S hK hH hS G cs w hx
  have hsz : w.heap.size ≤ w1.heap.size := HB.out.size
  generalize w1.alloc (.cells #[.int .i64 K, .int .i64 H, .int .i64 S] 40) = w2 at *
  generalize w1.heap.size = P at *
  generalize hG : w.heap.size = G at *
  have HG := Lib.hid hG
  clear hG HB
  refine (CR.out P _ w2 HX.out).mono ?_
  rintro e w3 ⟨g, cp, rfl, hg, hM, hx, hb⟩
  have hGg : G ≤ w2.heap.size := by have := HB1.out.size; have := HG.out; omega
  have HM0 : Hid (∃ M, MOwn w3 w2.heap.size (.slice (some ⟨g, 0, none⟩) H cp) M ∧ Wf (K + H) M) := Lib.hid ⟨_, hM, aheadR_wf _ _ _⟩
  have hP : P < w2.heap.size := Blk.lt HX.out
  have HX0 : Hid (Blk w3 P 40 #[.int .i64 K, .int .i64 H, .int .i64 S]) := Lib.hid hx
  have HB0 := Lib.hid (HB1.out.trans (hb.mono hGg))
  clear hM hx hb HX HB1 hg
  generalize w2.heap.size = C at *
  obtain ⟨c0, c1, c2⟩ := blk3 HX0.out
  have hHH : ((H : Int) != (H : Int)) = false := by simp
  go_wp2_with fail
  clear c0 c1 c2 hHH
  go_loopw [9, 10, 24] (fun _ _ i wr => ∃ r : Nat, r ≤ H ∧ i = .int .i64 r ∧ Hid (∃ M, MOwn wr C (.slice (some ⟨g, 0, none⟩) H cp) M ∧ Wf (K + H) M) ∧ Hid (Blk wr P 40 #[.int .i64 K, .int .i64 H, .int .i64 S]) ∧ Hid (Below G w wr)) (fun _ _ i _ => H - (intOf i).toNat)
  case atStart => exact ⟨0, by omega, rfl, HM0, HX0, HB0⟩
  case round =>
    clear HM0 HX0 HB0
    obtain ⟨r, hr, rfl, HM, HX, HB⟩ := hrel
    rename World => wo
    by_cases hrm : r < H
    · have hrmI : (r : Int) < (H : Int) := by omega
      obtain ⟨N, hN⟩ : ∃ N, K + H = N := ⟨_, rfl⟩
      have hN2 : N ≤ 64 := by omega
      have HM1 : Hid (∃ M, MOwn wo C (.slice (some ⟨g, 0, none⟩) H cp) M ∧ Wf N M) := Lib.hid (by rw [← hN]; exact HM.out)
      have HN := Lib.hid hN
      clear hN HM
      obtain ⟨M, hM, hW⟩ := HM1.out
      have hlM := hM.len
      obtain ⟨ar, cr, hcr, hfr, hor⟩ := hM.at2 hrm (r := N) (hW.get (i := r) (by omega)).1
      clear hM hW hlM hor hfr
      go_wp2_with fail
      clear hcr
      go_loopw [10, 32] (fun _ i wq => ∃ j : Nat, j ≤ N ∧ i = .int .i64 j ∧ Hid (∃ M, MOwn wq C (.slice (some ⟨g, 0, none⟩) H cp) M ∧ Wf N M) ∧ Hid (Blk wq P 40 #[.int .i64 K, .int .i64 H, .int .i64 S]) ∧ Hid (Below G w wq)) (fun _ i _ => N - (intOf i).toNat)
      case atStart => exact ⟨0, by omega, rfl, HM1, HX, HB⟩
      case round =>
        clear HM1 HX HB
        obtain ⟨j, hj, rfl, HM, HX, HB⟩ := hrel
        by_cases hjn : j < N
        · have hjnI : (j : Int) < (N : Int) := by omega
          obtain ⟨M, hM, hW⟩ := HM.out
          have hlM := hM.len
          have hgr := hW.get (i := r) (by omega)
          obtain ⟨ar, cr, hcr, hfr, hor⟩ := hM.at2 hrm (r := N) hgr.1
          obtain ⟨g2, c2, e2, hC2, hlt2⟩ := OwnB.form hor (by omega)
          rw [hgr.1] at e2
          injection e2 with e2 _ e3
          subst e2 e3
          obtain ⟨cc, cf⟩ := OwnB.cell hor hgr.1 (k := j) hjn
          have hst := OwnB.stored hor hgr.1 j 0
          have HM5 : Hid (∃ M, MOwn (wr.setCell ⟨g2, j, none⟩ (.int .u8 0)) C (.slice (some ⟨g, 0, none⟩) H cp) M ∧ Wf N M) := Lib.hid ⟨_, MOwn.wrote hM hrm hcr hst.2 hst.1, wf_put hW (by omega) (by omega)⟩
          have HX5 : Hid (Blk (wr.setCell ⟨g2, j, none⟩ (.int .u8 0)) P 40 #[.int .i64 K, .int .i64 H, .int .i64 S]) := Lib.hid (HX.out.far (p := ⟨g2, j, none⟩) (by show P ≠ g2; omega) _)
          have HB5 : Hid (Below G w (wr.setCell ⟨g2, j, none⟩ (.int .u8 0))) := Lib.hid (HB.out.setCell (p := ⟨g2, j, none⟩) (by show G ≤ g2; omega) _)
          clear hM hW hlM hgr hor hst hfr HM HX HB hC2 hlt2
          go_wp2_with fail
          clear hcr cc cf
          generalize wr.setCell ⟨g2, j, none⟩ (.int .u8 0) = w5 at *
          go_wp2_with fail
          go_roundw
          case rel => first | exact ⟨j + 1, by omega, by go_num, HM5, HX5, HB5⟩ | ((repeat apply Exists.intro); exact ⟨⟨j + 1, by omega, by go_num, HM5, HX5, HB5⟩, rfl⟩)
          case measure => simp [intOf]; omega
        · obtain rfl : j = N := by omega
          have HM5 : Hid (∃ M, MOwn wr C (.slice (some ⟨g, 0, none⟩) H cp) M ∧ Wf (K + H) M) := Lib.hid (by rw [HN.out]; exact HM.out)
          clear HM HN
          go_wp2_with fail
          go_roundw
          case rel => first | exact ⟨r + 1, by omega, by go_num, HM5, HX, HB⟩ | ((repeat apply Exists.intro); exact ⟨⟨r + 1, by omega, by go_num, HM5, HX, HB⟩, rfl⟩)
          case measure => simp [intOf]; omega
    · obtain rfl : r = H := by omega
      have CW := Lib.hid fun w => wakes08 w
      have hGr : G ≤ wo.heap.size := by have := HB.out.size; have := HG.out; omega
      obtain ⟨c0, c1, c2⟩ := blk3 HX.out
      clear HM
      go_wp2_with fail
      go_region_with (first
          | (go_at_call 43
             refine (CR.out P _ wo.drew HX.out).mono ?_
             rintro e wA ⟨gA, cA, rfl, -, hmA, hxA, hbA⟩
             obtain ⟨k0, k1, k2⟩ := blk3 hxA
             have HMA := Lib.hid hmA.rdM
             have HXA := Lib.hid hxA
             have HBA := Lib.hid hbA
             clear hmA hxA hbA)
          | (go_at_call 44
             refine (CA.out P _ wA HXA.out).mono ?_
             rintro e wB ⟨gB, cB, rfl, -, hmB, hxB, hbB⟩
             obtain ⟨m0, m1, m2⟩ := blk3 hxB
             have HMB := Lib.hid hmB.rdM
             have HMA2 := Lib.hid ((HMA.out.below hbB (Nat.le_refl _)).more hbB.size)
             have HBB := Lib.hid hbB
             clear hmB hxB hbB)
          | (go_at_call 42
             refine (keep_rows _ _ _ _ _ _ _ HMA2.out HMB.out (by omega) (fun l hl => by have := (aheadR_wf K r r l hl).1; omega)).mono ?_
             rintro e wC ⟨rfl, z, rfl⟩)
          | (go_at_call 45
             refine (CW.out _).mono ?_
             rintro e wD ⟨rfl, hbD⟩
             have HBD := Lib.hid hbD
             clear hbD))
      all_goals (
        go_wp2_with fail
        go_ret
        refine ⟨rfl, ?_⟩
        have h1 : Below wo.heap.size wo wo.drew := below_drewN (Below.refl _ _) 1
        have h2 : Below wo.heap.size wo wA := h1.trans HBA.out
        have h3 := h2.trans (HBB.out.mono h2.size)
        have h4 := below_drewN h3 z
        have h5 := h4.trans (HBD.out.mono h4.size)
        rw [HG.out]
        exact HB.out.trans (h5.mono hGr))
end Go.Proofs.Ytfbhbjhfebkpfaa
