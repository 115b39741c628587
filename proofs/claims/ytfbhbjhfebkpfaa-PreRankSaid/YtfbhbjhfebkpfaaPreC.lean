/- The rows ahead, of the document: Ahead. -/
import Derived.Test.YtfbhbjhfebkpfaaPreB
namespace Go.Proofs.Ytfbhbjhfebkpfaa
open Go.RowKit
set_option linter.unusedVariables false

theorem ref_may_box (K H S : Int) (G : Nat) (cs : Array Value) (w : World) (hx : Blk w G 40 cs) :
    Calls Try.prog 39 #[.agg #[.int .i64 K, .int .i64 H, .int .i64 S]] w fun e w' => e = .returned (.bool (okP K H S)) ∧ Blk w' G 40 cs ∧ Below w.heap.size w w' :=
  (ref_may K H S w).mono fun e w' ⟨h1, h2⟩ => ⟨h1, hx.below h2 hx.lt, h2⟩

set_option maxRecDepth 100000 in
set_option maxHeartbeats 4000000 in
theorem ref_ahead_no (K H S : Int) (w : World) (hno : okP K H S = false) :
    Calls Try.prog 44 #[parV K H S] w fun e w' => e = .returned (.slice none 0 0) ∧ Below w.heap.size w w' := by
  have hb := (Below.refl w.heap.size w).alloc (Nat.le_refl _) (.cells #[.int .i64 K, .int .i64 H, .int .i64 S] 40)
  have hB := Blk.new w 40 #[.int .i64 K, .int .i64 H, .int .i64 S]
  have HB := Lib.hid hb
  have HBX := Lib.hid hB
  have CM := Lib.hid fun G cs w hx => ref_may_box K H S G cs w hx
  rw [hno] at CM
  clear hb hno hB
  unfold parV
  go_enter Try.func44, Try.ntmps44
  go_wp2_with fail
  generalize w.alloc (.cells #[.int .i64 K, .int .i64 H, .int .i64 S] 40) = w1 at *
  generalize hG : w.heap.size = G at *
  have HG := Lib.hid hG
  clear hG
  go_loopw [3, 4, 5, 6] (fun o i _ _ wr => o = .slice none 0 0 ∧ i = .int .i64 0 ∧ wr = w1) (fun _ _ _ _ _ => 0)
  case atStart => exact ⟨rfl, rfl, rfl⟩
  case round =>
    obtain ⟨rfl, rfl, rfl⟩ := hrel
    obtain ⟨c0, c1, c2⟩ := blk3 HBX.out
    have hlt := Blk.lt HBX.out
    by_cases h : 0 < H
    · go_wp2_with fail
      refine (CM.out _ _ _ HBX.out).mono ?_
      rintro e w2 ⟨rfl, hx2, hb2⟩
      have HB2 := Lib.hid (HB.out.trans (hb2.mono (Nat.le_of_lt hlt)))
      clear hx2 hb2
      go_wp2_with fail
      go_ret
      exact ⟨rfl, by rw [HG.out]; exact HB2.out⟩
    · go_wp2_with fail
      go_ret
      exact ⟨rfl, by rw [HG.out]; exact HB.out⟩

set_option maxRecDepth 100000 in
set_option maxHeartbeats 8000000 in
theorem ref_ahead_yes (K H : Nat) (S : Int) (w : World) (hK : 1 ≤ K ∧ K ≤ 16) (hH : 1 ≤ H ∧ H ≤ 4) (hS : 1 ≤ S ∧ S ≤ 24) :
    Calls Try.prog 44 #[parV K H S] w fun e w' => ∃ v, e = .returned v ∧ MOwn w' w.heap.size v (aheadR K H H) ∧ Below w.heap.size w w' := by
  have hb := (Below.refl w.heap.size w).alloc (Nat.le_refl _) (.cells #[.int .i64 K, .int .i64 H, .int .i64 S] 40)
  have hB := Blk.new w 40 #[.int .i64 K, .int .i64 H, .int .i64 S]
  have hok : okP K H S = true := okP_yes (by omega)
  have HB := Lib.hid hb
  have HBX := Lib.hid hB
  have CM := Lib.hid fun G cs w hx => ref_may_box K H S G cs w hx
  rw [hok] at CM
  clear hb hB hok
  unfold parV
  go_enter Try.func44, Try.ntmps44
  go_wp2_with fail
  generalize w.alloc (.cells #[.int .i64 K, .int .i64 H, .int .i64 S] 40) = w1 at *
  generalize hG : w.heap.size = G at *
  have HG := Lib.hid hG
  clear hG
  have HM0 : Hid (MOwn w1 G (.slice none 0 0) (aheadR K H 0)) := Lib.hid (MOwn.nil _ _)
  go_loopw [3, 4, 5, 6] (fun o i _ _ wr => ∃ r : Nat, r ≤ H ∧ i = .int .i64 r ∧ Hid (MOwn wr G o (aheadR K H r)) ∧ Hid (Blk wr G 40 #[.int .i64 K, .int .i64 H, .int .i64 S]) ∧ Hid (Below G w wr)) (fun _ i _ _ _ => H - (intOf i).toNat)
  case atStart => exact ⟨0, by omega, rfl, HM0, HBX, HB⟩
  case round =>
    clear HM0 HB HBX
    obtain ⟨r, hr, rfl, HM, HBX, HB⟩ := hrel
    rename World => wo
    obtain ⟨c0, c1, c2⟩ := blk3 HBX.out
    by_cases hrm : r < H
    · have hrmI : (r : Int) < (H : Int) := by omega
      obtain ⟨N, hN⟩ : ∃ N, K + H = N := ⟨_, rfl⟩
      obtain ⟨q, hq⟩ : ∃ q, K + r = q := ⟨_, rfl⟩
      have hNI : ((K : Int) + (H : Int)) = (N : Int) := by omega
      have hN2 : N ≤ 64 := by omega
      have hNw : IntKind.i64.wrap (N : Int) = (N : Int) := by rw [IntKind.wrap_i64]; omega
      have hqI : ((K : Int) + (r : Int)) = (q : Int) := by omega
      have hq2 : q < N := by omega
      have hqw : IntKind.i64.wrap (q : Int) = (q : Int) := by rw [IntKind.wrap_i64]; omega
      have hKq : K ≤ q := by omega
      have HN := Lib.hid hN
      have HQ := Lib.hid hq
      have hmk := make_bytes (n := N) (by omega)
      clear hN hq
      generalize hD : wo.heap.size = D at *
      have HD := Lib.hid hD
      clear hD
      go_wp2_with fail
      refine (CM.out _ _ _ HBX.out).mono ?_
      rintro e w2 ⟨rfl, hx2, hb2⟩
      obtain ⟨k0, k1, k2⟩ := blk3 hx2
      have HX2 := Lib.hid hx2
      have HB2 := Lib.hid hb2
      clear hx2 hb2
      go_wp2_with (simp only [hmk])
      have hO0 : OwnB (w2.alloc (.cells (rowB (List.replicate N 0)) 5)) w2.heap.size (.slice (some ⟨w2.heap.size, 0, none⟩) N N) (refJ N r 0) := by
        have := own_of_blk (l := List.replicate N 0) (Blk.new w2 5 (rowB (List.replicate N 0))) (Nat.le_refl _) (by rw [List.length_replicate]; omega)
        rwa [List.length_replicate] at this
      have hDg : D ≤ w2.heap.size := by have h1 := HD.out; have h2 := HB2.out.size; omega
      have HO0 : Hid (OwnB (w2.alloc (.cells (rowB (List.replicate N 0)) 5)) D (.slice (some ⟨w2.heap.size, 0, none⟩) N N) (refJ N r 0)) := Lib.hid (OwnB.base hO0 hDg)
      have HBD0 : Hid (Below D wo (w2.alloc (.cells (rowB (List.replicate N 0)) 5))) := Lib.hid (by rw [← HD.out]; exact HB2.out.alloc HB2.out.size _)
      have HX3 : Hid (Blk (w2.alloc (.cells (rowB (List.replicate N 0)) 5)) G 40 #[.int .i64 K, .int .i64 H, .int .i64 S]) := Lib.hid (HX2.out.alloc _)
      have HTK : Hid (aheadR K H (r + 1) = aheadR K H r ++ [(refJ N r K).set q 1]) := Lib.hid (by rw [aheadR, HN.out, HQ.out, rowJ_ref _ _ _ _ hKq])
      clear hO0 hmk HX2 HB2 k0 k1 k2 c0 c1 c2 hNI hNw
      generalize w2.alloc (.cells (rowB (List.replicate N 0)) 5) = w3 at *
      generalize w2.heap.size = g3 at *
      have hGD : G < D := by have h1 := Blk.lt HBX.out; have h2 := HD.out; omega
      go_loopw [6] (fun i wq => ∃ j : Nat, j ≤ K ∧ i = .int .i64 j ∧ Hid (OwnB wq D (.slice (some ⟨g3, 0, none⟩) N N) (refJ N r j)) ∧ Hid (Below D wo wq)) (fun i _ => K - (intOf i).toNat)
      case atStart => exact ⟨0, by omega, rfl, HO0, HBD0⟩
      case round =>
        clear HO0 HBD0 HX3
        obtain ⟨j, hj, rfl, HO, HBD⟩ := hrel
        obtain ⟨c0, c1, c2⟩ := blk3 (HBX.out.below HBD.out hGD)
        by_cases hjn : j < K
        · have hjnI : (j : Int) < (K : Int) := by omega
          obtain ⟨x, hx⟩ : ∃ x, (r + 1) * (j + 1) = x := ⟨_, rfl⟩
          have hx2 : x ≤ 64 := by rw [← hx]; exact Nat.mul_le_mul (show r + 1 ≤ 4 by omega) (show j + 1 ≤ 16 by omega)
          have hxI : ((r : Int) + 1) * ((j : Int) + 1) = (x : Int) := by rw [← hx]; simp
          have hx64 : IntKind.i64.wrap (x : Int) = (x : Int) := by rw [IntKind.wrap_i64]; omega
          have CE := Lib.hid (ref_exp x (by omega) wr)
          rw [exI_nat x (by omega)] at CE
          have HST : Hid (refJ N r (j + 1) = (refJ N r j).set j (ex x)) := Lib.hid (by rw [refJ, hx])
          have hjN : (j : Int) < (N : Int) := by omega
          clear hx
          generalize ex x = y at *
          go_wp2_with fail
          refine CE.out.mono ?_
          rintro e w5 ⟨rfl, rfl⟩
          have hl : (refJ N r j).length = N := refJ_len _ _ _
          obtain ⟨cc, cf⟩ := OwnB.cell HO.out hl (k := j) (by omega)
          have HS := Lib.hid (OwnB.stored HO.out hl j y)
          clear hl
          go_wp2_with fail
          have HO5 : Hid (OwnB (wr.setCell ⟨g3, j, none⟩ (.int .u8 (y : Nat))) D (.slice (some ⟨g3, 0, none⟩) N N) (refJ N r (j + 1))) := Lib.hid (by rw [HST.out]; exact HS.out.1)
          have HB5 : Hid (Below D wo (wr.setCell ⟨g3, j, none⟩ (.int .u8 (y : Nat)))) := Lib.hid (Below.setCell HBD.out (p := ⟨g3, j, none⟩) hDg _)
          clear HS HST HO HBD CE cc cf c0 c1 c2
          generalize wr.setCell ⟨g3, j, none⟩ (.int .u8 (y : Nat)) = w5 at *
          go_wp2_with fail
          go_roundw
          case rel => first | exact ⟨j + 1, by omega, by go_num, HO5, HB5⟩ | ((repeat apply Exists.intro); exact ⟨⟨j + 1, by omega, by go_num, HO5, HB5⟩, rfl⟩)
          case measure => simp [intOf]; omega
        · obtain rfl : j = K := by omega
          have hqN : (q : Int) < (N : Int) := by omega
          have hl : (refJ N r j).length = N := refJ_len _ _ _
          obtain ⟨cc, cf⟩ := OwnB.cell HO.out hl (k := q) hq2
          have HS := Lib.hid (OwnB.stored HO.out hl q 1)
          clear hl
          have hmt : (aheadR j H r).length ≤ 1000000 := by rw [aheadR_len]; omega
          have hGD2 : G ≤ wo.heap.size := by rw [HD.out]; omega
          have HO2 : Hid (OwnB (wr.setCell ⟨g3, q, none⟩ (.int .u8 1)) wo.heap.size (.slice (some ⟨g3, 0, none⟩) N N) ((refJ N r j).set q 1)) := Lib.hid (by rw [HD.out]; exact HS.out.1)
          have HBD2 : Hid (Below wo.heap.size wo (wr.setCell ⟨g3, q, none⟩ (.int .u8 1))) := Lib.hid (by rw [HD.out]; exact Below.setCell HBD.out (p := ⟨g3, q, none⟩) hDg _)
          have HX5 : Hid (Blk (wr.setCell ⟨g3, q, none⟩ (.int .u8 1)) G 40 #[.int .i64 j, .int .i64 H, .int .i64 S]) := Lib.hid (HBX.out.below HBD2.out (Blk.lt HBX.out))
          have hsz : (wr.setCell ⟨g3, q, none⟩ (.int .u8 1)).heap.size = wr.heap.size := by simp
          go_wp2_with (at_builtin; refine wp_appRow (w0 := wo) (w1 := wr.setCell ⟨g3, q, none⟩ (.int .u8 1)) rfl _ _ rfl HM.out HBD2.out HO2.out hGD2 hmt rfl (by rw [hsz]; rfl) ?_)
          intro v' w6 hM6 hb6 hg6 hat6
          rw [← HTK.out] at hM6
          have HM6 := Lib.hid hM6
          have HB6 := Lib.hid (HB.out.trans hb6)
          obtain ⟨vs, hMV⟩ := HM.out
          have HX6 : Hid (Blk w6 G 40 #[.int .i64 j, .int .i64 H, .int .i64 S]) := Lib.hid (by
            refine Blk.grown (Blk.alloc HX5.out _) hg6 ?_
            rcases hMV.hd.2 with ⟨h1, _⟩ | ⟨g', cap, cur, h1, _, hb, _⟩
            · rw [h1]; simp [Value.ownBlock]
            · rw [h1]
              have : G ≠ g' := Blk.ne (t := 40) (t' := 49) HBX.out hb (by decide)
              simpa [Value.ownBlock] using this)
          clear hM6 hb6 hg6 hat6 HM HBD HBD2 HO HO2 HX5 HTK HB HBX hMV HS cc cf
          go_wp2_with fail
          go_roundw
          case rel => first | exact ⟨r + 1, by omega, by go_num, HM6, HX6, HB6⟩ | ((repeat apply Exists.intro); exact ⟨⟨r + 1, by omega, by go_num, HM6, HX6, HB6⟩, rfl⟩)
          case measure => simp [intOf]; omega
    · obtain rfl : r = H := by omega
      go_wp2_with fail
      go_ret
      exact ⟨_, rfl, by rw [HG.out]; exact HM.out, by rw [HG.out]; exact HB.out⟩
end Go.Proofs.Ytfbhbjhfebkpfaa
