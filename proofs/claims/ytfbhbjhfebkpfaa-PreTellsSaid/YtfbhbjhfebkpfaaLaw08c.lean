/- law08: which parameters may be, and the rows ahead (PreTells); their rank, what each tells (PreRank). -/
import Derived.Test.YtfbhbjhfebkpfaaLaw08a
import Derived.Test.YtfbhbjhfebkpfaaPreR
import Derived.Deep.RegionHeld3
namespace Go.Proofs.Ytfbhbjhfebkpfaa
open Go.RowKit
set_option linter.unusedVariables false

def aheadI (K H S : Int) : List (List Nat) := if okP K H S then aheadR K.toNat H.toNat H.toNat else []
theorem aheadI_wf (K H S : Int) : ∀ l ∈ aheadI K H S, l.length ≤ 1000000 := by
  intro l hl
  unfold aheadI at hl
  split at hl
  · rename_i h
    have h1 := of_decide_eq_true h
    have := (aheadR_wf _ _ _ l hl).1
    omega
  · simp at hl
theorem aheadI_len (K H S : Int) : (aheadI K H S).length ≤ 1000000 := by
  unfold aheadI
  split
  · rename_i h
    have h1 := of_decide_eq_true h
    rw [aheadR_len]; omega
  · simp
theorem pre_may_box (K H S : Int) (G : Nat) (cs : Array Value) (w : World) (hx : Blk w G 40 cs) :
    Calls Try.prog 38 #[.agg #[.int .i64 K, .int .i64 H, .int .i64 S]] w fun e w' => e = .returned (.bool (okP K H S)) ∧ Blk w' G 40 cs ∧ Below w.heap.size w w' :=
  (pre_may K H S w).mono fun e w' ⟨h1, h2⟩ => ⟨h1, hx.below h2 hx.lt, h2⟩
theorem pre_colsI_box (K H S : Int) (G : Nat) (cs : Array Value) (w : World) (hx : Blk w G 40 cs) :
    Calls Try.prog 40 #[.agg #[.int .i64 K, .int .i64 H, .int .i64 S]] w fun e w' => e = .returned (.int .i64 (colsI K H S)) ∧ Blk w' G 40 cs ∧ Below w.heap.size w w' :=
  (pre_cols K H S w).mono fun e w' ⟨h1, h2⟩ => ⟨h1, hx.below h2 hx.lt, h2⟩
theorem ref_colsI_box (K H S : Int) (G : Nat) (cs : Array Value) (w : World) (hx : Blk w G 40 cs) :
    Calls Try.prog 41 #[.agg #[.int .i64 K, .int .i64 H, .int .i64 S]] w fun e w' => e = .returned (.int .i64 (colsI K H S)) ∧ Blk w' G 40 cs ∧ Below w.heap.size w w' :=
  (ref_cols K H S w).mono fun e w' ⟨h1, h2⟩ => ⟨h1, hx.below h2 hx.lt, h2⟩
theorem pre_rowsI_box (K H S : Int) (G : Nat) (cs : Array Value) (w : World) (hx : Blk w G 40 cs) :
    Calls Try.prog 43 #[.agg #[.int .i64 K, .int .i64 H, .int .i64 S]] w fun e w' => ∃ v, e = .returned v ∧ MOwn w' w.heap.size v (aheadI K H S) ∧ Blk w' G 40 cs ∧ Below w.heap.size w w' := by
  by_cases h : okP K H S = true
  · have h1 := of_decide_eq_true h
    obtain ⟨k, rfl⟩ := Int.eq_ofNat_of_zero_le (a := K) (by omega)
    obtain ⟨m, rfl⟩ := Int.eq_ofNat_of_zero_le (a := H) (by omega)
    refine (pre_rows_yes k m S w (by omega) (by omega) (by omega)).mono fun e w' ⟨v, h1, h2, h3⟩ => ⟨v, h1, ?_, hx.below h3 hx.lt, h3⟩
    unfold aheadI
    rw [if_pos h]
    exact h2
  · have h0 : okP K H S = false := by simpa using h
    refine (pre_rows_no K H S w h0).mono fun e w' ⟨h1, h3⟩ => ⟨_, h1, ?_, hx.below h3 hx.lt, h3⟩
    unfold aheadI
    rw [h0]
    exact MOwn.nil _ _
theorem ref_aheadI_box (K H S : Int) (G : Nat) (cs : Array Value) (w : World) (hx : Blk w G 40 cs) :
    Calls Try.prog 44 #[.agg #[.int .i64 K, .int .i64 H, .int .i64 S]] w fun e w' => ∃ v, e = .returned v ∧ MOwn w' w.heap.size v (aheadI K H S) ∧ Blk w' G 40 cs ∧ Below w.heap.size w w' := by
  by_cases h : okP K H S = true
  · have h1 := of_decide_eq_true h
    obtain ⟨k, rfl⟩ := Int.eq_ofNat_of_zero_le (a := K) (by omega)
    obtain ⟨m, rfl⟩ := Int.eq_ofNat_of_zero_le (a := H) (by omega)
    refine (ref_ahead_yes k m S w (by omega) (by omega) (by omega)).mono fun e w' ⟨v, h1, h2, h3⟩ => ⟨v, h1, ?_, hx.below h3 hx.lt, h3⟩
    unfold aheadI
    rw [if_pos h]
    exact h2
  · have h0 : okP K H S = false := by simpa using h
    refine (ref_ahead_no K H S w h0).mono fun e w' ⟨h1, h3⟩ => ⟨_, h1, ?_, hx.below h3 hx.lt, h3⟩
    unfold aheadI
    rw [h0]
    exact MOwn.nil _ _

set_option maxRecDepth 100000 in
set_option maxHeartbeats 8000000 in
theorem preTells_walk (w : World) (x y z : Int) (hx : -9223372036854775808 ≤ x ∧ x ≤ 9223372036854775807) (hy : -9223372036854775808 ≤ y ∧ y ≤ 9223372036854775807) (hz : -9223372036854775808 ≤ z ∧ z ≤ 9223372036854775807)
    (a : Int) (ha : -9223372036854775808 ≤ a ∧ a ≤ 9223372036854775807) (b : Int) (hb : -9223372036854775808 ≤ b ∧ b ≤ 9223372036854775807) (c : Int) (hc : -9223372036854775808 ≤ c ∧ c ≤ 9223372036854775807) :
    Calls Try.prog 8 #[.agg #[.int .i64 x, .int .i64 y, .int .i64 z], .int .i64 a, .int .i64 b, .int .i64 c] w fun e w' => e = .returned (.bool true) ∧ Below w.heap.size w w' := by
  have CP := Lib.hid fun w => play_params a b c w ha hb hc
  have CW := Lib.hid fun w => wakes08 w
  unfold parV at CP
  clear hx hy hz ha hb hc
  generalize (1 : Int) + a % 16 = a1 at *
  generalize (1 : Int) + b % 4 = b1 at *
  generalize (1 : Int) + c % 24 = c1 at *
  have hX := Blk.new w 40 #[.int .i64 x, .int .i64 y, .int .i64 z]
  have HB0 := Lib.hid ((Below.refl w.heap.size w).alloc (Nat.le_refl _) (.cells #[.int .i64 x, .int .i64 y, .int .i64 z] 40))
  have HX := Lib.hid hX
  have hlt := hX.lt
  clear hX
  go_enter Try.func8, Try.ntmps8
  go_wp2_with fail
  obtain ⟨k0, k1, k2⟩ := blk3 HX.out
  generalize hG : w.heap.size = G at *
  have HG := Lib.hid hG
  clear hG
  generalize w.alloc (.cells #[.int .i64 x, .int .i64 y, .int .i64 z] 40) = w1 at *
  go_region_held3 (fun w' => w'.cell? ⟨G, 0, none⟩ = some (.int .i64 x) ∧ w'.cell? ⟨G, 1, none⟩ = some (.int .i64 y) ∧ w'.cell? ⟨G, 2, none⟩ = some (.int .i64 z)) (go_keep) (first
    | (go_at_call 37
       refine (CP.out _).mono ?_
       rintro e w2 ⟨rfl, hb2⟩
       have HB2 : Hid (Below G w w2) := Lib.hid ((below_drewN HB0.out 1).trans (hb2.mono (Nat.le_of_lt hlt)))
       have m0 := (hb2.cell (p := ⟨G, 0, none⟩) hlt).trans k0
       have m1 := (hb2.cell (p := ⟨G, 1, none⟩) hlt).trans k1
       have m2 := (hb2.cell (p := ⟨G, 2, none⟩) hlt).trans k2
       clear hb2))
  have hq : ∃ (Kq Hq Sq : Nat → Int), ∀ k, k < 5 → (w2.alloc (.cells #[.int .i64 x, .int .i64 y, .int .i64 z, .int .i64 a1, .int .i64 b1, .int .i64 c1, .int .i64 x, .int .i64 1, .int .i64 1, .int .i64 1, .int .i64 y, .int .i64 1, .int .i64 1, .int .i64 1, .int .i64 z] 40)).cell? ⟨w2.heap.size, k * 3, none⟩ = some (.int .i64 (Kq k)) ∧
      (w2.alloc (.cells #[.int .i64 x, .int .i64 y, .int .i64 z, .int .i64 a1, .int .i64 b1, .int .i64 c1, .int .i64 x, .int .i64 1, .int .i64 1, .int .i64 1, .int .i64 y, .int .i64 1, .int .i64 1, .int .i64 1, .int .i64 z] 40)).cell? ⟨w2.heap.size, k * 3 + 1, none⟩ = some (.int .i64 (Hq k)) ∧
      (w2.alloc (.cells #[.int .i64 x, .int .i64 y, .int .i64 z, .int .i64 a1, .int .i64 b1, .int .i64 c1, .int .i64 x, .int .i64 1, .int .i64 1, .int .i64 1, .int .i64 y, .int .i64 1, .int .i64 1, .int .i64 1, .int .i64 z] 40)).cell? ⟨w2.heap.size, k * 3 + 2, none⟩ = some (.int .i64 (Sq k)) := by
    refine ⟨fun k => [x, a1, x, 1, 1].getD k 0, fun k => [y, b1, 1, y, 1].getD k 0, fun k => [z, c1, 1, 1, z].getD k 0, fun k hk => ?_⟩
    rw [cell_lit, cell_lit, cell_lit]
    match k, hk with
    | 0, _ => exact ⟨rfl, rfl, rfl⟩
    | 1, _ => exact ⟨rfl, rfl, rfl⟩
    | 2, _ => exact ⟨rfl, rfl, rfl⟩
    | 3, _ => exact ⟨rfl, rfl, rfl⟩
    | 4, _ => exact ⟨rfl, rfl, rfl⟩
  have hlt2 : w2.heap.size < (w2.alloc (.cells #[.int .i64 x, .int .i64 y, .int .i64 z, .int .i64 a1, .int .i64 b1, .int .i64 c1, .int .i64 x, .int .i64 1, .int .i64 1, .int .i64 1, .int .i64 y, .int .i64 1, .int .i64 1, .int .i64 1, .int .i64 z] 40)).heap.size := by simp
  have hG2 : G ≤ w2.heap.size := by have := HB2.out.size; have := HG.out; omega
  have HB3 := Lib.hid (HB2.out.alloc hG2 (.cells #[.int .i64 x, .int .i64 y, .int .i64 z, .int .i64 a1, .int .i64 b1, .int .i64 c1, .int .i64 x, .int .i64 1, .int .i64 1, .int .i64 1, .int .i64 y, .int .i64 1, .int .i64 1, .int .i64 1, .int .i64 z] 40))
  obtain ⟨Kq, Hq, Sq, hq⟩ := hq
  have HQ := Lib.hid hq
  clear hq k0 k1 k2 m0 m1 m2
  go_wp2_with fail
  generalize w2.alloc (.cells #[.int .i64 x, .int .i64 y, .int .i64 z, .int .i64 a1, .int .i64 b1, .int .i64 c1, .int .i64 x, .int .i64 1, .int .i64 1, .int .i64 1, .int .i64 y, .int .i64 1, .int .i64 1, .int .i64 1, .int .i64 z] 40) = w3 at *
  generalize w2.heap.size = B at *
  have HBW0 : Hid (Below w3.heap.size w3 w3) := Lib.hid (Below.refl _ _)
  go_loopw [10, 27] (fun _ i wr => ∃ k : Nat, k ≤ 5 ∧ i = .int .i64 k ∧ Hid (Below w3.heap.size w3 wr)) (fun _ i _ => 5 - (intOf i).toNat)
  case atStart => exact ⟨0, by omega, rfl, HBW0⟩
  case round =>
    clear HBW0
    obtain ⟨k, hk, rfl, HBW⟩ := hrel
    by_cases hlt5 : k < 5
    · have hltI : (k : Int) < 5 := by omega
      obtain ⟨q0, q1, q2⟩ := HQ.out k hlt5
      have c0 := (HBW.out.cell (p := ⟨B, k * 3, none⟩) hlt2).trans q0
      have c1 := (HBW.out.cell (p := ⟨B, k * 3 + 1, none⟩) hlt2).trans q1
      have c2 := (HBW.out.cell (p := ⟨B, k * 3 + 2, none⟩) hlt2).trans q2
      clear q0 q1 q2
      generalize Kq k = K at *
      generalize Hq k = H at *
      generalize Sq k = S at *
      go_wp2_with fail
      have HXP := Lib.hid (Blk.new wr 40 #[.int .i64 K, .int .i64 H, .int .i64 S])
      have HB5 := Lib.hid (HBW.out.alloc HBW.out.size (.cells #[.int .i64 K, .int .i64 H, .int .i64 S] 40))
      have CM1 := Lib.hid fun G cs w hx => pre_may_box K H S G cs w hx
      have CM2 := Lib.hid fun G cs w hx => ref_may_box K H S G cs w hx
      have CC1 := Lib.hid fun G cs w hx => pre_colsI_box K H S G cs w hx
      have CC2 := Lib.hid fun G cs w hx => ref_colsI_box K H S G cs w hx
      have CR1 := Lib.hid fun G cs w hx => pre_rowsI_box K H S G cs w hx
      have CR2 := Lib.hid fun G cs w hx => ref_aheadI_box K H S G cs w hx
      have HML := Lib.hid (aheadI_wf K H S)
      have hmlen := aheadI_len K H S
      clear c0 c1 c2
      generalize wr.alloc (.cells #[.int .i64 K, .int .i64 H, .int .i64 S] 40) = w5 at *
      generalize wr.heap.size = P at *
      obtain ⟨m0, m1, m2⟩ := blk3 HXP.out
      generalize aheadI K H S = M at *
      generalize okP K H S = ok at *
      generalize colsI K H S = ci at *
      generalize hL : M.length = L at *
      have HL := Lib.hid hL
      clear hL
      have hok : (ok != ok) = false := by simp
      have hci : (ci != ci) = false := by simp
      go_region_held3 (fun w' => w'.cell? ⟨P, 0, none⟩ = some (.int .i64 K) ∧ w'.cell? ⟨P, 1, none⟩ = some (.int .i64 H) ∧ w'.cell? ⟨P, 2, none⟩ = some (.int .i64 S)) (go_keep) (first
        | (go_at_call 38
           refine (CM1.out P _ _ (Blk.drew HXP.out)).mono ?_
           rintro e wA ⟨rfl, hxA, hbA⟩
           obtain ⟨n0, n1, n2⟩ := blk3 hxA
           have HXA := Lib.hid hxA
           have HBA := Lib.hid (((Below.refl w5.heap.size w5).drew).trans hbA)
           clear hxA hbA)
        | (go_at_call 39
           refine (CM2.out P _ wA HXA.out).mono ?_
           rintro e wB ⟨rfl, hxB, hbB⟩
           obtain ⟨n0, n1, n2⟩ := blk3 hxB
           have HXB := Lib.hid hxB
           have HBB := Lib.hid (HBA.out.trans (hbB.mono HBA.out.size))
           clear hxB hbB)
        | (go_at_call 40
           refine (CC1.out P _ wB HXB.out).mono ?_
           rintro e wC ⟨rfl, hxC, hbC⟩
           obtain ⟨n0, n1, n2⟩ := blk3 hxC
           have HXC := Lib.hid hxC
           have HBC := Lib.hid (HBB.out.trans (hbC.mono HBB.out.size))
           clear hxC hbC)
        | (go_at_call 41
           refine (CC2.out P _ wC HXC.out).mono ?_
           rintro e wD ⟨rfl, hxD, hbD⟩
           obtain ⟨n0, n1, n2⟩ := blk3 hxD
           have HXD := Lib.hid hxD
           have HBD := Lib.hid (HBC.out.trans (hbD.mono HBC.out.size))
           clear hxD hbD)
        | (go_at_call 43
           refine (CR1.out P _ wD HXD.out).mono ?_
           rintro e wE ⟨v, rfl, hmE, hxE, hbE⟩
           obtain ⟨n0, n1, n2⟩ := blk3 hxE
           obtain ⟨aE, cE, rfl⟩ := hmE.val
           rw [HL.out] at hmE ⊢
           have HME := Lib.hid hmE.rdM
           have HXE := Lib.hid hxE
           have HBE := Lib.hid (HBD.out.trans (hbE.mono HBD.out.size))
           clear hmE hxE hbE)
        | (go_at_call 44
           refine (CR2.out P _ wE HXE.out).mono ?_
           rintro e wF ⟨v, rfl, hmF, hxF, hbF⟩
           obtain ⟨n0, n1, n2⟩ := blk3 hxF
           obtain ⟨aF, cF, rfl⟩ := hmF.val
           rw [HL.out] at hmF ⊢
           have HMF := Lib.hid hmF.rdM
           have HME2 := Lib.hid ((HME.out.below hbF (Nat.le_refl _)).more hbF.size)
           have HBF := Lib.hid (HBE.out.trans (hbF.mono HBE.out.size))
           clear hmF hxF hbF)
        | (go_at_call 42
           refine (keep_rows M aE aF L cE cF wF HME2.out HMF.out hmlen HML.out).mono ?_
           rintro e wH ⟨rfl, z2, rfl⟩
           have n0 := n0
           have n1 := n1
           have n2 := n2))
      have HBZ := Lib.hid (below_drewN (HB5.out.trans (HBF.out.mono HB5.out.size)) z2)
      go_wp2_with fail
      go_roundw
      case rel => first | exact ⟨k + 1, by omega, by go_num, HBZ⟩ | ((repeat apply Exists.intro); exact ⟨⟨k + 1, by omega, by go_num, HBZ⟩, rfl⟩)
      case measure => simp [intOf]; omega
    · obtain rfl : k = 5 := by omega
      go_wp2_with fail
      refine (CW.out _).mono ?_
      rintro e w6 ⟨rfl, hb6⟩
      have hG3 : G ≤ w3.heap.size := by omega
      have HB6 := Lib.hid ((HB3.out.trans (HBW.out.mono hG3)).trans (hb6.mono (Nat.le_trans hG3 HBW.out.size)))
      clear hb6
      go_wp2_with fail
      go_ret
      exact ⟨rfl, by rw [HG.out]; exact HB6.out⟩
end Go.Proofs.Ytfbhbjhfebkpfaa
