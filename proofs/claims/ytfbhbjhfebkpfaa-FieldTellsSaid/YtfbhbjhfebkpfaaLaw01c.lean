/- The walk of wellspringlaw01.FieldTells. -/
import Derived.Test.YtfbhbjhfebkpfaaGfP
import Derived.Test.YtfbhbjhfebkpfaaRefB
import Derived.Test.YtfbhbjhfebkpfaaLaw01a
namespace Go.Proofs.Ytfbhbjhfebkpfaa
open Go.RowKit
set_option linter.unusedVariables false

set_option maxRecDepth 100000 in
set_option maxHeartbeats 4000000 in
theorem fieldTells_walk (w : World) (x : Int) (hx : 0 ≤ x ∧ x ≤ 255) (y : Int) (hy : 0 ≤ y ∧ y ≤ 255) (n : Int) (hn : -9223372036854775808 ≤ n ∧ n ≤ 9223372036854775807) :
    Calls Try.prog 7 #[.int .u8 x, .int .u8 y, .int .i64 n] w fun e w' => e = .returned (.bool true) ∧ Below w.heap.size w w' := by
  obtain ⟨a, rfl, ha⟩ := byte_nat hx
  obtain ⟨b, rfl, hb⟩ := byte_nat hy
  clear hx hy
  have hxor := u8_xor_nat a b ha hb
  -- the logarithms
  obtain ⟨L, R, hL, hR, hLR, hLb⟩ : ∃ L : Nat, ∃ R : Int, (if a = 0 then 0 else lg a) = L ∧ (if a = 0 then -1 else (lg a : Nat) : Int) = R ∧ (R = -1 ∧ L = 0 ∨ R = 0 ∧ L = 0 ∨ R = L ∧ 0 < (L : Int)) ∧ L ≤ 254 := by
    by_cases h : a = 0
    · exact ⟨0, -1, if_pos h, if_pos h, .inl ⟨rfl, rfl⟩, by omega⟩
    · have := lg_bd (by omega) ha
      refine ⟨lg a, lg a, if_neg h, if_neg h, ?_, by omega⟩
      rcases Nat.eq_zero_or_pos (lg a) with h0 | h0
      · exact .inr (.inl ⟨by omega, h0⟩)
      · exact .inr (.inr ⟨rfl, by omega⟩)
  have CL : ∀ w p, Fp w p → Calls Try.prog 32 #[.pointer p, .int .u8 a] w fun e w' => e = .returned (.tuple #[.int .i64 (L : Nat), .bool ((a : Int) != 0)]) ∧ Below w.heap.size w w' := by
    intro w p hp
    have := fp_log p a ha w hp
    rw [hL] at this
    exact this
  have CR : ∀ w, Calls Try.prog 36 #[.int .u8 a] w fun e w' => e = .returned (.int .i64 R) ∧ w = w' := by
    intro w
    have := ref_log a ha w
    rw [hR] at this
    exact this
  have HCL := Lib.hid CL
  have HCR := Lib.hid CR
  clear CL CR hL hR
  have b1 := fm_bd a b
  have b2 := fi_bd a
  have b3 := fi_bd b
  have b4 := fm_bd a (fi b)
  have b5 : exI n < 256 := (ex_bd _).2
  have CM : ∀ w, Calls Try.prog 33 #[.int .u8 a, .int .u8 (fi b : Nat)] w fun e w' => e = .returned (.int .u8 (fm a (fi b) : Nat)) ∧ w = w' := fun w => ref_mul a (fi b) ha b3 w
  have CI : ∀ w, Calls Try.prog 34 #[.int .u8 b] w fun e w' => e = .returned (.int .u8 (fi b : Nat)) ∧ w = w' := fun w => ref_inv b hb w
  have CD : ∀ w p, Fp w p → Calls Try.prog 28 #[.pointer p, .int .u8 a, .int .u8 b] w fun e w' => e = .returned (.tuple #[.int .u8 (fm a (fi b) : Nat), .bool ((b : Int) != 0)]) ∧ Below w.heap.size w w' := fun w p h => fp_div p a b ha hb w h
  generalize fm a (fi b) = q at *
  generalize fi b = ib at *
  have HCM := Lib.hid CM
  have HCI := Lib.hid CI
  have HCD := Lib.hid CD
  clear CM CI CD
  go_enter Try.func7, Try.ntmps7
  go_wp2_with fail
  go_loopw [7] (fun i wr => ∃ k : Nat, k ≤ 2 ∧ i = .int .i64 k ∧ Hid (Below w.heap.size w wr)) (fun i _ => 2 - (intOf i).toNat)
  case atStart => exact ⟨0, by omega, rfl, Lib.hid (Below.refl _ _)⟩
  case round =>
    obtain ⟨k, hk, rfl, HB⟩ := hrel
    by_cases hlt : k < 2
    · have hk01 : k = 0 ∨ k = 1 := by omega
      clear hk hlt
      rcases hk01 with rfl | rfl
      · go_wp2_with fail
        refine (gf_new _).mono ?_
        rintro e w1 ⟨g, rfl, hg, hF, hb1⟩
        go_wp2_with fail
        have hP : Fp w1 (some ⟨g, 0, none⟩) := Fp.of hF
        have HP := Lib.hid hP
        clear hP
        refine (HCD.out _ _ HP.out).mono ?_
        rintro e w2 ⟨rfl, hb2⟩
        have HP2 := Lib.hid (HP.out.below hb2 (Nat.le_refl _))
        go_wp2_with fail
        refine (HCL.out _ _ HP2.out).mono ?_
        rintro e w3 ⟨rfl, hb3⟩
        have HP3 := Lib.hid (HP2.out.below hb3 (Nat.le_refl _))
        go_wp2_with fail
        refine (gf_add _ a b ha hb _).mono ?_
        rintro e w4 ⟨rfl, rfl⟩
        go_wp2_with fail
        refine (fp_mul _ a b _ (by omega) (by omega) HP3.out).mono ?_
        rintro e w4 ⟨rfl, hb4⟩
        have HP4 := Lib.hid (HP3.out.below hb4 (Nat.le_refl _))
        simp only [Int.toNat_natCast]
        go_wp2_with fail
        refine (ref_mul a b ha hb _).mono ?_
        rintro e w5 ⟨rfl, rfl⟩
        go_wp2_with fail
        refine (fp_inv _ a _ (by omega) HP4.out).mono ?_
        rintro e w5 ⟨rfl, hb5⟩
        have HP5 := Lib.hid (HP4.out.below hb5 (Nat.le_refl _))
        simp only [Int.toNat_natCast]
        go_wp2_with fail
        refine (ref_inv a ha _).mono ?_
        rintro e w6 ⟨rfl, rfl⟩
        go_wp2_with fail
        refine (fp_exp _ n hn _ HP5.out).mono ?_
        rintro e w6 ⟨rfl, hb6⟩
        go_wp2_with fail
        refine (ref_exp n hn _).mono ?_
        rintro e w7 ⟨rfl, rfl⟩
        have HB2 : Hid (Below w.heap.size w w6) := by
          have z0 := HB.out
          have z1 := z0.trans (hb1.mono z0.size)
          have z2 := z1.trans (hb2.mono z1.size)
          have z3 := z2.trans (hb3.mono z2.size)
          have z4 := z3.trans (hb4.mono z3.size)
          have z5 := z4.trans (hb5.mono z4.size)
          exact z5.trans (hb6.mono z5.size)
        clear HP HP2 HP3 HP4 HP5 hb1 hb2 hb3 hb4 hb5 hb6
        go_wp2_with fail
        refine (HCI.out _).mono ?_
        rintro e w7 ⟨rfl, rfl⟩
        go_wp2_with fail
        refine (HCM.out _).mono ?_
        rintro e w7 ⟨rfl, rfl⟩
        go_wp2_with fail
        refine (HCR.out _).mono ?_
        rintro e w7 ⟨rfl, rfl⟩
        rcases hLR with ⟨rfl, rfl⟩ | ⟨rfl, rfl⟩ | ⟨rfl, hL0⟩
        all_goals
          go_wp2_with fail
          go_roundw
          case rel => exact ⟨1, by omega, rfl, HB2⟩
          case measure => simp [intOf] <;> omega
      · go_wp2_with fail
        refine (gf_new _).mono ?_
        rintro e w1 ⟨g, rfl, hg, hF, hb1⟩
        go_wp2_with fail
        have hP : Fp w1 none := Fp.nil _
        have HP := Lib.hid hP
        clear hP
        refine (HCD.out _ _ HP.out).mono ?_
        rintro e w2 ⟨rfl, hb2⟩
        have HP2 := Lib.hid (HP.out.below hb2 (Nat.le_refl _))
        go_wp2_with fail
        refine (HCL.out _ _ HP2.out).mono ?_
        rintro e w3 ⟨rfl, hb3⟩
        have HP3 := Lib.hid (HP2.out.below hb3 (Nat.le_refl _))
        go_wp2_with fail
        refine (gf_add _ a b ha hb _).mono ?_
        rintro e w4 ⟨rfl, rfl⟩
        go_wp2_with fail
        refine (fp_mul _ a b _ (by omega) (by omega) HP3.out).mono ?_
        rintro e w4 ⟨rfl, hb4⟩
        have HP4 := Lib.hid (HP3.out.below hb4 (Nat.le_refl _))
        simp only [Int.toNat_natCast]
        go_wp2_with fail
        refine (ref_mul a b ha hb _).mono ?_
        rintro e w5 ⟨rfl, rfl⟩
        go_wp2_with fail
        refine (fp_inv _ a _ (by omega) HP4.out).mono ?_
        rintro e w5 ⟨rfl, hb5⟩
        have HP5 := Lib.hid (HP4.out.below hb5 (Nat.le_refl _))
        simp only [Int.toNat_natCast]
        go_wp2_with fail
        refine (ref_inv a ha _).mono ?_
        rintro e w6 ⟨rfl, rfl⟩
        go_wp2_with fail
        refine (fp_exp _ n hn _ HP5.out).mono ?_
        rintro e w6 ⟨rfl, hb6⟩
        go_wp2_with fail
        refine (ref_exp n hn _).mono ?_
        rintro e w7 ⟨rfl, rfl⟩
        have HB2 : Hid (Below w.heap.size w w6) := by
          have z0 := HB.out
          have z1 := z0.trans (hb1.mono z0.size)
          have z2 := z1.trans (hb2.mono z1.size)
          have z3 := z2.trans (hb3.mono z2.size)
          have z4 := z3.trans (hb4.mono z3.size)
          have z5 := z4.trans (hb5.mono z4.size)
          exact z5.trans (hb6.mono z5.size)
        clear HP HP2 HP3 HP4 HP5 hb1 hb2 hb3 hb4 hb5 hb6
        go_wp2_with fail
        refine (HCI.out _).mono ?_
        rintro e w7 ⟨rfl, rfl⟩
        go_wp2_with fail
        refine (HCM.out _).mono ?_
        rintro e w7 ⟨rfl, rfl⟩
        go_wp2_with fail
        refine (HCR.out _).mono ?_
        rintro e w7 ⟨rfl, rfl⟩
        rcases hLR with ⟨rfl, rfl⟩ | ⟨rfl, rfl⟩ | ⟨rfl, hL0⟩
        all_goals
          go_wp2_with fail
          go_roundw
          case rel => exact ⟨2, by omega, rfl, HB2⟩
          case measure => simp [intOf] <;> omega
    · obtain rfl : k = 2 := by omega
      go_wp2_with fail
      refine (wakes01 _).mono ?_
      rintro e w1 ⟨rfl, hb1⟩
      go_wp2_with fail
      go_ret
      exact ⟨rfl, HB.out.trans (hb1.mono HB.out.size)⟩
end Go.Proofs.Ytfbhbjhfebkpfaa
