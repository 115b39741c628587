/- Contracts of the reference's mathematics of the field. -/
import Derived.Test.YtfbhbjhfebkpfaaGfC
import Derived.Test.YtfbhbjhfebkpfaaRefMath
namespace Go.Proofs.Ytfbhbjhfebkpfaa
open Go.RowKit
set_option linter.unusedVariables false

theorem wrap_u16 (n : Int) : IntKind.u16.wrap n = n % 65536 := by simp [IntKind.wrap, IntKind.bits, IntKind.signed]
theorem u16_and1 (a : Nat) (ha : a < 65536) : bits .and .u16 (a : Int) 1 = ((a % 2 : Nat) : Int) := by
  have h1 : (BitVec.ofInt 16 (a : Int)).toNat = a := by
    rw [BitVec.ofInt_natCast, BitVec.toNat_ofNat]; exact Nat.mod_eq_of_lt (by omega)
  have h2 : (BitVec.ofInt 16 (1 : Int)).toNat = 1 := by decide
  show IntKind.u16.wrap ((BitVec.ofInt 16 (a : Int) &&& BitVec.ofInt 16 (1 : Int)).toNat : Int) = _
  rw [BitVec.toNat_and, h1, h2, Nat.and_one_is_mod, wrap_u16]
  omega
theorem u16_xor (a b : Nat) (ha : a < 65536) (hb : b < 65536) : bits .xor .u16 (a : Int) (b : Int) = ((a ^^^ b : Nat) : Int) := by
  have hx : a ^^^ b < 2 ^ 16 := Nat.xor_lt_two_pow (by omega) (by omega)
  have h1 : (BitVec.ofInt 16 (a : Int)).toNat = a := by
    rw [BitVec.ofInt_natCast, BitVec.toNat_ofNat]; exact Nat.mod_eq_of_lt (by omega)
  have h2 : (BitVec.ofInt 16 (b : Int)).toNat = b := by
    rw [BitVec.ofInt_natCast, BitVec.toNat_ofNat]; exact Nat.mod_eq_of_lt (by omega)
  show IntKind.u16.wrap ((BitVec.ofInt 16 (a : Int) ^^^ BitVec.ofInt 16 (b : Int)).toNat : Int) = _
  rw [BitVec.toNat_xor, h1, h2, wrap_u16]
  omega

set_option maxRecDepth 100000 in
set_option maxHeartbeats 1000000 in
theorem ref_mul (a b : Nat) (ha : a < 256) (hb : b < 256) (w : World) :
    Calls Try.prog 33 #[.int .u8 a, .int .u8 b] w fun e w' => e = .returned (.int .u8 (fm a b : Nat)) ∧ w = w' := by
  go_enter Try.func33, Try.ntmps33
  go_wp2_with fail
  go_loop [5, 6] (fun p i => ∃ k : Nat, k ≤ 8 ∧ i = .int .i64 k ∧ p = .int .u16 (pm a b k : Nat)) (fun _ i => 8 - (intOf i).toNat)
  case atStart => exact ⟨0, by omega, rfl, rfl⟩
  case round =>
    obtain ⟨k, hk, rfl, rfl⟩ := hrel
    by_cases hlt : k < 8
    · have hp := pm_lt (b := b) ha k hk
      have hbk : b / 2 ^ k < 256 := Nat.lt_of_le_of_lt (Nat.div_le_self _ _) hb
      have hand := and1 (b / 2 ^ k) hbk
      rw [Int.natCast_ediv, show ((2 ^ k : Nat) : Int) = 2 ^ k by simp] at hand
      have hst : pm a b (k + 1) = if b / 2 ^ k % 2 = 1 then pm a b k ^^^ a * 2 ^ k else pm a b k := rfl
      have hsh : a * 2 ^ k < 65536 := Nat.lt_of_lt_of_le (Nat.mul_lt_mul_of_pos_right ha (Nat.pow_pos (by decide))) (by
        have : (2 : Nat) ^ k ≤ 2 ^ 7 := Nat.pow_le_pow_right (by decide) (by omega)
        omega)
      have hwr : IntKind.u16.wrap ((a : Int) * 2 ^ k) = ((a * 2 ^ k : Nat) : Int) := by
        rw [wrap_u16, show (2 : Int) ^ k = ((2 ^ k : Nat) : Int) by simp, ← Int.natCast_mul]
        omega
      have HST := Lib.hid hst
      have HA := Lib.hid hand
      have HW := Lib.hid hwr
      have HX := Lib.hid (u16_xor (pm a b k) (a * 2 ^ k) hp hsh)
      have HSH := Lib.hid hsh
      clear hst hand hwr hsh hbk
      go_wp2_with fail
      · rename_i hbit
        rw [HA.out, beq_iff_eq] at hbit
        go_round
        case rel =>
          refine ⟨k + 1, by omega, by go_num, ?_⟩
          rw [HST.out, if_pos (by omega), HW.out, HX.out]
        case measure => simp [intOf] <;> omega
      · rename_i hbit
        rw [HA.out, beq_eq_false_iff_ne] at hbit
        go_round
        case rel =>
          refine ⟨k + 1, by omega, by go_num, ?_⟩
          rw [HST.out, if_neg (by omega)]
        case measure => simp [intOf] <;> omega
    · obtain rfl : k = 8 := by omega
      have hp0 := pm_lt (b := b) ha 8 (Nat.le_refl _)
      have hall := rd_all ha hb
      have hP := fun k hk => rd_lt hp0 k hk
      generalize pm a b 8 = p at *
      have HALL := Lib.hid hall
      have HP := Lib.hid hP
      clear hall hP
      go_wp2_with fail
      go_loop [5, 7] (fun q i => ∃ k : Nat, k ≤ 8 ∧ i = .int .i64 (15 - k : Int) ∧ q = .int .u16 (rd p k : Nat)) (fun _ i => (intOf i).toNat)
      case atStart => exact ⟨0, by omega, rfl, rfl⟩
      case round =>
        obtain ⟨k, hk, rfl, rfl⟩ := hrel
        by_cases hlt : k < 8
        · obtain ⟨j, hj⟩ : ∃ j : Nat, 15 - k = j := ⟨_, rfl⟩
          have ej : (15 : Int) - k = (j : Int) := by omega
          have hp := HP.out k hk
          have hst : rd p (k + 1) = rdS (rd p k) j := by rw [← hj]; rfl
          have hlast := HP.out (k + 1) (by omega)
          have HST := Lib.hid hst
          clear hst
          rw [ej]
          have hj8 : 8 ≤ j ∧ j ≤ 15 := by omega
          generalize rd p k = q at *
          have hqj : q / 2 ^ j < 65536 := Nat.lt_of_le_of_lt (Nat.div_le_self _ _) hp
          have hand := u16_and1 (q / 2 ^ j) hqj
          rw [Int.natCast_ediv, show ((2 ^ j : Nat) : Int) = 2 ^ j by simp] at hand
          obtain ⟨i, rfl⟩ : ∃ i, j = 8 + i := ⟨j - 8, by omega⟩
          have hsh : 283 * 2 ^ i < 65536 := by
            have : (2 : Nat) ^ i ≤ 2 ^ 7 := Nat.pow_le_pow_right (by decide) (by omega)
            omega
          have e8 : ((8 + i : Nat) : Int) - 8 = (i : Int) := by omega
          have hwr : IntKind.u16.wrap (283 * 2 ^ i) = ((283 * 2 ^ i : Nat) : Int) := by
            rw [wrap_u16, show (2 : Int) ^ i = ((2 ^ i : Nat) : Int) by simp]
            omega
          have HA := Lib.hid hand
          have HW := Lib.hid hwr
          have HX := Lib.hid (u16_xor q (283 * 2 ^ i) hp hsh)
          have HSH := Lib.hid hsh
          clear hand hwr hsh hqj
          go_wp2_with fail
          · rename_i hbit
            rw [HA.out, beq_iff_eq] at hbit
            go_round
            case rel =>
              refine ⟨k + 1, by omega, by go_num, ?_⟩
              rw [HST.out, rdS, if_pos (by omega), Nat.add_sub_cancel_left, HW.out, HX.out]
            case measure => simp [intOf] <;> omega
          · rename_i hbit
            rw [HA.out, beq_eq_false_iff_ne] at hbit
            go_round
            case rel =>
              refine ⟨k + 1, by omega, by go_num, ?_⟩
              rw [HST.out, rdS, if_neg (by omega)]
            case measure => simp [intOf] <;> omega
        · obtain rfl : k = 8 := by omega
          rw [HALL.out]
          have h8 := fm_bd a b
          go_wp2_with fail
          go_ret
          exact ⟨rfl, rfl⟩
end Go.Proofs.Ytfbhbjhfebkpfaa
