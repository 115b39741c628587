/- Contracts of the reference's mathematics of the field: inverses, powers, logarithms. -/
import Derived.Test.YtfbhbjhfebkpfaaRef
namespace Go.Proofs.Ytfbhbjhfebkpfaa
open Go.RowKit
set_option linter.unusedVariables false

theorem fm_unique {a b : Nat} (ha : a < 256) (hb : b < 256) (h : fm a b = 1) : b = fi a := by
  have h0 : a ≠ 0 := by rintro rfl; rw [fm_zero_left] at h; omega
  have e1 : fm (fi a) (fm a b) = fi a := by rw [h, fm_one _ (fi_bd a)]
  rw [← fm_assoc _ _ _ (fi_bd a) ha hb, fm_comm (fi a) a, fm_inv h0 ha, fm_comm, fm_one b hb] at e1
  exact e1
theorem fm_ex3 (k : Nat) : fm (ex k) 3 = ex (k + 1) := by rw [fm_three (ex_bd k).2]; rfl

set_option maxRecDepth 100000 in
set_option maxHeartbeats 1000000 in
theorem ref_inv (a : Nat) (ha : a < 256) (w : World) :
    Calls Try.prog 34 #[.int .u8 a] w fun e w' => e = .returned (.int .u8 (fi a : Nat)) ∧ w = w' := by
  go_enter Try.func34, Try.ntmps34
  go_wp2_with fail
  go_loop [3] (fun i => ∃ k : Nat, 1 ≤ k ∧ k ≤ 256 ∧ i = .int .i64 k ∧ (a ≠ 0 → k ≤ fi a)) (fun i => 256 - (intOf i).toNat)
  case atStart => exact ⟨1, by omega, by omega, rfl, fun h0 => by
    have := fm_inv h0 ha
    rcases Nat.eq_zero_or_pos (fi a) with h | h
    · rw [h, fm_zero_right] at this; omega
    · exact h⟩
  case round =>
    obtain ⟨k, hk1, hk, rfl, hne⟩ := hrel
    by_cases hlt : k < 256
    · have hbd := fm_bd a k
      have HU := Lib.hid (fun h => fm_unique (b := k) ha hlt h)
      have hinv := Lib.hid (fun h0 : a ≠ 0 => fm_inv h0 ha)
      have HN := Lib.hid hne
      clear hne
      have hwk : IntKind.u8.wrap (k : Int) = (k : Int) := by simp [IntKind.wrap, IntKind.bits, IntKind.signed]; omega
      go_wp2_with fail
      refine (ref_mul a k ha hlt _).mono ?_
      rintro e w1 ⟨rfl, rfl⟩
      by_cases h1 : fm a k = 1
      · have hk2 := HU.out h1
        have h1' : ((fm a k : Nat) == (1 : Int)) = true := by rw [h1]; rfl
        have HK := Lib.hid hk2
        clear h1 hk2
        go_wp2_with fail
        go_ret
        exact ⟨by rw [← HK.out]; rfl, rfl⟩
      · have h1' : (((fm a k : Nat) : Int) == (1 : Int)) = false := by rw [beq_eq_false_iff_ne]; omega
        have HK := Lib.hid h1
        clear h1
        go_wp2_with fail
        go_round
        case rel =>
          refine ⟨k + 1, by omega, by omega, by go_num, fun h0 => ?_⟩
          have := HN.out h0
          rcases Nat.lt_or_ge k (fi a) with h | h
          · omega
          · have : k = fi a := by omega
            subst this
            exact absurd (hinv.out h0) HK.out
        case measure => simp [intOf] <;> omega
    · obtain rfl : k = 256 := by omega
      have h0 : a = 0 := by
        rcases Nat.eq_zero_or_pos a with h | h
        · exact h
        · have := hne (by omega)
          have := fi_bd a
          omega
      subst h0
      go_wp2_with fail
      go_ret
      exact ⟨rfl, rfl⟩

set_option maxRecDepth 100000 in
set_option maxHeartbeats 1000000 in
theorem ref_exp (n : Int) (hn : -9223372036854775808 ≤ n ∧ n ≤ 9223372036854775807) (w : World) :
    Calls Try.prog 35 #[.int .i64 n] w fun e w' => e = .returned (.int .u8 (exI n : Nat)) ∧ w = w' := by
  have h1 := Int.emod_nonneg n (show (255 : Int) ≠ 0 by omega)
  have h2 := Int.emod_lt_of_pos n (show (0 : Int) < 255 by omega)
  have h3 := Lib.hid (tmod_255 n)
  have hv : exI n = ex (n % 255).toNat := rfl
  obtain ⟨m, hm⟩ := Int.eq_ofNat_of_zero_le h1
  rw [hm] at h2 h3
  rw [hv, hm, Int.toNat_natCast]
  have hmlt : m < 255 := by omega
  clear hv hm h1
  by_cases hneg : n.tmod 255 < 0
  · have h4 := h3.out
    rw [if_pos hneg] at h4
    have hb : (m : Int) - 255 < 0 := by omega
    have h6 : n.tmod 255 = (m : Int) - 255 := by
      generalize n.tmod 255 = q at h4
      omega
    clear h3 h4 hneg
    go_enter Try.func35, Try.ntmps35
    go_wp2_with fail
    go_loop [3, 4] (fun x i => ∃ k : Nat, k ≤ m ∧ i = .int .i64 k ∧ x = .int .u8 (ex k : Nat)) (fun _ i => m - (intOf i).toNat)
    case atStart => exact ⟨0, by omega, rfl, rfl⟩
    case round =>
      obtain ⟨k, hk, rfl, rfl⟩ := hrel
      have hbd := ex_bd k
      have hbd3 := ex_bd (k + 1)
      have H3 := Lib.hid (fm_ex3 k)
      by_cases hlt : k < m
      · go_wp2_with fail
        refine (ref_mul (ex k) 3 hbd.2 (by omega) _).mono ?_
        rintro e w1 ⟨rfl, rfl⟩
        rw [H3.out]
        go_wp2_with fail
        go_round
        case rel => exact ⟨k + 1, by omega, by go_num, rfl⟩
        case measure => simp [intOf] <;> omega
      · obtain rfl : k = m := by omega
        go_wp2_with fail
        go_ret
        exact ⟨rfl, rfl⟩
  · have h4 := h3.out
    rw [if_neg hneg] at h4
    have hb : ¬ (m : Int) < 0 := by omega
    clear h3 hneg
    go_enter Try.func35, Try.ntmps35
    go_wp2_with fail
    go_loop [3, 4] (fun x i => ∃ k : Nat, k ≤ m ∧ i = .int .i64 k ∧ x = .int .u8 (ex k : Nat)) (fun _ i => m - (intOf i).toNat)
    case atStart => exact ⟨0, by omega, rfl, rfl⟩
    case round =>
      obtain ⟨k, hk, rfl, rfl⟩ := hrel
      have hbd := ex_bd k
      have hbd3 := ex_bd (k + 1)
      have H3 := Lib.hid (fm_ex3 k)
      by_cases hlt : k < m
      · go_wp2_with fail
        refine (ref_mul (ex k) 3 hbd.2 (by omega) _).mono ?_
        rintro e w1 ⟨rfl, rfl⟩
        rw [H3.out]
        go_wp2_with fail
        go_round
        case rel => exact ⟨k + 1, by omega, by go_num, rfl⟩
        case measure => simp [intOf] <;> omega
      · obtain rfl : k = m := by omega
        go_wp2_with fail
        go_ret
        exact ⟨rfl, rfl⟩

set_option maxRecDepth 100000 in
set_option maxHeartbeats 1000000 in
theorem ref_log (a : Nat) (ha : a < 256) (w : World) :
    Calls Try.prog 36 #[.int .u8 a] w fun e w' => e = .returned (.int .i64 (if a = 0 then -1 else (lg a : Nat) : Int)) ∧ w = w' := by
  have hv0 : a = 0 → (if a = 0 then -1 else (lg a : Nat) : Int) = -1 := fun h => if_pos h
  have hv1 : a ≠ 0 → (if a = 0 then -1 else (lg a : Nat) : Int) = (lg a : Nat) := fun h => if_neg h
  generalize (if a = 0 then -1 else (lg a : Nat) : Int) = v at *
  have HV0 := Lib.hid hv0
  have HV1 := Lib.hid hv1
  clear hv0 hv1
  go_enter Try.func36, Try.ntmps36
  go_wp2_with fail
  go_loop [3, 4] (fun x i => ∃ k : Nat, k ≤ 255 ∧ i = .int .i64 k ∧ x = .int .u8 (ex k : Nat) ∧ (a ≠ 0 → k ≤ lg a)) (fun _ i => 255 - (intOf i).toNat)
  case atStart => exact ⟨0, by omega, rfl, rfl, fun _ => by omega⟩
  case round =>
    obtain ⟨k, hk, rfl, rfl, hne⟩ := hrel
    by_cases hlt : k < 255
    · have hbd := ex_bd k
      have HL := Lib.hid (lg_ex hlt)
      have HE := Lib.hid (fun h0 : 0 < a => ex_lg h0 ha)
      have HN := Lib.hid hne
      have H3 := Lib.hid (fm_ex3 k)
      have hbd3 := ex_bd (k + 1)
      clear hne
      by_cases h1 : ex k = a
      · have h1' : (((ex k : Nat) : Int) == (a : Int)) = true := by rw [h1, beq_self_eq_true]
        have H1 := Lib.hid h1
        clear h1
        go_wp2_with fail
        go_ret
        refine ⟨?_, rfl⟩
        have h0 : a ≠ 0 := by rw [← H1.out]; omega
        rw [HV1.out h0, ← H1.out, HL.out]
        rfl
      · have h1' : (((ex k : Nat) : Int) == (a : Int)) = false := by rw [beq_eq_false_iff_ne]; omega
        have H1 := Lib.hid h1
        clear h1
        go_wp2_with fail
        refine (ref_mul (ex k) 3 hbd.2 (by omega) _).mono ?_
        rintro e w1 ⟨rfl, rfl⟩
        rw [H3.out]
        go_wp2_with fail
        go_round
        case rel =>
          refine ⟨k + 1, by omega, by go_num, rfl, fun h0 => ?_⟩
          have := HN.out h0
          rcases Nat.lt_or_ge k (lg a) with h | h
          · omega
          · have e : k = lg a := by omega
            subst e
            exact absurd (HE.out (by omega)) H1.out
        case measure => simp [intOf] <;> omega
    · obtain rfl : k = 255 := by omega
      have h0 : a = 0 := by
        rcases Nat.eq_zero_or_pos a with h | h
        · exact h
        · have := hne (by omega)
          have := lg_bd h ha
          omega
      have hbd := ex_bd 255
      have H0 := HV0.out h0
      subst H0
      go_wp2_with fail
      go_ret
      exact ⟨rfl, rfl⟩
end Go.Proofs.Ytfbhbjhfebkpfaa
