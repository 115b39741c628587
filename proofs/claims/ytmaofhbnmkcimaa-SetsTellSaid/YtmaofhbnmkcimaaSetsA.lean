/- The package sets: right, Count. -/
import Derived.Test.YtmaofhbnmkcimaaKeep
namespace Go.Proofs.Ytmaofhbnmkcimaa
open Go.RowKit
set_option linter.unusedVariables false

/-- Count's loop: so many rounds, from i on. -/
def cntF (n : Nat) : Nat → Nat → Nat → Nat
  | 0, _, out => out
  | f + 1, i, out => if 4096 < out * (n - i) / (i + 1) then 4097 else cntF n f (i + 1) (out * (n - i) / (i + 1))
def cnt (n t : Nat) : Nat := cntF n (min t (n - t)) 0 1
def mayB (n t : Int) : Bool := decide (0 ≤ n ∧ n ≤ 64 ∧ 0 ≤ t ∧ t ≤ n)
def cntI (n t : Int) : Nat := if mayB n t = true then cnt n.toNat t.toNat else 0

theorem may_true {n t : Int} (h : mayB n t = true) : 0 ≤ n ∧ n ≤ 64 ∧ 0 ≤ t ∧ t ≤ n := of_decide_eq_true h
theorem may_false {n t : Int} (h : mayB n t = false) : n < 0 ∨ 64 < n ∨ t < 0 ∨ n < t := by
  have := of_decide_eq_false h
  omega

set_option maxRecDepth 100000 in
set_option maxHeartbeats 1000000 in
theorem sets_right (n t : Int) (w : World) :
    Calls Try.prog 29 #[.int .i64 n, .int .i64 t] w fun e w' => e = .returned (.bool (mayB n t)) ∧ w = w' := by
  cases hm : mayB n t
  · have h := may_false hm
    have HM := Lib.hid hm
    clear hm
    by_cases h1 : n < 0
    · go_enter Try.func29, Try.ntmps29
      go_wp2_with fail
      go_ret
      exact ⟨rfl, rfl⟩
    · by_cases h2 : 64 < n
      · go_enter Try.func29, Try.ntmps29
        go_wp2_with fail
        go_ret
        exact ⟨rfl, rfl⟩
      · by_cases h3 : t < 0
        · go_enter Try.func29, Try.ntmps29
          go_wp2_with fail
          go_ret
          exact ⟨rfl, rfl⟩
        · have h4 : decide (t ≤ n) = false := decide_eq_false (by omega)
          go_enter Try.func29, Try.ntmps29
          go_wp2_with fail
          go_ret
          exact ⟨rfl, rfl⟩
  · have h := may_true hm
    have HM := Lib.hid hm
    clear hm
    go_enter Try.func29, Try.ntmps29
    go_wp2_with fail
    go_ret
    exact ⟨rfl, rfl⟩

theorem ret_i64 {a b : Nat} (h : a = b) : Ending.returned (.int .i64 (a : Int)) = .returned (.int .i64 (b : Int)) := by rw [h]

set_option maxRecDepth 100000 in
set_option maxHeartbeats 1000000 in
theorem sets_count (n t : Int) (hn : -9223372036854775808 ≤ n ∧ n ≤ 9223372036854775807) (ht : -9223372036854775808 ≤ t ∧ t ≤ 9223372036854775807) (w : World) :
    Calls Try.prog 20 #[.int .i64 n, .int .i64 t] w fun e w' => e = .returned (.int .i64 (cntI n t : Nat)) ∧ w = w' := by
  cases hm : mayB n t
  · have hv : cntI n t = 0 := by unfold cntI; rw [hm]; rfl
    rw [hv]
    have HM := Lib.hid hm
    clear hm hv
    go_enter Try.func20, Try.ntmps20
    go_wp2_with fail
    refine (sets_right n t _).mono ?_
    rintro e w1 ⟨rfl, rfl⟩
    rw [HM.out]
    go_wp2_with fail
    go_ret
    exact ⟨rfl, rfl⟩
  · have hv : cntI n t = cnt n.toNat t.toNat := by unfold cntI; rw [hm]; rfl
    have h := may_true hm
    rw [hv]
    have HM := Lib.hid hm
    clear hm hv
    obtain ⟨a, rfl⟩ := Int.eq_ofNat_of_zero_le h.1
    obtain ⟨b, rfl⟩ := Int.eq_ofNat_of_zero_le h.2.2.1
    rw [Int.toNat_natCast, Int.toNat_natCast]
    have ha : a ≤ 64 := by omega
    have hb : b ≤ a := by omega
    clear h hn ht
    obtain ⟨m, hm⟩ : ∃ m, m = min b (a - b) := ⟨_, rfl⟩
    have hv : cnt a b = cntF a m 0 1 := by rw [hm]; rfl
    have hmb : m ≤ 64 := by omega
    have hmi : min (b : Int) ((a : Int) - b) = m := by omega
    have HV := Lib.hid hv
    have HMM := Lib.hid hm
    clear hv hm
    have hmeq : (min (b : Int) ((a : Int) - b)) = m := hmi
    have hle1 : m ≤ b := by omega
    have hle3 : m + b ≤ a := by omega
    have hle2 : b ≤ m ∨ a < 2 * b := by omega
    by_cases hc : (b : Int) ≤ (a : Int) - b
    all_goals
      go_enter Try.func20, Try.ntmps20
      go_wp2_with fail
      refine (sets_right a b _).mono ?_
      rintro e w1 ⟨rfl, rfl⟩
      rw [HM.out]
      clear hmi hmeq
      go_wp2_with fail
      first
        | rw [show ((a : Int) - b) = m by have := HMM.out; omega]
        | skip
      obtain ⟨x, hx, hxm⟩ : ∃ x : Nat, x = m ∧ (m : Int) = x := ⟨m, rfl, rfl⟩
      go_loop [5, 16] (fun o i => ∃ (k out : Nat), k ≤ m ∧ i = .int .i64 k ∧ o = .int .i64 out ∧ out ≤ 4096 ∧ cntF a (m - k) k out = cntF a m 0 1) (fun _ i => m - (intOf i).toNat)
      case atStart => exact ⟨0, 1, by omega, rfl, rfl, by omega, rfl⟩
      case round =>
        obtain ⟨k, out, hk, rfl, rfl, ho, hcn⟩ := hrel
        clear hx hxm
        have HC := Lib.hid hcn
        clear hcn
        by_cases hlt : k < m
        · have hP : out * (a - k) ≤ 4096 * 64 := Nat.mul_le_mul ho (by omega)
          have e1 : (out : Int) * ((a : Int) - k) = ((out * (a - k) : Nat) : Int) := by
            rw [Int.natCast_mul, Int.ofNat_sub (by omega)]
          have hstep : cntF a (m - k) k out = if 4096 < out * (a - k) / (k + 1) then 4097 else cntF a (m - (k + 1)) (k + 1) (out * (a - k) / (k + 1)) := by
            rw [show m - k = (m - (k + 1)) + 1 by omega, cntF]
          have HS := Lib.hid hstep
          clear hstep
          generalize out * (a - k) = P at *
          have hq : P / (k + 1) ≤ P := Nat.div_le_self _ _
          have e2 : (P : Int) / ((k : Int) + 1) = ((P / (k + 1) : Nat) : Int) := by simp
          generalize P / (k + 1) = q at *
          by_cases hbig : 4096 < q
          · go_wp2_with fail
            go_ret
            have h1 := HS.out
            rw [HC.out, if_pos hbig, ← HV.out] at h1
            exact ⟨ret_i64 (b := cnt a b) h1.symm, rfl⟩
          · go_wp2_with fail
            go_round
            case rel => exact ⟨k + 1, q, by omega, by go_num, rfl, by omega, by have h1 := HS.out; rw [HC.out, if_neg hbig] at h1; exact h1.symm⟩
            case measure => simp [intOf]; omega
        · obtain rfl : k = m := by omega
          go_wp2_with fail
          go_ret
          have h1 := HC.out
          rw [Nat.sub_self, cntF, ← HV.out] at h1
          exact ⟨ret_i64 h1, rfl⟩
end Go.Proofs.Ytmaofhbnmkcimaa
