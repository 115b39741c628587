/- The walk of wellspringlaw06.TableRises. -/
import Derived.Test.YtiaoegdpofpneaaLaw06a
namespace Go.Proofs.Ytiaoegdpofpneaa
open Go.RowKit
set_option linter.unusedVariables false

set_option maxRecDepth 100000 in
set_option maxHeartbeats 4000000 in
theorem tableRises_walk (w : World) (l0 : Int) (hl : -9223372036854775808 ≤ l0 ∧ l0 ≤ 9223372036854775807) :
    Calls Try.prog 7 #[.int .i64 l0] w fun e w' => e = .returned (.bool true) ∧ Below w.heap.size w w' := by
  have m1 := Int.emod_nonneg l0 (show (64 : Int) ≠ 0 by omega)
  have m2 := Int.emod_lt_of_pos l0 (show (0 : Int) < 64 by omega)
  have hq : ∀ w : World, Calls Try.prog 25 #[.int .i64 l0, .int .i64 64] w fun e w' => e = .returned (.int .i64 (l0 % 64)) ∧ w = w' := fun w => keep_within l0 64 w hl (by omega) (by omega)
  generalize l0 % 64 = p at *
  obtain ⟨n, rfl⟩ : ∃ n : Nat, p = (n : Int) - 1 := ⟨(p + 1).toNat, by omega⟩
  have h1 : 1 ≤ n := by omega
  have h2 : n ≤ 64 := by omega
  have e1 : 1 + ((n : Int) - 1) = n := by omega
  have HQ := Lib.hid hq
  have HT := Lib.hid fun w => sol_tabN h1 h2 w
  have HOK : Hid (∀ i, i < n → 1 ≤ wtN n (i + 1) ∧ sumN n (i + 1) < 8388608 ∧ (1 ≤ i → i + 1 ≠ n / rootN n → wtN n (i + 1) ≤ wtN n 2)) := Lib.hid fun i hi => tab_ok h2 hi
  have HG : Hid (∀ i, i < n → (tabN n).getD i 0 = sumN n (i + 1)) := Lib.hid fun i hi => tabN_get hi
  have HSS : Hid (∀ i, (sumN n (i + 1) : Int) - (sumN n i : Int) = (wtN n (i + 1) : Nat)) := Lib.hid fun i => by
    have : sumN n (i + 1) = sumN n i + wtN n (i + 1) := rfl
    omega
  have HLEN := Lib.hid (tabN_len n)
  have hrb := root_bd h1 h2
  have hn1 : 0 ≤ (n : Int) - 1 := by omega
  have hn2 : ((n : Int) - 1).toNat = n - 1 := by omega
  have hnn : ((n : Int) != (n : Int)) = false := by simp
  have gl := HG.out (n - 1) (by omega)
  have g0 := HG.out 0 (by omega)
  rw [show n - 1 + 1 = n by omega] at gl
  have o0 := (HOK.out 0 (by omega))
  have os := (HOK.out (n - 1) (by omega)).2.1
  rw [show n - 1 + 1 = n by omega] at os
  have hs1 : 0 < sumN n (0 + 1) ∧ sumN n (0 + 1) < 8388608 := by
    have : sumN n (0 + 1) = sumN n 0 + wtN n (0 + 1) := rfl
    exact ⟨by omega, o0.2.1⟩
  clear hq o0
  go_enter Try.func7, Try.ntmps7
  go_wp2_with fail
  refine (HQ.out _).mono ?_
  rintro e w1 ⟨rfl, rfl⟩
  go_wp2_with fail
  refine (HT.out _).mono ?_
  rintro e w1 ⟨a, c, rfl, hr, hb⟩
  obtain ⟨b, o, rfl, _, hc⟩ := hr.2 (by omega)
  have c0 := hc 0 _ (cellsI_get (by rw [HLEN.out]; omega))
  have cl := hc (n - 1) _ (cellsI_get (by rw [HLEN.out]; omega))
  have HC : Hid (∀ i, i < n → w1.cell? ⟨b, o + i, none⟩ = some (.int .i64 (sumN n (i + 1) : Nat))) := Lib.hid fun i hi => by
    have := hc i _ (cellsI_get (by rw [HLEN.out]; exact hi))
    rwa [HG.out i hi] at this
  rw [g0] at c0
  rw [gl] at cl
  rw [Nat.add_zero] at c0
  generalize hS1 : sumN n (0 + 1) = s1 at *
  generalize sumN n n = sn at *
  have HS1 := Lib.hid hS1
  have hz1 : ¬ s1 = 0 := by omega
  have HB := Lib.hid hb
  clear hr hb hc hS1 g0 gl
  go_wp2_with fail
  go_loopw [4] (fun r wr => ∃ k : Nat, k ≤ 8 ∧ r = .int .i64 k ∧ Hid (rootF n k (9 - k) = rootN n) ∧ w1 = wr) (fun r _ => 8 - (intOf r).toNat)
  case atStart => exact ⟨0, by omega, rfl, Lib.hid rfl, rfl⟩
  case round =>
    obtain ⟨k, hk, rfl, HK, rfl⟩ := hrel
    have hkk : k * k ≤ 8 * 8 := Nat.mul_le_mul hk hk
    have e2 : (k : Int) * (k : Int) = ((k * k : Nat) : Int) := by rw [Int.natCast_mul]
    have HS : Hid (rootF n k (9 - k) = if k * k < n then rootF n (k + 1) (9 - (k + 1)) else k) := Lib.hid (by rw [show 9 - k = (9 - (k + 1)) + 1 by omega, rootF])
    have h8 : k = 8 → k * k = 64 := by rintro rfl; rfl
    generalize k * k = q at *
    by_cases hlt : q < n
    · have hk7 : k < 8 := by omega
      clear h8
      go_wp2_with fail
      go_roundw
      case rel => exact ⟨k + 1, by omega, by go_num, Lib.hid (by rw [← HK.out, HS.out, if_pos hlt]), by first | rfl | trivial⟩
      case measure => simp [intOf]; omega
    · have hkr : k = rootN n := by rw [← HK.out, HS.out, if_neg hlt]
      clear h8 HK HS
      have hk1 : 1 ≤ k := by omega
      have q2 : (n : Int) / (k : Int) = ((n / k : Nat) : Int) := by simp
      have q2b : n / k ≤ n := Nat.div_le_self _ _
      rw [← hkr] at HOK
      clear hkr hrb
      generalize n / k = m at *
      go_wp2_with fail
      clear hk hkk e2 hlt hk1 q2
      generalize (k : Int) = kk at *
      go_loopw [6] (fun i wr => ∃ k q : Nat, 1 ≤ k ∧ k ≤ n ∧ i = .int .i64 k ∧ w1.drewN q = wr) (fun i _ => n - (intOf i).toNat)
      case atStart => exact ⟨1, 0, by omega, by omega, rfl, rfl⟩
      case round =>
        obtain ⟨k, q, hk1, hk, rfl, rfl⟩ := hrel
        by_cases hlt : k < n
        · have d1 := HC.out k hlt
          have d0 := HC.out (k - 1) (by omega)
          have d2 := HC.out 1 (by omega)
          rw [show k - 1 + 1 = k by omega] at d0
          have hok := HOK.out k hlt
          have hsp := HSS.out k
          have hs2 := HSS.out 1
          have b2 := (HOK.out 1 (by omega)).2.1
          have hk2 : 0 ≤ (k : Int) - 1 := by omega
          have hk3 : ((k : Int) - 1).toNat = k - 1 := by omega
          have hk4 : (k : Int) - 1 < (n : Int) := by omega
          have hk5 : (k : Int) < (n : Int) := by omega
          have hk6 : (1 : Int) < (n : Int) := by omega
          have hbk : sumN n k < 8388608 := by have := (HOK.out (k - 1) (by omega)).2.1; rwa [show k - 1 + 1 = k by omega] at this
          have hS1 := HS1.out
          rw [show sumN n (0 + 1) = sumN n 1 from rfl] at hS1
          rw [hS1] at hs2
          clear hS1
          rw [show (1 : Nat) + 1 = 2 from rfl] at d2 hs2 b2
          generalize sumN n 2 = s2 at *
          generalize wtN n 2 = wt2 at *
          generalize sumN n (k + 1) = sk1 at *
          generalize wtN n (k + 1) = wt at *
          generalize sumN n k = sk at *
          obtain ⟨hw1, hbk1, hw2⟩ := hok
          have hw1' : ¬ (wt : Int) < 1 := by omega
          by_cases hg1 : 1 < k
          · have hg1' : (1 : Int) < (k : Int) := by omega
            by_cases hg2 : k + 1 = m
            · have hg2' : ((k : Int) + 1 != (m : Int)) = false := by simp; omega
              clear hg2 hw2 hw1
              go_wp2_with fail
              go_quiet (fail)
              go_wp2_with fail
              go_quiet (fail)
              go_wp2_with fail
              go_roundw
              case rel => first | exact ⟨k + 1, _, by omega, by omega, by go_num, (by first | rfl | exact (World.drewN_drewN _ _ _).symm)⟩ | ((repeat apply Exists.intro); exact ⟨⟨k + 1, _, by omega, by omega, by go_num, (by first | rfl | exact (World.drewN_drewN _ _ _).symm)⟩, rfl⟩)
              case measure => simp [intOf]; omega
            · have hg2' : ((k : Int) + 1 != (m : Int)) = true := by simp; omega
              have hw3 : ¬ (wt2 : Int) < (wt : Int) := by have := hw2 (by omega) hg2; omega
              clear hg2 hw2 hw1
              go_wp2_with fail
              go_quiet (fail)
              go_wp2_with fail
              go_quiet (fail)
              go_wp2_with fail
              go_roundw
              case rel => first | exact ⟨k + 1, _, by omega, by omega, by go_num, (by first | rfl | exact (World.drewN_drewN _ _ _).symm)⟩ | ((repeat apply Exists.intro); exact ⟨⟨k + 1, _, by omega, by omega, by go_num, (by first | rfl | exact (World.drewN_drewN _ _ _).symm)⟩, rfl⟩)
              case measure => simp [intOf]; omega
          · have hg1' : ¬ (1 : Int) < (k : Int) := by omega
            have hg1'' : decide ((1 : Int) < (k : Int)) = false := decide_eq_false hg1'
            clear hw2 hw1
            go_wp2_with fail
            go_quiet (fail)
            go_wp2_with fail
            go_quiet (fail)
            go_wp2_with fail
            go_roundw
            case rel => first | exact ⟨k + 1, _, by omega, by omega, by go_num, (by first | rfl | exact (World.drewN_drewN _ _ _).symm)⟩ | ((repeat apply Exists.intro); exact ⟨⟨k + 1, _, by omega, by omega, by go_num, (by first | rfl | exact (World.drewN_drewN _ _ _).symm)⟩, rfl⟩)
            case measure => simp [intOf]; omega
        · obtain rfl : k = n := by omega
          have hbN := below_drewN HB.out q
          have cl2 : (w1.drewN q).cell? ⟨b, o + (k - 1), none⟩ = some (.int .i64 (sn : Nat)) := cl
          obtain ⟨z, hz, hz2, hz3⟩ : ∃ z : Int, ((sn : Nat) : Int) = z ∧ z < 8388608 ∧ 0 ≤ z := ⟨_, rfl, by omega, by omega⟩
          rw [hz] at cl2
          clear HOK HG HSS HC HT HQ cl os hz
          generalize w1.drewN q = w2 at *
          go_wp2_with fail
          refine (wakes06 _).mono ?_
          rintro e w3 ⟨rfl, hb2⟩
          go_wp2_with fail
          go_ret
          exact ⟨rfl, hbN.trans (hb2.mono hbN.size)⟩
end Go.Proofs.Ytiaoegdpofpneaa
