/- The walk of wellspringlaw26.AllErrors. -/
import Derived.Test.YtmaofhbnmkcimaaSetsD
import Derived.Test.YtmaofhbnmkcimaaLaw26a
namespace Go.Proofs.Ytmaofhbnmkcimaa
open Go.RowKit
set_option linter.unusedVariables false

theorem many64 : ∀ t, t < 50 → cnt 64 (3 + t) = 4097 := by decide +kernel

set_option maxRecDepth 100000 in
set_option maxHeartbeats 4000000 in
theorem allErrors_walk (w : World) (n0 : Int) (hn : -9223372036854775808 ≤ n0 ∧ n0 ≤ 9223372036854775807) (t0 : Int) (ht : -9223372036854775808 ≤ t0 ∧ t0 ≤ 9223372036854775807) :
    Calls Try.prog 11 #[.int .i64 n0, .int .i64 t0] w fun e w' => e = .returned (.bool true) ∧ Below w.heap.size w w' := by
  have b1 := And.intro (Int.emod_nonneg n0 (show (50 : Int) ≠ 0 by omega)) (Int.emod_lt_of_pos n0 (show (0 : Int) < 50 by omega))
  have b2 := And.intro (Int.emod_nonneg n0 (show (1000 : Int) ≠ 0 by omega)) (Int.emod_lt_of_pos n0 (show (0 : Int) < 1000 by omega))
  have b3 := And.intro (Int.emod_nonneg n0 (show (60 : Int) ≠ 0 by omega)) (Int.emod_lt_of_pos n0 (show (0 : Int) < 60 by omega))
  have b4 := And.intro (Int.emod_nonneg t0 (show (1000 : Int) ≠ 0 by omega)) (Int.emod_lt_of_pos t0 (show (0 : Int) < 1000 by omega))
  have b5 := And.intro (Int.emod_nonneg n0 (show (65 : Int) ≠ 0 by omega)) (Int.emod_lt_of_pos n0 (show (0 : Int) < 65 by omega))
  have c1 := fun w => keep_within n0 50 w hn (by omega) (by omega)
  have c2 := fun w => keep_within n0 1000 w hn (by omega) (by omega)
  have c3 := fun w => keep_within n0 60 w hn (by omega) (by omega)
  have c4 := fun w => keep_within t0 1000 w ht (by omega) (by omega)
  have c5 := fun w => keep_within n0 65 w hn (by omega) (by omega)
  generalize n0 % 50 = p1 at *
  generalize n0 % 1000 = p2 at *
  generalize n0 % 60 = p3 at *
  generalize t0 % 1000 = p4 at *
  generalize n0 % 65 = p5 at *
  obtain ⟨m1, rfl⟩ := Int.eq_ofNat_of_zero_le b1.1
  obtain ⟨m5, rfl⟩ := Int.eq_ofNat_of_zero_le b5.1
  have hm := many64 m1 (by omega)
  have C1 := Lib.hid c1
  have C2 := Lib.hid c2
  have C3 := Lib.hid c3
  have C4 := Lib.hid c4
  have C5 := Lib.hid c5
  have HM := Lib.hid hm
  clear c1 c2 c3 c4 c5 hm
  have b5' : m5 ≤ 64 := by omega
  have b1' : m1 < 50 := by omega
  go_enter Try.func11, Try.ntmps11
  go_wp2_with fail
  refine (C1.out _).mono ?_
  rintro e w1 ⟨rfl, rfl⟩
  go_wp2_with fail
  rw [show (3 : Int) + m1 = ((3 + m1 : Nat) : Int) by omega]
  refine (sets_all_many 64 (3 + m1) _ (by omega) (by omega) (by rw [HM.out]; omega) (by rw [HM.out]; omega)).mono ?_
  rintro e w1 ⟨rfl, rfl⟩
  go_wp2_with fail
  refine (C2.out _).mono ?_
  rintro e w1 ⟨rfl, rfl⟩
  go_wp2_with fail
  refine (sets_all_err _ _ (by omega) (by omega) _ (decide_eq_false (by omega))).mono ?_
  rintro e w1 ⟨rfl, rfl⟩
  go_wp2_with fail
  refine (C3.out _).mono ?_
  rintro e w1 ⟨rfl, rfl⟩
  go_wp2_with fail
  refine (C4.out _).mono ?_
  rintro e w1 ⟨rfl, rfl⟩
  go_wp2_with fail
  refine (sets_all_err _ _ (by omega) (by omega) _ (decide_eq_false (by omega))).mono ?_
  rintro e w1 ⟨rfl, rfl⟩
  go_wp2_with fail
  refine (C2.out _).mono ?_
  rintro e w1 ⟨rfl, rfl⟩
  go_wp2_with fail
  refine (sets_all_err _ _ (by omega) (by omega) _ (decide_eq_false (by omega))).mono ?_
  rintro e w1 ⟨rfl, rfl⟩
  go_wp2_with fail
  refine (C5.out _).mono ?_
  rintro e w1 ⟨rfl, rfl⟩
  go_wp2_with fail
  refine (sets_all m5 0 _ (by omega) (by omega) (by simp [cnt, cntF]) (by rw [fromL_zero]; simp)).mono ?_
  rintro e w1 ⟨v, rfl, ho, hb⟩
  rw [fromL_zero] at ho
  obtain ⟨a, c, rfl, hr⟩ := rdl_of_out ho
  clear ho
  obtain ⟨b, o, a', c', rfl, hlt, hc, -⟩ := hr.at (i := 0) (l := []) rfl
  clear hr
  simp only [List.length_singleton, List.length_nil, Nat.add_zero] at hc ⊢
  have HB := Lib.hid hb
  clear hb
  go_wp2_with fail
  refine (wakes26 _).mono ?_
  rintro e w2 ⟨rfl, hb⟩
  go_wp2_with fail
  go_ret
  exact ⟨rfl, HB.out.trans (hb.mono HB.out.size)⟩
end Go.Proofs.Ytmaofhbnmkcimaa
