/- The walks of wellspringlaw26: wakes, CountAdds. -/
import Derived.Test.YtmaofhbnmkcimaaSetsC
import Derived.Test.YtmaofhbnmkcimaaSetsNum
namespace Go.Proofs.Ytmaofhbnmkcimaa
open Go.RowKit
set_option linter.unusedVariables false

set_option maxRecDepth 100000 in
set_option maxHeartbeats 1000000 in
theorem wakes26 (w : World) : Calls Try.prog 25 #[] w fun e w' => e = .returned (.bool true) ∧ Below w.heap.size w w' := by
  have h1 : cnt 3 2 = 3 := by decide +kernel
  have h2 : cntI 64 2 = 2016 := by decide +kernel
  have h3 : (fromL 3 2 0).length = 3 := by decide +kernel
  have H1 := Lib.hid h1
  have H3 := Lib.hid h3
  clear h1 h3
  go_enter Try.func25, Try.ntmps25
  go_wp2_with fail
  refine (sets_all 3 2 _ (by omega) (by omega) (by rw [H1.out]; omega) (by rw [H3.out]; omega)).mono ?_
  rintro e w1 ⟨v, rfl, ⟨vs, ho, _⟩, hb⟩
  rw [H3.out] at ho
  obtain ⟨a, c, rfl, _⟩ := rd_of_own ho
  clear ho
  go_wp2_with fail
  refine (sets_count 64 2 (by omega) (by omega) _).mono ?_
  rintro e w2 ⟨rfl, rfl⟩
  go_wp2_with fail
  go_ret
  exact ⟨rfl, hb⟩

set_option maxRecDepth 100000 in
set_option maxHeartbeats 4000000 in
theorem countAdds_walk (w : World) (n0 : Int) (hn : -9223372036854775808 ≤ n0 ∧ n0 ≤ 9223372036854775807) (t0 : Int) (ht : -9223372036854775808 ≤ t0 ∧ t0 ≤ 9223372036854775807) :
    Calls Try.prog 9 #[.int .i64 n0, .int .i64 t0] w fun e w' => e = .returned (.bool true) ∧ Below w.heap.size w w' := by
  have m1 := Int.emod_nonneg n0 (show (64 : Int) ≠ 0 by omega)
  have m2 := Int.emod_lt_of_pos n0 (show (0 : Int) < 64 by omega)
  have hq : ∀ w : World, Calls Try.prog 12 #[.int .i64 n0, .int .i64 64] w fun e w' => e = .returned (.int .i64 (n0 % 64)) ∧ w = w' := fun w => keep_within n0 64 w hn (by omega) (by omega)
  generalize n0 % 64 = p at *
  obtain ⟨a, rfl⟩ := Int.eq_ofNat_of_zero_le m1
  have k1 := Int.emod_nonneg t0 (show (1 + (a : Int)) ≠ 0 by omega)
  have k2 := Int.emod_lt_of_pos t0 (show (0 : Int) < 1 + (a : Int) by omega)
  have hq2 : ∀ w : World, Calls Try.prog 12 #[.int .i64 t0, .int .i64 (1 + (a : Int))] w fun e w' => e = .returned (.int .i64 (t0 % (1 + (a : Int)))) ∧ w = w' := fun w => keep_within t0 _ w ht (by omega) (by omega)
  generalize t0 % (1 + (a : Int)) = q at *
  obtain ⟨b, rfl⟩ := Int.eq_ofNat_of_zero_le k1
  have HQ := Lib.hid hq
  have HQ2 := Lib.hid hq2
  clear hq hq2
  have ha : a < 64 := by omega
  have hb : b ≤ a := by omega
  -- the counts
  have c1 : cntI (1 + (a : Int)) (1 + (b : Int)) = cnt (a + 1) (b + 1) := by rw [cntI_in (by omega) (by omega) (by omega) (by omega)]; congr 1 <;> omega
  have c2 : cntI (1 + (a : Int) - 1) (1 + (b : Int)) = if b + 1 ≤ a then cnt a (b + 1) else 0 := by
    by_cases h : b + 1 ≤ a
    · rw [if_pos h, cntI_in (by omega) (by omega) (by omega) (by omega)]; rw [show (1 + (a : Int) - 1).toNat = a by omega, show (1 + (b : Int)).toNat = b + 1 by omega]
    · rw [if_neg h, cntI_out (by omega)]
  have c3 : cntI (1 + (a : Int) - 1) (1 + (b : Int) - 1) = cnt a b := by rw [cntI_in (by omega) (by omega) (by omega) (by omega)]; congr 1 <;> omega
  have c4 : cntI (1 + (a : Int)) (1 + (a : Int) - (1 + (b : Int))) = cnt (a + 1) (b + 1) := by
    rw [cntI_in (by omega) (by omega) (by omega) (by omega), ← cnt_flip (a + 1) (b + 1) (by omega)]
    congr 1 <;> omega
  have c5 : cntI (1 + (a : Int)) 0 = 1 := by rw [cntI_in (by omega) (by omega) (by omega) (by omega)]; simp [cnt, cntF]
  have c6 : cntI (1 + (a : Int)) (1 + (a : Int)) = 1 := by rw [cntI_in (by omega) (by omega) (by omega) (by omega)]; simp [cnt, cntF]
  have c7 : cntI (1 + (a : Int)) (1 + (a : Int) + 1) = 0 := cntI_out (by omega)
  have c8 : cntI (1 + (a : Int)) (-(1 + (b : Int))) = 0 := cntI_out (by omega)
  have c9 : cntI (64 + (1 + (a : Int))) (1 + (b : Int)) = 0 := cntI_out (by omega)
  have hsum : (cnt (a + 1) (b + 1) : Int) = min (((if b + 1 ≤ a then cnt a (b + 1) else 0 : Nat) : Int) + (cnt a b : Int)) 4097 := by
    rw [cnt_ch (by omega) (by omega), cnt_ch (n := a) (t := b) (by omega) (by omega), ch_step (by omega) (by omega), Nat.add_sub_cancel, Nat.add_sub_cancel]
    by_cases h : b + 1 ≤ a
    · rw [if_pos h, cnt_ch (by omega) h]; omega
    · rw [if_neg h, ch_big a (b + 1) (by omega)]; omega
  have hle1 := cnt_le (n := a + 1) (t := b + 1) (by omega) (by omega)
  have hle2 : (if b + 1 ≤ a then cnt a (b + 1) else 0) ≤ 4097 := by
    split
    · exact cnt_le (by omega) (by omega)
    · omega
  have hle3 := cnt_le (n := a) (t := b) (by omega) (by omega)
  have C1 := Lib.hid c1
  have C2 := Lib.hid c2
  have C3 := Lib.hid c3
  have C4 := Lib.hid c4
  have C5 := Lib.hid c5
  have C6 := Lib.hid c6
  have C7 := Lib.hid c7
  have C8 := Lib.hid c8
  have C9 := Lib.hid c9
  clear c1 c2 c3 c4 c5 c6 c7 c8 c9
  generalize cnt (a + 1) (b + 1) = x at *
  generalize (if b + 1 ≤ a then cnt a (b + 1) else 0) = y at *
  generalize cnt a b = z at *
  have HS := Lib.hid hsum
  clear hsum
  go_enter Try.func9, Try.ntmps9
  go_wp2_with fail
  refine (HQ.out _).mono ?_
  rintro e w1 ⟨rfl, rfl⟩
  go_wp2_with fail
  refine (HQ2.out _).mono ?_
  rintro e w1 ⟨rfl, rfl⟩
  go_wp2_with fail
  refine (sets_count _ _ (by omega) (by omega) _).mono ?_
  rintro e w1 ⟨rfl, rfl⟩
  rw [C1.out]
  go_wp2_with fail
  refine (sets_count _ _ (by omega) (by omega) _).mono ?_
  rintro e w1 ⟨rfl, rfl⟩
  rw [C2.out]
  go_wp2_with fail
  refine (sets_count _ _ (by omega) (by omega) _).mono ?_
  rintro e w1 ⟨rfl, rfl⟩
  rw [C3.out]
  have D : ((y : Int) + z ≤ 4097 ∧ ((x : Int) == (y : Int) + z) = true) ∨ (¬ (y : Int) + z ≤ 4097 ∧ ((x : Int) == 4097) = true) := by
    have := HS.out
    by_cases h : (y : Int) + z ≤ 4097
    · exact .inl ⟨h, by rw [beq_iff_eq]; omega⟩
    · exact .inr ⟨h, by rw [beq_iff_eq]; omega⟩
  have sx : ((x : Int) == x) = true := beq_self_eq_true _
  rcases D with ⟨D1, D2⟩ | ⟨D1, D2⟩ <;> (
    go_wp2_with fail
    refine (sets_count _ _ (by omega) (by omega) _).mono ?_
    rintro e w1 ⟨rfl, rfl⟩
    rw [C4.out]
    go_wp2_with fail
    refine (sets_count _ _ (by omega) (by omega) _).mono ?_
    rintro e w1 ⟨rfl, rfl⟩
    rw [C5.out]
    go_wp2_with fail
    refine (sets_count _ _ (by omega) (by omega) _).mono ?_
    rintro e w1 ⟨rfl, rfl⟩
    rw [C6.out]
    go_wp2_with fail
    refine (sets_count _ _ (by omega) (by omega) _).mono ?_
    rintro e w1 ⟨rfl, rfl⟩
    rw [C7.out]
    go_wp2_with fail
    refine (sets_count _ _ (by omega) (by omega) _).mono ?_
    rintro e w1 ⟨rfl, rfl⟩
    rw [C8.out]
    go_wp2_with fail
    refine (sets_count _ _ (by omega) (by omega) _).mono ?_
    rintro e w1 ⟨rfl, rfl⟩
    rw [C9.out]
    go_wp2_with fail
    refine (wakes26 _).mono ?_
    rintro e w1 ⟨rfl, hb⟩
    go_wp2_with fail
    go_ret
    exact ⟨rfl, hb⟩)
end Go.Proofs.Ytmaofhbnmkcimaa
