/- The walk of wellspringlaw24.PlaneSquares. -/
import Derived.Test.YtmaofhbnmkcimaaLaw24a
import Derived.Test.YtmaofhbnmkcimaaPlaneC
namespace Go.Proofs.Ytmaofhbnmkcimaa
open Go.RowKit
set_option linter.unusedVariables false

theorem sqr_eq (r : Nat) : (2 * (r : Int) + 1) * (2 * (r : Int) + 1) = (((2 * r + 1) * (2 * r + 1) : Nat) : Int) := by
  rw [Int.natCast_mul]; rfl

set_option maxRecDepth 100000 in
set_option maxHeartbeats 4000000 in
theorem planeSquares_walk (w : World) (r0 : Int) (hr : -9223372036854775808 ≤ r0 ∧ r0 ≤ 9223372036854775807) (x0 : Int) (hx : -9223372036854775808 ≤ x0 ∧ x0 ≤ 9223372036854775807) (y0 : Int) (hy : -9223372036854775808 ≤ y0 ∧ y0 ≤ 9223372036854775807) :
    Calls Try.prog 4 #[.int .i64 r0, .int .i64 x0, .int .i64 y0] w fun e w' => e = .returned (.bool true) ∧ Below w.heap.size w w' := by
  have m1 := Int.emod_nonneg r0 (show (32 : Int) ≠ 0 by omega)
  have m2 := Int.emod_lt_of_pos r0 (show (0 : Int) < 32 by omega)
  have hq : ∀ w : World, Calls Try.prog 12 #[.int .i64 r0, .int .i64 32] w fun e w' => e = .returned (.int .i64 (r0 % 32)) ∧ w = w' := fun w => keep_within r0 32 w hr (by omega) (by omega)
  generalize r0 % 32 = p at *
  obtain ⟨r, rfl⟩ := Int.eq_ofNat_of_zero_le m1
  have hr31 : r ≤ 31 := by omega
  have hsq := sq_31 hr31
  have hpos : 1 ≤ (2 * r + 1) * (2 * r + 1) := Nat.mul_le_mul (show 1 ≤ 2 * r + 1 by omega) (show 1 ≤ 2 * r + 1 by omega)
  have hN := sqr_eq r
  have hc := corner hr31
  have hnear := fun (x y : Int) => near_it (x := x) (y := y) hr31
  have k1 := Int.emod_nonneg x0 (show (2 * (r : Int) + 1) ≠ 0 by omega)
  have k2 := Int.emod_lt_of_pos x0 (show (0 : Int) < 2 * (r : Int) + 1 by omega)
  have j1 := Int.emod_nonneg y0 (show (2 * (r : Int) + 1) ≠ 0 by omega)
  have j2 := Int.emod_lt_of_pos y0 (show (0 : Int) < 2 * (r : Int) + 1 by omega)
  have hqx : ∀ w : World, Calls Try.prog 12 #[.int .i64 x0, .int .i64 (2 * (r : Int) + 1)] w fun e w' => e = .returned (.int .i64 (x0 % (2 * (r : Int) + 1))) ∧ w = w' := fun w => keep_within x0 _ w hx (by omega) (by omega)
  have hqy : ∀ w : World, Calls Try.prog 12 #[.int .i64 y0, .int .i64 (2 * (r : Int) + 1)] w fun e w' => e = .returned (.int .i64 (y0 % (2 * (r : Int) + 1))) ∧ w = w' := fun w => keep_within y0 _ w hy (by omega) (by omega)
  generalize x0 % (2 * (r : Int) + 1) = a at *
  generalize y0 % (2 * (r : Int) + 1) = b at *
  obtain ⟨x, rfl⟩ : ∃ x, a = x + r := ⟨a - r, by omega⟩
  obtain ⟨y, rfl⟩ : ∃ y, b = y + r := ⟨b - r, by omega⟩
  have ex : x + (r : Int) - r = x := by omega
  have ey : y + (r : Int) - r = y := by omega
  obtain ⟨k, hk, hk1, hk2⟩ := hnear x y (by omega) (by omega)
  have s1 := spot_found (k := k) (by omega) hk1 hk2
  generalize hNN : (2 * r + 1) * (2 * r + 1) = N at *
  have cA : ∀ w, Calls Try.prog 14 #[.int .i64 ((N : Int) - 1)] w fun e w' => ∃ ar ai, e = .returned (.complex .f64 ar ai) ∧ Cz ar ai r (-(r : Int)) ∧ Below w.heap.size w w' := fun w => by
    have := plane_at ((N - 1 : Nat) : Int) (by omega) w
    rw [atN_nat (by omega), hc.1, hc.2, show ((N - 1 : Nat) : Int) = (N : Int) - 1 by omega] at this
    exact this
  have fx := fz_ofInt x (by omega)
  have fy := fz_ofInt y (by omega)
  have fr := fz_ofInt (r : Int) (by omega)
  have fr' := fz_ofInt (-(r : Int)) (by omega)
  generalize hzx : floatOfInt .f64 x = zx at *
  generalize hzy : floatOfInt .f64 y = zy at *
  generalize hzr : floatOfInt .f64 (r : Int) = zr at *
  generalize hzs : floatOfInt .f64 (-(r : Int)) = zs at *
  have hkN : (k : Int) < N := by omega
  have HQ := Lib.hid hq
  have HQX := Lib.hid hqx
  have HQY := Lib.hid hqy
  have CA := Lib.hid cA
  have S1 := Lib.hid s1
  have FX := Lib.hid (And.intro fx fy : Cz zx zy x y)
  have FR := Lib.hid (And.intro fr fr' : Cz zr zs r (-(r : Int)))
  clear hq hqx hqy cA s1 hnear hc hk1 hk2 hNN fx fy fr fr'
  go_enter Try.func4, Try.ntmps4
  go_wp2_with fail
  refine (HQ.out _).mono ?_
  rintro e w1 ⟨rfl, rfl⟩
  go_wp2_with fail
  refine (HQX.out _).mono ?_
  rintro e w1 ⟨rfl, rfl⟩
  go_wp2_with fail
  refine (HQY.out _).mono ?_
  rintro e w1 ⟨rfl, rfl⟩
  go_wp2_with fail
  refine (plane_spotI zx zy x y FX.out _).mono ?_
  rintro e w3 ⟨rfl, hb3⟩
  have HB3 := Lib.hid hb3
  clear hb3
  rw [S1.out]
  go_wp2_with fail
  refine (CA.out _).mono ?_
  rintro e w4 ⟨ar, ai, rfl, hz, hb4⟩
  have hq := cz_eq hz FR.out
  rw [decide_eq_true ⟨rfl, rfl⟩] at hq
  have HB4 := Lib.hid hb4
  clear hz hb4
  go_wp2_with fail
  refine (wakes24 _).mono ?_
  rintro e w6 ⟨rfl, hb6⟩
  go_wp2_with fail
  go_ret
  exact ⟨rfl, by
    have z3 := HB3.out
    have z4 := z3.trans (HB4.out.mono z3.size)
    exact z4.trans (hb6.mono z4.size)⟩
end Go.Proofs.Ytmaofhbnmkcimaa
