/- The walks of wellspringlaw24.PlaneSteps and PlaneSquares. -/
import Derived.Test.YtmaofhbnmkcimaaLaw24a
import Derived.Test.YtmaofhbnmkcimaaPlaneC
namespace Go.Proofs.Ytmaofhbnmkcimaa
open Go.RowKit
set_option linter.unusedVariables false

theorem it_dir (k : Nat) : ((Sp.it k).dx = 1 ∧ (Sp.it k).dy = 0) ∨ ((Sp.it k).dx = 0 ∧ (Sp.it k).dy = 1) ∨ ((Sp.it k).dx = -1 ∧ (Sp.it k).dy = 0) ∨ ((Sp.it k).dx = 0 ∧ (Sp.it k).dy = -1) := by
  induction k with
  | zero => decide
  | succ k ih =>
    simp only [Sp.it, Sp.on]
    split
    · exact ih
    · show (-(Sp.it k).dy = 1 ∧ (Sp.it k).dx = 0) ∨ (-(Sp.it k).dy = 0 ∧ (Sp.it k).dx = 1) ∨ (-(Sp.it k).dy = -1 ∧ (Sp.it k).dx = 0) ∨ (-(Sp.it k).dy = 0 ∧ (Sp.it k).dx = -1)
      omega
theorem it_xy (k : Nat) : (Sp.it (k + 1)).x = (Sp.it k).x + (Sp.it k).dx ∧ (Sp.it (k + 1)).y = (Sp.it k).y + (Sp.it k).dy := by
  simp only [Sp.it, Sp.on]
  split <;> exact ⟨rfl, rfl⟩
theorem it_far (k : Nat) : farI (Sp.it k).x (Sp.it k).y (Sp.it (k + 1)).x (Sp.it (k + 1)).y = 1 := by
  have h1 := it_xy k
  rw [h1.1, h1.2]
  unfold farI
  rw [show (Sp.it k).x - ((Sp.it k).x + (Sp.it k).dx) = -(Sp.it k).dx by omega, show (Sp.it k).y - ((Sp.it k).y + (Sp.it k).dy) = -(Sp.it k).dy by omega]
  rcases it_dir k with ⟨e1, e2⟩ | ⟨e1, e2⟩ | ⟨e1, e2⟩ | ⟨e1, e2⟩ <;> rw [e1, e2] <;> decide

set_option maxRecDepth 100000 in
set_option maxHeartbeats 4000000 in
theorem planeSteps_walk (w : World) (n0 : Int) (hn : -9223372036854775808 ≤ n0 ∧ n0 ≤ 9223372036854775807) :
    Calls Try.prog 6 #[.int .i64 n0] w fun e w' => e = .returned (.bool true) ∧ Below w.heap.size w w' := by
  have m1 := Int.emod_nonneg n0 (show (4095 : Int) ≠ 0 by omega)
  have m2 := Int.emod_lt_of_pos n0 (show (0 : Int) < 4095 by omega)
  have hq : ∀ w : World, Calls Try.prog 12 #[.int .i64 n0, .int .i64 4095] w fun e w' => e = .returned (.int .i64 (n0 % 4095)) ∧ w = w' := fun w => keep_within n0 4095 w hn (by omega) (by omega)
  generalize n0 % 4095 = p at *
  obtain ⟨m, rfl⟩ := Int.eq_ofNat_of_zero_le m1
  have hm : m < 4095 := by omega
  have ca : ∀ w, Calls Try.prog 14 #[.int .i64 m] w fun e w' => ∃ r i, e = .returned (.complex .f64 r i) ∧ Cz r i (Sp.it m).x (Sp.it m).y ∧ Below w.heap.size w w' := fun w => by
    have := plane_at (m : Int) (by omega) w
    rwa [atN_nat (by omega)] at this
  have cb : ∀ w, Calls Try.prog 14 #[.int .i64 ((m : Int) + 1)] w fun e w' => ∃ r i, e = .returned (.complex .f64 r i) ∧ Cz r i (Sp.it (m + 1)).x (Sp.it (m + 1)).y ∧ Below w.heap.size w w' := fun w => by
    have := plane_at ((m + 1 : Nat) : Int) (by omega) w
    rwa [atN_nat (by omega)] at this
  have s1 := spot_found (k := m) (by omega) rfl rfl
  have s2 := spot_found (k := m + 1) (by omega) rfl rfl
  have hf := it_far m
  have b1 := it_32 (k := m) (by omega)
  have b2 := it_32 (k := m + 1) (by omega)
  generalize (Sp.it m).x = x at *
  generalize (Sp.it m).y = y at *
  generalize (Sp.it (m + 1)).x = u at *
  generalize (Sp.it (m + 1)).y = v at *
  have s2 : spotV (spF u v) = .tuple #[.int .i64 ((m : Int) + 1), .bool true] := s2
  have HQ := Lib.hid hq
  have CA := Lib.hid ca
  have CB := Lib.hid cb
  have S1 := Lib.hid s1
  have S2 := Lib.hid s2
  have HF := Lib.hid hf
  clear hq ca cb s1 s2 hf
  go_enter Try.func6, Try.ntmps6
  go_wp2_with fail
  refine (HQ.out _).mono ?_
  rintro e w1 ⟨rfl, rfl⟩
  go_wp2_with fail
  refine (CA.out _).mono ?_
  rintro e w1 ⟨ar, ai, rfl, ha, hb1⟩
  have HA := Lib.hid ha
  have HB1 := Lib.hid hb1
  clear ha hb1
  go_wp2_with fail
  refine (CB.out _).mono ?_
  rintro e w2 ⟨br, bi, rfl, hb, hb2⟩
  have HB := Lib.hid hb
  have HB2 := Lib.hid hb2
  clear hb hb2
  go_wp2_with fail
  refine (plane_spotI ar ai x y HA.out _).mono ?_
  rintro e w3 ⟨rfl, hb3⟩
  have HB3 := Lib.hid hb3
  clear hb3
  rw [S1.out]
  go_wp2_with fail
  refine (plane_spotI br bi u v HB.out _).mono ?_
  rintro e w4 ⟨rfl, hb4⟩
  have HB4 := Lib.hid hb4
  clear hb4
  rw [S2.out]
  go_wp2_with fail
  refine (plane_far ar ai br bi x y u v HA.out HB.out (by omega) (by omega) _).mono ?_
  rintro e w5 ⟨r, rfl, hz, rfl⟩
  rw [HF.out] at hz
  have hq := fz_eq hz fz_one
  rw [decide_eq_true rfl] at hq
  clear hz
  go_wp2_with fail
  refine (wakes24 _).mono ?_
  rintro e w6 ⟨rfl, hb6⟩
  go_wp2_with fail
  go_ret
  exact ⟨rfl, by
    have z1 := HB1.out
    have z2 := z1.trans (HB2.out.mono z1.size)
    have z3 := z2.trans (HB3.out.mono z2.size)
    have z4 := z3.trans (HB4.out.mono z3.size)
    exact z4.trans (hb6.mono z4.size)⟩

end Go.Proofs.Ytmaofhbnmkcimaa
