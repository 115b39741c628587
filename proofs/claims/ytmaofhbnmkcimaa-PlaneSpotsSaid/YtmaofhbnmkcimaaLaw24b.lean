/- The walk of wellspringlaw24.PlaneSpots. -/
import Derived.Test.YtmaofhbnmkcimaaLaw24a
namespace Go.Proofs.Ytmaofhbnmkcimaa
open Go.RowKit
set_option linter.unusedVariables false

theorem fz_unlike {x r : Nat} {a : Int} {t : Bool} {m Q : Nat} (hx : Fz x a) (hr : Ieee.double.read r = .number t m (-(Q : Int))) (hm : m % 2 ^ Q ≠ 0) : (FloatKind.f64.format.order x r == some .eq) = false := by
  obtain ⟨s, N, P, h1, ha⟩ := hx
  have e : FloatKind.f64.format.order x r = (Ieee.double.read x).order (Ieee.double.read r) := rfl
  rw [e, h1, hr, beq_eq_false_iff_ne]
  obtain ⟨M, hM⟩ : ∃ M, M = max P Q := ⟨_, rfl⟩
  have hbase : min (-(P : Int)) (-(Q : Int)) = -(M : Int) := by omega
  unfold Ieee.Datum.order
  simp only [hbase]
  rw [show (-(P : Int) - -(M : Int)).toNat = M - P by omega, show (-(Q : Int) - -(M : Int)).toNat = M - Q by omega, signed_eq s N P M (by omega), ← ha]
  intro hc
  have h2 : a * 2 ^ M = Ieee.signed t m (M - Q) := Int.compare_eq_eq.1 (Option.some.inj hc)
  have h3 : (a * 2 ^ M).natAbs = m <<< (M - Q) := by
    rw [h2]; unfold Ieee.signed; split
    · rw [Int.natAbs_neg, Int.natAbs_natCast]
    · rw [Int.natAbs_natCast]
  rw [natAbs_pow, Nat.shiftLeft_eq, show M = Q + (M - Q) by omega, Nat.pow_add, ← Nat.mul_assoc, show Q + (M - Q) - Q = M - Q by omega] at h3
  have h4 := Nat.eq_of_mul_eq_mul_right (Nat.pow_pos (by omega)) h3
  exact hm (by rw [← h4, Nat.mul_mod_left])

def halfB (x : Int) : Bool := match floatBits .add .f64 (floatOfInt .f64 x) 4602678819172646912 with
  | some r => match Ieee.double.read r with
    | .number _ m p => decide (p ≤ 0) && decide (m % 2 ^ (-p).toNat ≠ 0)
    | _ => false
  | none => false
theorem half_tab : ((List.range 81).all fun i => halfB ((i : Int) - 40)) = true := by decide +kernel
theorem half_ok {x : Int} (h : -40 ≤ x ∧ x ≤ 40) : ∃ r, floatBits .add .f64 (floatOfInt .f64 x) 4602678819172646912 = some r ∧ ∀ ar a, Fz ar a → (FloatKind.f64.format.order ar r == some .eq) = false := by
  have h1 := List.all_eq_true.1 half_tab (x + 40).toNat (List.mem_range.2 (by omega))
  rw [show (((x + 40).toNat : Nat) : Int) - 40 = x by omega] at h1
  unfold halfB at h1
  cases hf : floatBits .add .f64 (floatOfInt .f64 x) 4602678819172646912 with
  | none => rw [hf] at h1; simp at h1
  | some r =>
    rw [hf] at h1
    refine ⟨r, rfl, fun ar a hz => ?_⟩
    cases hr : Ieee.double.read r with
    | infinity s => simp [hr] at h1
    | nan s f => simp [hr] at h1
    | number t m p =>
      simp only [hr, Bool.and_eq_true, decide_eq_true_eq] at h1
      obtain ⟨Q, hQ⟩ : ∃ Q : Nat, p = -(Q : Int) := ⟨(-p).toNat, by omega⟩
      subst hQ
      rw [show (-(-(Q : Int))).toNat = Q by omega] at h1
      exact fz_unlike hz hr h1.2
theorem fst_none {f : Nat → Bool} (h : ∀ k, f k = false) : ∀ (j k : Nat), fstK f k j = none := by
  intro j
  induction j with
  | zero => intro k; rfl
  | succ j ih => intro k; rw [fstK, h k, if_neg (by simp)]; exact ih (k + 1)
theorem plane_spotH (x : Int) (hx : -40 ≤ x ∧ x ≤ 40) (zi : Nat) (y : Int) (hzi : Fz zi y) (hy : y.natAbs < 9007199254740991) :
    ∃ r i, cSumBits .add .f64 (floatOfInt .f64 x) zi 4602678819172646912 0 = some (r, i) ∧ ∀ w, Calls Try.prog 13 #[.complex .f64 r i] w fun e w' => e = .returned (.tuple #[.int .i64 0, .bool false]) ∧ Below w.heap.size w w' := by
  obtain ⟨r, e1, h1⟩ := half_ok hx
  obtain ⟨i, e2, _⟩ := fz_add hzi fz_zero (by omega)
  refine ⟨r, i, by unfold cSumBits; rw [e1, e2]; rfl, fun w => ?_⟩
  have := plane_spot r i (fun _ => false) w (fun k ar ai _ hz => by rw [h1 ar _ hz.1]; rfl)
  have e3 : spotV (fun _ => false) = .tuple #[.int .i64 0, .bool false] := by unfold spotV; rw [fst_none (fun _ => rfl)]
  rwa [e3] at this

theorem run_max4 (P : Program) (w : World) (ts : Array TypeId) (t : TypeId) (x y z u : Int) : ∃ m : Int, (x ≤ m ∧ y ≤ m ∧ z ≤ m ∧ u ≤ m ∧ (m = x ∨ m = y ∨ m = z ∨ m = u)) ∧ ∀ w : World, (Builtin.max_ ts t #[.int .i64 x, .int .i64 y, .int .i64 z, .int .i64 u]).run P w = .ok (.int .i64 m) w := by
  refine ⟨if u > (if z > (if y > x then y else x) then z else (if y > x then y else x)) then u else (if z > (if y > x then y else x) then z else (if y > x then y else x)), ?_, fun w => ?_⟩
  · repeat' split
    all_goals omega
  · simp [Builtin.max_, Builtin.max2]

set_option maxRecDepth 100000 in
set_option maxHeartbeats 4000000 in
theorem planeSpots_walk (w : World) (x0 : Int) (hx : -9223372036854775808 ≤ x0 ∧ x0 ≤ 9223372036854775807) (y0 : Int) (hy : -9223372036854775808 ≤ y0 ∧ y0 ≤ 9223372036854775807) :
    Calls Try.prog 3 #[.int .i64 x0, .int .i64 y0] w fun e w' => e = .returned (.bool true) ∧ Below w.heap.size w w' := by
  have bx := And.intro (Int.emod_nonneg x0 (show (81 : Int) ≠ 0 by omega)) (Int.emod_lt_of_pos x0 (show (0 : Int) < 81 by omega))
  have by' := And.intro (Int.emod_nonneg y0 (show (81 : Int) ≠ 0 by omega)) (Int.emod_lt_of_pos y0 (show (0 : Int) < 81 by omega))
  have cx := fun w => keep_within x0 81 w hx (by omega) (by omega)
  have cy := fun w => keep_within y0 81 w hy (by omega) (by omega)
  generalize x0 % 81 = p at *
  generalize y0 % 81 = q at *
  obtain ⟨x, rfl⟩ : ∃ x, p = x + 40 := ⟨p - 40, by omega⟩
  obtain ⟨y, rfl⟩ : ∃ y, q = y + 40 := ⟨q - 40, by omega⟩
  have ex : x + 40 - 40 = x := by omega
  have ey : y + 40 - 40 = y := by omega
  have fx := fz_ofInt x (by omega)
  have fy := fz_ofInt y (by omega)
  obtain ⟨hr, hi, hadd, hsp⟩ := plane_spotH x (by omega) (floatOfInt .f64 y) y fy (by omega)
  have hop := fun t w => run_complex_sum (P := Try.prog) w .add (Or.inl rfl) t .f64 _ _ _ _ hr hi hadd
  generalize hzr : floatOfInt .f64 x = zr at *
  generalize hzi : floatOfInt .f64 y = zi at *
  have CZ := Lib.hid (And.intro fx fy : Cz zr zi x y)
  have HSP := Lib.hid hsp
  clear fx fy hsp hadd
  have CX := Lib.hid cx
  have CY := Lib.hid cy
  clear cx cy
  go_enter Try.func3, Try.ntmps3
  go_wp2_with fail
  refine (CX.out _).mono ?_
  rintro e w1 ⟨rfl, rfl⟩
  go_wp2_with fail
  refine (CY.out _).mono ?_
  rintro e w1 ⟨rfl, rfl⟩
  have bx' : -40 ≤ x ∧ x ≤ 40 := by omega
  have by2 : -40 ≤ y ∧ y ≤ 40 := by omega
  clear bx by'
  obtain ⟨M, hM, hmax⟩ := run_max4 Try.prog w #[3, 3, 3, 3] 3 x (-x) y (-y)
  go_wp2_with fail
  refine (plane_spotI zr zi x y CZ.out _).mono ?_
  rintro e w1 ⟨rfl, hb1⟩
  rcases spot_cases x y with ⟨k, hk, hx1, hy1, hv⟩ | ⟨hno, hv⟩
  · rw [hv]
    have h32 := it_32 hk
    rw [hx1, hy1] at h32
    have hM32 : ¬ 32 < M := by omega
    have CA : Hid (∀ w, Calls Try.prog 14 #[.int .i64 k] w fun e w' => ∃ r i, e = .returned (.complex .f64 r i) ∧ Cz r i x y ∧ Below w.heap.size w w') := Lib.hid fun w => by
      have := plane_at (k : Int) (by omega) w
      rw [atN_nat hk, hx1, hy1] at this
      exact this
    clear hx1 hy1 hv h32
    have hk' : (k : Int) ≤ 4095 := by omega
    by_cases hnear : M < 32
    all_goals
      go_wp2_with (simp only [hop, hmax])
      refine (HSP.out _).mono ?_
      rintro e w2 ⟨rfl, hb2⟩
      go_wp2_with (simp only [hop, hmax])
      refine (CA.out _).mono ?_
      rintro e w3 ⟨r, i, rfl, hz, hb3⟩
      have hq := cz_eq hz CZ.out
      rw [decide_eq_true ⟨rfl, rfl⟩] at hq
      clear hz
      go_wp2_with (simp only [hop, hmax])
      refine (wakes24 _).mono ?_
      rintro e w4 ⟨rfl, hb4⟩
      go_wp2_with fail
      go_ret
      exact ⟨rfl, by
        have z2 := hb1.trans (hb2.mono hb1.size)
        have z3 := z2.trans (hb3.mono z2.size)
        exact z3.trans (hb4.mono z3.size)⟩
  · rw [hv]
    have hnear : ¬ M < 32 := by
      intro hlt
      obtain ⟨k, hk, e1, e2⟩ := near_it (x := x) (y := y) (R := 31) (by omega) (by omega) (by omega)
      exact hno k (by omega) ⟨e1, e2⟩
    clear hno hv
    by_cases hfar : 32 < M
    all_goals
      go_wp2_with (simp only [hop, hmax])
      refine (HSP.out _).mono ?_
      rintro e w2 ⟨rfl, hb2⟩
      go_wp2_with (simp only [hop, hmax])
      refine (wakes24 _).mono ?_
      rintro e w4 ⟨rfl, hb4⟩
      go_wp2_with fail
      go_ret
      exact ⟨rfl, by
        have z2 := hb1.trans (hb2.mono hb1.size)
        exact z2.trans (hb4.mono z2.size)⟩
end Go.Proofs.Ytmaofhbnmkcimaa
