/- The walk of wellspringlaw24.PlaneTurns. -/
import Derived.Test.YtmaofhbnmkcimaaLaw24a
import Derived.Test.YtmaofhbnmkcimaaPlaneC
namespace Go.Proofs.Ytmaofhbnmkcimaa
open Go.RowKit
set_option linter.unusedVariables false

theorem read_neg {b m : Nat} {s : Bool} {p : Int} (h : Ieee.double.read b = .number s m p) : Ieee.double.read (b ^^^ 9223372036854775808) = .number (!s) m p := by
  have e2 : (b ^^^ 9223372036854775808) % 9223372036854775808 = b % 9223372036854775808 := by
    have := Nat.xor_mod_two_pow (a := b) (b := 9223372036854775808) (n := 63)
    rw [show (2 : Nat) ^ 63 = 9223372036854775808 by decide, Nat.mod_self, Nat.xor_zero] at this
    exact this
  have e1 : (b ^^^ 9223372036854775808) / 9223372036854775808 % 2 = 1 - b / 9223372036854775808 % 2 := by
    have h1 := Nat.shiftRight_xor_distrib (a := b) (b := 9223372036854775808) (i := 63)
    rw [Nat.shiftRight_eq_div_pow, Nat.shiftRight_eq_div_pow, Nat.shiftRight_eq_div_pow, show (2 : Nat) ^ 63 = 9223372036854775808 by decide] at h1
    rw [h1, show (9223372036854775808 : Nat) / 9223372036854775808 = 1 by decide]
    have h2 := Nat.xor_mod_two_pow (a := b / 9223372036854775808) (b := 1) (n := 1)
    rw [show (2 : Nat) ^ 1 = 2 by decide, show 1 % 2 = 1 by decide] at h2
    rw [h2]
    rcases Nat.mod_two_eq_zero_or_one (b / 9223372036854775808) with h | h <;> rw [h] <;> decide
  have hs : Ieee.double.signWeight = 9223372036854775808 := by decide
  unfold Ieee.Format.read at h ⊢
  simp only [hs, e1, e2] at h ⊢
  have h2 := Nat.mod_two_eq_zero_or_one (b / 9223372036854775808)
  generalize b / 9223372036854775808 % 2 = t at *
  generalize b % 9223372036854775808 = u at *
  rcases h2 with rfl | rfl
  all_goals
    repeat' split at h
    all_goals first
      | (simp at h; done)
      | (repeat' split
         all_goals first
           | (exfalso; omega)
           | (simp at h ⊢; simp [← h]; done)
           | (simp at h ⊢; obtain ⟨rfl, h2, h3⟩ := h; simp [h2, h3]; done))
theorem fz_neg {b : Nat} {n : Int} (h : Fz b n) : Fz (b ^^^ 9223372036854775808) (-n) := by
  obtain ⟨s, N, P, h1, rfl⟩ := h
  refine ⟨!s, N, P, read_neg h1, ?_⟩
  cases s <;> simp
theorem rotN_mod (k : Nat) (p : Int × Int) : rotN k p = rotN (k % 4) p := by
  conv => lhs; rw [← Nat.div_add_mod k 4]
  generalize k / 4 = q
  induction q with
  | zero => rw [Nat.mul_zero, Nat.zero_add]
  | succ q ih => rw [show 4 * (q + 1) + k % 4 = 4 + (4 * q + k % 4) by omega, rotN_add, rotN_4, ih]
theorem rotN_far (k : Nat) (x y : Int) : farI (rotN k (x, y)).1 (rotN k (x, y)).2 (rotN k (0, 0)).1 (rotN k (0, 0)).2 = farI x y 0 0 := by
  induction k with
  | zero => rfl
  | succ k ih =>
    rw [← ih]
    simp only [rotN, farI]
    generalize (rotN k (x, y)).1 = a
    generalize (rotN k (x, y)).2 = b
    generalize (rotN k (0, 0)).1 = c
    generalize (rotN k (0, 0)).2 = d
    rw [show -b - -d = -(b - d) by omega, Int.neg_mul_neg]
    omega
theorem run_neg_float (P : Program) (w : World) (b : Nat) : (Op.unary .neg (.float .f64 b)).run P w = .ok (.float .f64 (b ^^^ 9223372036854775808)) w := rfl

set_option maxRecDepth 100000 in
set_option maxHeartbeats 8000000 in
theorem planeTurns_walk (w : World) (x0 : Int) (hx : -9223372036854775808 ≤ x0 ∧ x0 ≤ 9223372036854775807) (y0 : Int) (hy : -9223372036854775808 ≤ y0 ∧ y0 ≤ 9223372036854775807)
    (n : Int) (hn : -9223372036854775808 ≤ n ∧ n ≤ 9223372036854775807) (m0 : Int) (hm : -9223372036854775808 ≤ m0 ∧ m0 ≤ 9223372036854775807) :
    Calls Try.prog 7 #[.int .i64 x0, .int .i64 y0, .int .i64 n, .int .i64 m0] w fun e w' => e = .returned (.bool true) ∧ Below w.heap.size w w' := by
  have bx := And.intro (Int.emod_nonneg x0 (show (2001 : Int) ≠ 0 by omega)) (Int.emod_lt_of_pos x0 (show (0 : Int) < 2001 by omega))
  have by' := And.intro (Int.emod_nonneg y0 (show (2001 : Int) ≠ 0 by omega)) (Int.emod_lt_of_pos y0 (show (0 : Int) < 2001 by omega))
  have bk := And.intro (Int.emod_nonneg n (show (4 : Int) ≠ 0 by omega)) (Int.emod_lt_of_pos n (show (0 : Int) < 4 by omega))
  have bq := And.intro (Int.emod_nonneg n (show (1000 : Int) ≠ 0 by omega)) (Int.emod_lt_of_pos n (show (0 : Int) < 1000 by omega))
  have bm := And.intro (Int.emod_nonneg m0 (show (3969 : Int) ≠ 0 by omega)) (Int.emod_lt_of_pos m0 (show (0 : Int) < 3969 by omega))
  have cx := fun w => keep_within x0 2001 w hx (by omega) (by omega)
  have cy := fun w => keep_within y0 2001 w hy (by omega) (by omega)
  have ck := fun w => keep_within n 4 w hn (by omega) (by omega)
  have cq := fun w => keep_within n 1000 w hn (by omega) (by omega)
  have cm := fun w => keep_within m0 3969 w hm (by omega) (by omega)
  have hT := fun (r i : Nat) (x y : Int) (h : Cz r i x y) (hx : x.natAbs < 9007199254740992) (hy : y.natAbs < 9007199254740992) w => plane_turn r i x y n hn w h hx hy
  generalize x0 % 2001 = p1 at *
  generalize y0 % 2001 = p2 at *
  generalize n % 1000 = q at *
  generalize m0 % 3969 = m at *
  generalize n % 4 = kk at *
  obtain ⟨k, rfl⟩ := Int.eq_ofNat_of_zero_le bk.1
  rw [Int.toNat_natCast] at hT
  obtain ⟨x, rfl⟩ : ∃ x, p1 = x + 1000 := ⟨p1 - 1000, by omega⟩
  obtain ⟨y, rfl⟩ : ∃ y, p2 = y + 1000 := ⟨p2 - 1000, by omega⟩
  have ex : x + 1000 - 1000 = x := by omega
  have ey : y + 1000 - 1000 = y := by omega
  have fx := fz_ofInt x (by omega)
  have fy := fz_ofInt y (by omega)
  generalize hzx : floatOfInt .f64 x = zx at *
  generalize hzy : floatOfInt .f64 y = zy at *
  have CZ := Lib.hid (And.intro fx fy : Cz zx zy x y)
  have hab := rotN_abs k x y
  -- turned back, and turned at once
  have ct := fun w => hT zx zy x y CZ.out (by omega) (by omega) w
  have back : ∀ (r i : Nat), Cz r i (rotN k (x, y)).1 (rotN k (x, y)).2 → ∀ w, Calls Try.prog 19 #[.complex .f64 r i, .int .i64 (-q)] w fun e w' => ∃ r' i', e = .returned (.complex .f64 r' i') ∧ Cz r' i' (rotN (((k : Int) - q) % 4).toNat (x, y)).1 (rotN (((k : Int) - q) % 4).toNat (x, y)).2 ∧ w = w' := by
    intro r i hz w
    have := plane_turn r i _ _ (-q) (by omega) w hz (by omega) (by omega)
    rw [show ((rotN k (x, y)).1, (rotN k (x, y)).2) = rotN k (x, y) from rfl, ← rotN_add, rotN_mod, show (((-q) % 4).toNat + k) % 4 = (((k : Int) - q) % 4).toNat by omega] at this
    exact this
  have once := fun w => plane_turn zx zy x y ((k : Int) - q) (by omega) w CZ.out (by omega) (by omega)
  have four : ∀ w, Calls Try.prog 19 #[.complex .f64 zx zy, .int .i64 4] w fun e w' => ∃ r' i', e = .returned (.complex .f64 r' i') ∧ Cz r' i' x y ∧ w = w' := fun w => plane_turn zx zy x y 4 (by omega) w CZ.out (by omega) (by omega)
  have cA := fun w => plane_at m (by omega) w
  have ha32 : (atN m).1.natAbs ≤ 32 ∧ (atN m).2.natAbs ≤ 32 := by unfold atN; split; exact it_32 (by omega); exact ⟨by decide, by decide⟩
  generalize (atN m).1 = u at *
  generalize (atN m).2 = v at *
  have hab2 := rotN_abs k u v
  have hab0 := rotN_abs k 0 0
  have hfar := rotN_far k u v
  have tA := fun (r i : Nat) (h : Cz r i u v) w => hT r i u v h (by omega) (by omega) w
  have t0 := fun w => hT 0 0 0 0 ⟨fz_zero, fz_zero⟩ (by omega) (by omega) w
  have ff := fun (r i : Nat) (h : Cz r i u v) w => plane_far r i 0 0 u v 0 0 h ⟨fz_zero, fz_zero⟩ (by omega) (by omega) w
  have ft := fun (r i a b : Nat) (h : Cz r i (rotN k (u, v)).1 (rotN k (u, v)).2) (h' : Cz a b (rotN k (0, 0)).1 (rotN k (0, 0)).2) w => plane_far r i a b _ _ _ _ h h' (by omega) (by omega) w
  have HR : Hid (∀ j, rotN (j + 1) (x, y) = (-(rotN j (x, y)).2, (rotN j (x, y)).1)) := Lib.hid fun j => rfl
  have HR0 : Hid (rotN 0 (x, y) = (x, y)) := Lib.hid rfl
  have CX := Lib.hid cx
  have CY := Lib.hid cy
  have CK := Lib.hid ck
  have CQ := Lib.hid cq
  have CM := Lib.hid cm
  have CT := Lib.hid ct
  have BACK := Lib.hid back
  have ONCE := Lib.hid once
  have FOUR := Lib.hid four
  have CA := Lib.hid cA
  have TA := Lib.hid tA
  have T0 := Lib.hid t0
  have FF := Lib.hid ff
  have FT := Lib.hid ft
  have HF := Lib.hid hfar
  have hneg := run_neg_float Try.prog
  have hk4 : k < 4 := by omega
  have hq1 : -9223372036854775808 ≤ (k : Int) - q ∧ (k : Int) - q ≤ 9223372036854775807 := by omega
  clear cx cy ck cq cm ct back once four cA tA t0 ff ft hfar hT hab hab2 hab0 fx fy ha32 hm hx hy bk
  go_enter Try.func7, Try.ntmps7
  go_wp2_with fail
  refine (CX.out _).mono ?_
  rintro e w1 ⟨rfl, rfl⟩
  go_wp2_with fail
  refine (CY.out _).mono ?_
  rintro e w1 ⟨rfl, rfl⟩
  go_wp2_with fail
  refine (CT.out _).mono ?_
  rintro e w1 ⟨tr, ti, rfl, ht, rfl⟩
  have HT := Lib.hid ht
  clear ht
  go_wp2_with fail
  refine (CK.out _).mono ?_
  rintro e w1 ⟨rfl, rfl⟩
  go_wp2_with fail
  go_loopw [12, 13] (fun z i wr => ∃ (j r1 i1 : Nat), j ≤ k ∧ i = .int .i64 j ∧ z = .complex .f64 r1 i1 ∧ Hid (Cz r1 i1 (rotN j (x, y)).1 (rotN j (x, y)).2) ∧ w = wr) (fun _ i _ => k - (intOf i).toNat)
  case atStart => exact ⟨0, zx, zy, by omega, rfl, rfl, by rw [HR0.out]; exact CZ, rfl⟩
  case round =>
    obtain ⟨j, r1, i1, hj, rfl, rfl, HZ, rfl⟩ := hrel
    by_cases hlt : j < k
    · have HZ2 : Hid (Cz (i1 ^^^ 9223372036854775808) r1 (rotN (j + 1) (x, y)).1 (rotN (j + 1) (x, y)).2) := Lib.hid (by rw [HR.out]; exact ⟨fz_neg HZ.out.2, HZ.out.1⟩)
      go_wp2_with (simp only [hneg])
      go_roundw
      case rel => exact ⟨j + 1, _, _, by omega, by go_num, rfl, HZ2, by first | rfl | trivial⟩
      case measure => simp [intOf]; omega
    · obtain rfl : j = k := by omega
      go_wp2_with fail
      refine (CM.out _).mono ?_
      rintro e w1 ⟨rfl, rfl⟩
      go_wp2_with fail
      refine (CA.out _).mono ?_
      rintro e w1 ⟨ar, ai, rfl, hA, hb1⟩
      have HA := Lib.hid hA
      have HB1 := Lib.hid hb1
      clear hA hb1
      have hq2 := cz_eq HT.out HZ.out
      rw [decide_eq_true ⟨rfl, rfl⟩] at hq2
      go_wp2_with fail
      refine (CQ.out _).mono ?_
      rintro e w2 ⟨rfl, rfl⟩
      go_wp2_with fail
      refine (BACK.out _ _ HT.out _).mono ?_
      rintro e w2 ⟨r2, i2, rfl, h2, rfl⟩
      have H2 := Lib.hid h2
      clear h2
      go_wp2_with fail
      refine (CQ.out _).mono ?_
      rintro e w2 ⟨rfl, rfl⟩
      go_wp2_with fail
      refine (ONCE.out _).mono ?_
      rintro e w2 ⟨r3, i3, rfl, h3, rfl⟩
      have hq3 := cz_eq H2.out h3
      rw [decide_eq_true ⟨rfl, rfl⟩] at hq3
      clear h3
      go_wp2_with fail
      refine (FOUR.out _).mono ?_
      rintro e w2 ⟨r4, i4, rfl, h4, rfl⟩
      have hq4 := cz_eq h4 CZ.out
      rw [decide_eq_true ⟨rfl, rfl⟩] at hq4
      clear h4
      go_wp2_with fail
      refine (TA.out _ _ HA.out _).mono ?_
      rintro e w2 ⟨r5, i5, rfl, h5, rfl⟩
      have H5 := Lib.hid h5
      clear h5
      go_wp2_with fail
      refine (T0.out _).mono ?_
      rintro e w2 ⟨r6, i6, rfl, h6, rfl⟩
      have H6 := Lib.hid h6
      clear h6
      go_wp2_with fail
      refine (FT.out _ _ _ _ H5.out H6.out _).mono ?_
      rintro e w2 ⟨r7, rfl, h7, rfl⟩
      rw [HF.out] at h7
      have H7 := Lib.hid h7
      clear h7
      go_wp2_with fail
      refine (FF.out _ _ HA.out _).mono ?_
      rintro e w2 ⟨r8, rfl, h8, rfl⟩
      have hq5 := fz_eq H7.out h8
      rw [decide_eq_true rfl] at hq5
      clear h8
      go_wp2_with fail
      refine (wakes24 _).mono ?_
      rintro e w6 ⟨rfl, hb6⟩
      go_wp2_with fail
      go_ret
      exact ⟨rfl, HB1.out.trans (hb6.mono HB1.out.size)⟩
end Go.Proofs.Ytmaofhbnmkcimaa
