/- Contracts of the package soliton: root, weight, Table. -/
import Derived.Test.YtiaoegdpofpneaaKit
import Derived.Test.YtiaoegdpofpneaaSolM
import Derived.Test.YtiaoegdpofpneaaShelf
namespace Go.Proofs.Ytiaoegdpofpneaa
open Go.RowKit
set_option linter.unusedVariables false

theorem ret_i64 {a b : Nat} (h : a = b) : Ending.returned (.int .i64 (a : Int)) = .returned (.int .i64 (b : Int)) := by rw [h]
theorem info_int : (Try.prog.info? 3).map (fun i => (i.zero, i.size, i.bytes)) = some (some (.int .i64 0), 1, 8) := by kernel_rfl
def cellsI (l : List Nat) : List Value := l.map fun x : Nat => Value.int .i64 x
theorem cellsI_one (l : List Nat) : ∀ u ∈ cellsI l, u.oneCell' = true := by
  intro u hu
  obtain ⟨x, _, rfl⟩ := List.mem_map.1 hu
  rfl
theorem cellsI_len (l : List Nat) : (cellsI l).length = l.length := List.length_map _
theorem cellsI_get {l : List Nat} {i : Nat} (h : i < l.length) : (cellsI l)[i]? = some (.int .i64 (l.getD i 0 : Nat)) := by
  simp [cellsI, List.getD_eq_getElem?_getD, List.getElem?_map, List.getElem?_eq_getElem h]

theorem bits_len (r : Nat) (h : r ≤ 64) (w : World) : Calls Try.prog 59 #[.int .u64 r] w fun e w' => e = .returned (.int .i64 (Lib.bitLen r : Nat)) ∧ w = w' := by
  refine (Try.bits_Len (r : Int) w (by omega) (by omega)).mono ?_
  rintro e w' ⟨rfl, rfl⟩
  exact ⟨by rw [Int.toNat_natCast], rfl⟩

set_option maxRecDepth 100000 in
set_option maxHeartbeats 1000000 in
theorem sol_root (l : Nat) (h1 : 1 ≤ l) (h2 : l ≤ 64) (w : World) :
    Calls Try.prog 58 #[.int .i64 l] w fun e w' => e = .returned (.int .i64 (rootN l : Nat)) ∧ w = w' := by
  go_enter Try.func58, Try.ntmps58
  go_wp2_with fail
  go_loop [3] (fun r => ∃ k : Nat, k ≤ 8 ∧ r = .int .i64 k ∧ Hid (rootF l k (9 - k) = rootN l)) (fun r => 8 - (intOf r).toNat)
  case atStart => exact ⟨0, by omega, rfl, Lib.hid rfl⟩
  case round =>
    obtain ⟨k, hk, rfl, HK⟩ := hrel
    have hkk : k * k ≤ 8 * 8 := Nat.mul_le_mul hk hk
    have e1 : (k : Int) * (k : Int) = ((k * k : Nat) : Int) := by rw [Int.natCast_mul]
    have HS : Hid (rootF l k (9 - k) = if k * k < l then rootF l (k + 1) (9 - (k + 1)) else k) := Lib.hid (by rw [show 9 - k = (9 - (k + 1)) + 1 by omega, rootF])
    have h8 : k = 8 → k * k = 64 := by rintro rfl; rfl
    generalize k * k = q at *
    by_cases hlt : q < l
    · have hk7 : k < 8 := by omega
      clear h8
      go_wp2_with fail
      go_round
      case rel => exact ⟨k + 1, by omega, by go_num, Lib.hid (by rw [← HK.out, HS.out, if_pos hlt])⟩
      case measure => simp [intOf]; omega
    · clear h8
      go_wp2_with fail
      go_ret
      exact ⟨ret_i64 (by rw [← HK.out, HS.out, if_neg hlt]), rfl⟩

set_option maxRecDepth 100000 in
set_option maxHeartbeats 2000000 in
theorem sol_weight (l k : Nat) (h1 : 1 ≤ l) (h2 : l ≤ 64) (k1 : 1 ≤ k) (k2 : k ≤ l) (w : World) :
    Calls Try.prog 51 #[.int .i64 l, .int .i64 k] w fun e w' => e = .returned (.int .i64 (wtN l k : Nat)) ∧ w = w' := by
  have hr := root_bd h1 h2
  have cr := fun w => sol_root l h1 h2 w
  have HV : Hid (wtN l k = if k < l / rootN l then wtB l k + 1048576 * rootN l / (l * k) else if k = l / rootN l then wtB l k + 1048576 * rootN l * Lib.bitLen (rootN l) / l else wtB l k) := Lib.hid rfl
  have cl := fun w => bits_len (rootN l) (by omega) w
  generalize wtN l k = out at *
  generalize hb : Lib.bitLen (rootN l) = b at *
  clear hb
  generalize rootN l = r at *
  have HB : Hid (wtB l k = if 1 < k then 1048576 / (k * (k - 1)) else 1048576 / l) := Lib.hid rfl
  generalize wtB l k = base at *
  have p1 : k * (k - 1) ≤ 64 * 63 := Nat.mul_le_mul (by omega) (by omega)
  have p2 : l * k ≤ 64 * 64 := Nat.mul_le_mul h2 (by omega)
  have p2' : 1 * 1 ≤ l * k := Nat.mul_le_mul h1 k1
  have p3 : 1048576 * r * b ≤ 1048576 * 8 * 4 := Nat.mul_le_mul (by omega) hr.2.2
  have p1' : 1 < k → 2 * 1 ≤ k * (k - 1) := fun h => Nat.mul_le_mul h (by omega)
  have e1 : (k : Int) * ((k : Int) - 1) = ((k * (k - 1) : Nat) : Int) := by rw [Int.natCast_mul, Int.ofNat_sub (by omega)]; rfl
  have e2 : (l : Int) * (k : Int) = ((l * k : Nat) : Int) := by rw [Int.natCast_mul]
  have e3 : 1048576 * (r : Int) * (b : Int) = ((1048576 * r * b : Nat) : Int) := by rw [Int.natCast_mul, Int.natCast_mul]; rfl
  have q1 : (1048576 : Int) / (l : Int) = ((1048576 / l : Nat) : Int) := by simp
  have q1b : 1048576 / l ≤ 1048576 := Nat.div_le_self _ _
  have q2 : (l : Int) / (r : Int) = ((l / r : Nat) : Int) := by simp
  have q2b : l / r ≤ l := Nat.div_le_self _ _
  generalize l / r = m at *
  generalize hd1 : 1048576 / l = d1 at *
  have HD1 := Lib.hid hd1
  clear hd1
  generalize k * (k - 1) = P at *
  generalize l * k = Q at *
  have q3 : (1048576 : Int) / (P : Int) = ((1048576 / P : Nat) : Int) := by simp
  have q3b : 1048576 / P ≤ 1048576 := Nat.div_le_self _ _
  generalize hd2 : 1048576 / P = d2 at *
  have HD2 := Lib.hid hd2
  clear hd2
  have q4 : (1048576 * (r : Int)) / (Q : Int) = ((1048576 * r / Q : Nat) : Int) := by simp
  have q4b : 1048576 * r / Q ≤ 1048576 * r := Nat.div_le_self _ _
  generalize 1048576 * r / Q = d3 at *
  generalize 1048576 * r * b = V at *
  have q5 : (V : Int) / (l : Int) = ((V / l : Nat) : Int) := by simp
  have q5b : V / l ≤ V := Nat.div_le_self _ _
  generalize V / l = d4 at *
  have CR := Lib.hid cr
  have CL := Lib.hid cl
  clear cr cl
  have hc : (k < m ∧ ((k : Int) == (m : Int)) = false) ∨ (k = m ∧ ¬ (k : Int) < (m : Int) ∧ ((k : Int) == (m : Int)) = true) ∨ (m < k ∧ ¬ (k : Int) < (m : Int) ∧ ((k : Int) == (m : Int)) = false) := by
    rcases Nat.lt_trichotomy k m with h | h | h
    · exact .inl ⟨h, by rw [beq_eq_false_iff_ne]; omega⟩
    · exact .inr (.inl ⟨h, by omega, by rw [beq_iff_eq]; omega⟩)
    · exact .inr (.inr ⟨h, by omega, by rw [beq_eq_false_iff_ne]; omega⟩)
  by_cases hk : 1 < k
  · rw [if_pos hk] at HB
    have p1'' := p1' hk
    clear p1'
    rcases hc with ⟨hm, hm2⟩ | ⟨hm, hm1, hm2⟩ | ⟨hm, hm1, hm2⟩
    · rw [if_pos hm] at HV
      go_enter Try.func51, Try.ntmps51
      go_wp2_with fail
      refine (CR.out _).mono ?_
      rintro e w1 ⟨rfl, rfl⟩
      go_wp2_with fail
      go_ret
      exact ⟨ret_i64 (by first | (rw [HV.out, HB.out]; done) | (rw [HV.out, HB.out, ← HD2.out]; done) | (rw [HV.out, HB.out, ← HD1.out]; done)), rfl⟩
    · rw [if_neg (by omega), if_pos hm] at HV
      have HM := Lib.hid hm
      clear hm
      go_enter Try.func51, Try.ntmps51
      go_wp2_with fail
      refine (CR.out _).mono ?_
      rintro e w1 ⟨rfl, rfl⟩
      go_wp2_with fail
      refine (CL.out _).mono ?_
      rintro e w1 ⟨rfl, rfl⟩
      go_wp2_with fail
      go_ret
      exact ⟨ret_i64 (by first | (rw [HV.out, HB.out]; done) | (rw [HV.out, HB.out, ← HD2.out]; done) | (rw [HV.out, HB.out, ← HD1.out]; done)), rfl⟩
    · rw [if_neg (by omega), if_neg (by omega)] at HV
      go_enter Try.func51, Try.ntmps51
      go_wp2_with fail
      refine (CR.out _).mono ?_
      rintro e w1 ⟨rfl, rfl⟩
      go_wp2_with fail
      go_ret
      exact ⟨ret_i64 (by first | (rw [HV.out, HB.out]; done) | (rw [HV.out, HB.out, ← HD2.out]; done) | (rw [HV.out, HB.out, ← HD1.out]; done)), rfl⟩
  · rw [if_neg hk] at HB
    clear p1'
    rcases hc with ⟨hm, hm2⟩ | ⟨hm, hm1, hm2⟩ | ⟨hm, hm1, hm2⟩
    · rw [if_pos hm] at HV
      go_enter Try.func51, Try.ntmps51
      go_wp2_with fail
      refine (CR.out _).mono ?_
      rintro e w1 ⟨rfl, rfl⟩
      go_wp2_with fail
      go_ret
      exact ⟨ret_i64 (by first | (rw [HV.out, HB.out]; done) | (rw [HV.out, HB.out, ← HD2.out]; done) | (rw [HV.out, HB.out, ← HD1.out]; done)), rfl⟩
    · rw [if_neg (by omega), if_pos hm] at HV
      have HM := Lib.hid hm
      clear hm
      go_enter Try.func51, Try.ntmps51
      go_wp2_with fail
      refine (CR.out _).mono ?_
      rintro e w1 ⟨rfl, rfl⟩
      go_wp2_with fail
      refine (CL.out _).mono ?_
      rintro e w1 ⟨rfl, rfl⟩
      go_wp2_with fail
      go_ret
      exact ⟨ret_i64 (by first | (rw [HV.out, HB.out]; done) | (rw [HV.out, HB.out, ← HD2.out]; done) | (rw [HV.out, HB.out, ← HD1.out]; done)), rfl⟩
    · rw [if_neg (by omega), if_neg (by omega)] at HV
      go_enter Try.func51, Try.ntmps51
      go_wp2_with fail
      refine (CR.out _).mono ?_
      rintro e w1 ⟨rfl, rfl⟩
      go_wp2_with fail
      go_ret
      exact ⟨ret_i64 (by first | (rw [HV.out, HB.out]; done) | (rw [HV.out, HB.out, ← HD2.out]; done) | (rw [HV.out, HB.out, ← HD1.out]; done)), rfl⟩
end Go.Proofs.Ytiaoegdpofpneaa
