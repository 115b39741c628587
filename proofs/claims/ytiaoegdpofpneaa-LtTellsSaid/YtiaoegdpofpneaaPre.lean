/- Parameters: May, Cols of the package pre and of the document; parameters out of numbers. -/
import Derived.Test.YtiaoegdpofpneaaKeep
import Derived.Laws.ResultCell
namespace Go.Proofs.Ytiaoegdpofpneaa
open Go.RowKit
set_option linter.unusedVariables false

def parV (K H S : Int) : Value := .agg #[.int .i64 K, .int .i64 H, .int .i64 S]
def okP (K H S : Int) : Bool := decide (1 ≤ K ∧ K ≤ 16 ∧ 1 ≤ H ∧ H ≤ 4 ∧ 1 ≤ S ∧ S ≤ 24)
theorem okP_yes {K H S : Int} (h : 1 ≤ K ∧ K ≤ 16 ∧ 1 ≤ H ∧ H ≤ 4 ∧ 1 ≤ S ∧ S ≤ 24) : okP K H S = true := decide_eq_true h
theorem okP_no {K H S : Int} (h : ¬ (1 ≤ K ∧ K ≤ 16 ∧ 1 ≤ H ∧ H ≤ 4 ∧ 1 ≤ S ∧ S ≤ 24)) : okP K H S = false := decide_eq_false h
theorem ret_bool {a b : Bool} (h : a = b) : Ending.returned (.bool a) = .returned (.bool b) := by rw [h]
theorem b64 {K : Int} (h : 1 ≤ K ∧ K ≤ 16) : -9223372036854775808 ≤ K ∧ K ≤ 9223372036854775807 := by omega

set_option maxRecDepth 100000 in
set_option maxHeartbeats 4000000 in
theorem pre_may (K H S : Int) (w : World) :
    Calls Try.prog 54 #[parV K H S] w fun e w' => e = .returned (.bool (okP K H S)) ∧ Below w.heap.size w w' := by
  have hb := (Below.refl w.heap.size w).alloc (Nat.le_refl _) (.cells #[.int .i64 K, .int .i64 H, .int .i64 S] 61)
  have HB := Lib.hid hb
  clear hb
  unfold parV
  go_enter Try.func54, Try.ntmps54
  go_wp2_with fail
  all_goals (
    go_ret
    refine ⟨ret_bool ?_, HB.out⟩
    first
    | (simp [okP]; omega)
    | (simp only [okP, decide_eq_decide]; omega)
    | (simp [okP] at *; omega))

def colsI (K H S : Int) : Int := if okP K H S then K + H else 0
set_option maxRecDepth 100000 in
set_option maxHeartbeats 4000000 in
theorem ref_may (K H S : Int) (w : World) :
    Calls Try.prog 55 #[parV K H S] w fun e w' => e = .returned (.bool (okP K H S)) ∧ Below w.heap.size w w' := by
  have hb := (Below.refl w.heap.size w).alloc (Nat.le_refl _) (.cells #[.int .i64 K, .int .i64 H, .int .i64 S] 61)
  have HB := Lib.hid hb
  clear hb
  unfold parV
  go_enter Try.func55, Try.ntmps55
  go_wp2_with fail
  all_goals (
    go_ret
    refine ⟨ret_bool ?_, HB.out⟩
    first
    | (simp [okP]; omega)
    | (simp only [okP, decide_eq_decide]; omega)
    | (simp [okP] at *; omega))

set_option maxRecDepth 100000 in
set_option maxHeartbeats 4000000 in
theorem pre_cols (K H S : Int) (w : World) :
    Calls Try.prog 50 #[parV K H S] w fun e w' => e = .returned (.int .i64 (colsI K H S)) ∧ Below w.heap.size w w' := by
  have hb := (Below.refl w.heap.size w).alloc (Nat.le_refl _) (.cells #[.int .i64 K, .int .i64 H, .int .i64 S] 61)
  have hB := Blk.new w 61 #[.int .i64 K, .int .i64 H, .int .i64 S]
  have c0 : (w.alloc (.cells #[.int .i64 K, .int .i64 H, .int .i64 S] 61)).cell? ⟨w.heap.size, 0, none⟩ = some (.int .i64 K) := hB.cell 0
  have c1 : (w.alloc (.cells #[.int .i64 K, .int .i64 H, .int .i64 S] 61)).cell? ⟨w.heap.size, 1, none⟩ = some (.int .i64 H) := hB.cell 1
  have hs : w.heap.size < (w.alloc (.cells #[.int .i64 K, .int .i64 H, .int .i64 S] 61)).heap.size := by simp
  have C0 := Lib.hid c0
  have C1 := Lib.hid c1
  have HB := Lib.hid hb
  have CM := Lib.hid fun w => pre_may K H S w
  clear hb hB c0 c1
  unfold parV at CM ⊢
  by_cases h : 1 ≤ K ∧ K ≤ 16 ∧ 1 ≤ H ∧ H ≤ 4 ∧ 1 ≤ S ∧ S ≤ 24
  · have e1 := okP_yes h
    have HE : Hid (colsI K H S = K + H) := Lib.hid (by unfold colsI; rw [if_pos e1])
    rw [e1] at CM
    obtain ⟨h1, h2, h3, h4, -⟩ := h
    clear e1
    go_enter Try.func50, Try.ntmps50
    go_wp2_with fail
    generalize w.alloc (.cells #[.int .i64 K, .int .i64 H, .int .i64 S] 61) = w1 at *
    refine (CM.out _).mono ?_
    rintro e w2 ⟨rfl, hb2⟩
    have k0 := (hb2.cell (p := ⟨w.heap.size, 0, none⟩) hs).trans C0.out
    have k1 := (hb2.cell (p := ⟨w.heap.size, 1, none⟩) hs).trans C1.out
    have HB2 := Lib.hid (HB.out.trans (hb2.mono (Nat.le_of_lt hs)))
    clear hb2
    go_wp2_with fail
    go_ret
    exact ⟨by rw [HE.out]; rfl, HB2.out⟩
  · have e1 := okP_no h
    have HE : Hid (colsI K H S = 0) := Lib.hid (by unfold colsI; rw [e1]; rfl)
    rw [e1] at CM
    clear e1 h
    go_enter Try.func50, Try.ntmps50
    go_wp2_with fail
    generalize w.alloc (.cells #[.int .i64 K, .int .i64 H, .int .i64 S] 61) = w1 at *
    refine (CM.out _).mono ?_
    rintro e w2 ⟨rfl, hb2⟩
    have HB2 := Lib.hid (HB.out.trans (hb2.mono (Nat.le_of_lt hs)))
    clear hb2
    go_wp2_with fail
    go_ret
    exact ⟨by rw [HE.out]; rfl, HB2.out⟩
set_option maxRecDepth 100000 in
set_option maxHeartbeats 4000000 in
theorem ref_cols (K H S : Int) (w : World) :
    Calls Try.prog 57 #[parV K H S] w fun e w' => e = .returned (.int .i64 (colsI K H S)) ∧ Below w.heap.size w w' := by
  have hb := (Below.refl w.heap.size w).alloc (Nat.le_refl _) (.cells #[.int .i64 K, .int .i64 H, .int .i64 S] 61)
  have hB := Blk.new w 61 #[.int .i64 K, .int .i64 H, .int .i64 S]
  have c0 : (w.alloc (.cells #[.int .i64 K, .int .i64 H, .int .i64 S] 61)).cell? ⟨w.heap.size, 0, none⟩ = some (.int .i64 K) := hB.cell 0
  have c1 : (w.alloc (.cells #[.int .i64 K, .int .i64 H, .int .i64 S] 61)).cell? ⟨w.heap.size, 1, none⟩ = some (.int .i64 H) := hB.cell 1
  have hs : w.heap.size < (w.alloc (.cells #[.int .i64 K, .int .i64 H, .int .i64 S] 61)).heap.size := by simp
  have C0 := Lib.hid c0
  have C1 := Lib.hid c1
  have HB := Lib.hid hb
  have CM := Lib.hid fun w => ref_may K H S w
  clear hb hB c0 c1
  unfold parV at CM ⊢
  by_cases h : 1 ≤ K ∧ K ≤ 16 ∧ 1 ≤ H ∧ H ≤ 4 ∧ 1 ≤ S ∧ S ≤ 24
  · have e1 := okP_yes h
    have HE : Hid (colsI K H S = K + H) := Lib.hid (by unfold colsI; rw [if_pos e1])
    rw [e1] at CM
    obtain ⟨h1, h2, h3, h4, -⟩ := h
    clear e1
    go_enter Try.func57, Try.ntmps57
    go_wp2_with fail
    generalize w.alloc (.cells #[.int .i64 K, .int .i64 H, .int .i64 S] 61) = w1 at *
    refine (CM.out _).mono ?_
    rintro e w2 ⟨rfl, hb2⟩
    have k0 := (hb2.cell (p := ⟨w.heap.size, 0, none⟩) hs).trans C0.out
    have k1 := (hb2.cell (p := ⟨w.heap.size, 1, none⟩) hs).trans C1.out
    have HB2 := Lib.hid (HB.out.trans (hb2.mono (Nat.le_of_lt hs)))
    clear hb2
    go_wp2_with fail
    go_ret
    exact ⟨by rw [HE.out]; rfl, HB2.out⟩
  · have e1 := okP_no h
    have HE : Hid (colsI K H S = 0) := Lib.hid (by unfold colsI; rw [e1]; rfl)
    rw [e1] at CM
    clear e1 h
    go_enter Try.func57, Try.ntmps57
    go_wp2_with fail
    generalize w.alloc (.cells #[.int .i64 K, .int .i64 H, .int .i64 S] 61) = w1 at *
    refine (CM.out _).mono ?_
    rintro e w2 ⟨rfl, hb2⟩
    have HB2 := Lib.hid (HB.out.trans (hb2.mono (Nat.le_of_lt hs)))
    clear hb2
    go_wp2_with fail
    go_ret
    exact ⟨by rw [HE.out]; rfl, HB2.out⟩
set_option maxRecDepth 100000 in
set_option maxHeartbeats 4000000 in
theorem play_params (a b c : Int) (w : World) (ha : -9223372036854775808 ≤ a ∧ a ≤ 9223372036854775807) (hb : -9223372036854775808 ≤ b ∧ b ≤ 9223372036854775807) (hc : -9223372036854775808 ≤ c ∧ c ≤ 9223372036854775807) :
    Calls Try.prog 43 #[.int .i64 a, .int .i64 b, .int .i64 c] w fun e w' => e = .returned (parV (1 + a % 16) (1 + b % 4) (1 + c % 24)) ∧ Below w.heap.size w w' := by
  have CA := Lib.hid fun w => keep_within a 16 w ha (by omega) (by omega)
  have CB := Lib.hid fun w => keep_within b 4 w hb (by omega) (by omega)
  have CC := Lib.hid fun w => keep_within c 24 w hc (by omega) (by omega)
  have a1 := Int.emod_nonneg a (show (16 : Int) ≠ 0 by omega)
  have a2 := Int.emod_lt_of_pos a (show (0 : Int) < 16 by omega)
  have b1 := Int.emod_nonneg b (show (4 : Int) ≠ 0 by omega)
  have b2 := Int.emod_lt_of_pos b (show (0 : Int) < 4 by omega)
  have c1 := Int.emod_nonneg c (show (24 : Int) ≠ 0 by omega)
  have c2 := Int.emod_lt_of_pos c (show (0 : Int) < 24 by omega)
  generalize a % 16 = x at *
  generalize b % 4 = y at *
  generalize c % 24 = z at *
  clear ha hb hc
  go_enter Try.func43, Try.ntmps43
  go_wp2_with fail
  refine (CA.out _).mono ?_
  rintro e w1 ⟨rfl, rfl⟩
  go_wp2_with fail
  refine (CB.out _).mono ?_
  rintro e w1 ⟨rfl, rfl⟩
  go_wp2_with fail
  refine (CC.out _).mono ?_
  rintro e w1 ⟨rfl, rfl⟩
  go_wp2_with fail
  refine bodyPost_ret (results_cell_row rfl _ _ w.heap.size 61 _ (0, 0) _ rfl (Blk.new w 61 #[.int .i64 (1 + x), .int .i64 (1 + y), .int .i64 (1 + z)]) Try.underlying61 rfl (by kernel_rfl)) rfl ?_
  exact ⟨rfl, (Below.refl _ _).alloc (Nat.le_refl _) _⟩
end Go.Proofs.Ytiaoegdpofpneaa
