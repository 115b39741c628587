/- The walks of wellspringlaw05.DrawBelow, DrawApart. -/
import Derived.Test.YtiaoegdpofpneaaDraw
import Derived.Test.YtiaoegdpofpneaaKeep
namespace Go.Proofs.Ytiaoegdpofpneaa
open Go.RowKit
set_option linter.unusedVariables false

theorem bval_one (s : Int) : bval s 1 = 0 := by rw [bval_pos (by omega)]; omega

set_option maxRecDepth 100000 in
set_option maxHeartbeats 2000000 in
theorem drawBelow_walk (w : World) (sd : Int) (hsd : 0 ≤ sd ∧ sd ≤ 18446744073709551615) (a1 : Option Addr) (len1 cap1 : Nat) (z1 : List Int) (s1 : Rd w w.heap.size a1 len1 (z1.map (Value.int .i64)))
    (c1 : len1 ≤ cap1 ∧ cap1 ≤ maxLen ∧ (a1 = none → cap1 = 0)) (b1 : ∀ z ∈ z1, (Lit.int .i64 z).wf = true) (n : Int) (hn : -9223372036854775808 ≤ n ∧ n ≤ 9223372036854775807) :
    Calls Try.prog 5 #[.int .u64 sd, .slice a1 len1 cap1, .int .i64 n] w fun e w' => e = .returned (.bool true) ∧ Below w.heap.size w w' := by
  have hl : len1 ≤ 9223372036854775807 := by have := c1.1; have := c1.2.1; unfold maxLen at *; omega
  have hz : z1.length = len1 := by simpa using s1.1
  have HZ := Lib.hid hz
  have S1 := Lib.hid s1
  clear hz s1 c1
  go_enter Try.func5, Try.ntmps5
  go_wp2_with fail
  refine (draw_new _ _ (by omega) (by omega)).mono ?_
  rintro e w1 ⟨rfl, rfl⟩
  go_wp2_with fail
  refine (draw_new _ _ (by omega) (by omega)).mono ?_
  rintro e w1 ⟨rfl, rfl⟩
  go_wp2_with fail
  have hs : 0 ≤ sd % 4294967296 ∧ sd % 4294967296 ≤ 4294967295 := by omega
  generalize sd % 4294967296 = s0 at *
  generalize hw0 : (w.alloc (Obj.cells #[Value.int IntKind.u64 s0] 74)).alloc (Obj.cells #[Value.int IntKind.u64 s0] 74) = w0
  go_loopw [9] (fun i wr => ∃ (k : Nat) (s : Int), k ≤ len1 ∧ i = .int .i64 k ∧ wr.cell? ⟨w.heap.size, 0, none⟩ = some (.int .u64 s) ∧ wr.frozen? ⟨w.heap.size, 0, none⟩ = false ∧ wr.cell? ⟨w.heap.size + 1, 0, none⟩ = some (.int .u64 s) ∧ wr.frozen? ⟨w.heap.size + 1, 0, none⟩ = false ∧ Below w.heap.size w wr)
    (fun i _ => len1 - (intOf i).toNat)
  case atStart =>
    subst hw0
    exact ⟨0, s0, by omega, rfl, by simp [go_sem], by simp [go_sem], by simp [go_sem], by simp [go_sem], ((Below.refl _ _).alloc (Nat.le_refl _) _).alloc (by simp) _⟩
  case round =>
    obtain ⟨k, s, hk, rfl, hc0, hf0, hc1, hf1, hb⟩ := hrel
    clear hw0
    by_cases hgo : (k : Int) < len1 ∧ (k : Int) < 40
    · obtain ⟨hlt, h40⟩ := hgo
      obtain ⟨bx, ox, rfl, hbx, hcx⟩ := S1.out.2 (by omega)
      have hkx : k < z1.length := by rw [HZ.out]; omega
      have cx := (hb.cell (p := ⟨bx, ox + k, none⟩) hbx).trans (hcx k (.int .i64 z1[k]) (by simp [hkx]))
      have bd := bounds_i64 (b1 z1[k] (List.getElem_mem hkx))
      generalize z1[k] = z at *
      clear hkx hcx S1
      have hn0 : w.heap.size ≠ bx := by omega
      have hn1 : w.heap.size + 1 ≠ bx := by omega
      go_wp2_with fail
      refine (draw_below s z _ _ (by go_simp) (by go_simp) bd).mono ?_
      rintro e w1 ⟨rfl, rfl⟩
      by_cases hz0 : z ≤ 0
      · have hv := bval_neg (s := s) hz0
        have hst := bst_neg (s := s) hz0
        rw [hv, hst]
        clear hv hst
        go_wp2_with fail
        go_roundw
        case rel => exact ⟨k + 1, s, by omega, by go_num, by go_simp, by go_simp, by go_simp, by go_simp, (hb.setCell (by simp) _)⟩
        case measure => simp [intOf]; omega
      · have hv := bval_pos (s := s) (n := z) (by omega)
        have hst := bst_pos (s := s) (n := z) (by omega)
        have ho := outOf_bd s
        have h1 := Int.emod_nonneg (outOf s) (show z ≠ 0 by omega)
        have h2 := Int.emod_lt_of_pos (outOf s) (show 0 < z by omega)
        rw [hv, hst]
        clear hv hst
        have d1 : decide (outOf s % z < 0) = false := by simpa using h1
        have d2 : decide (z ≤ outOf s % z) = false := by simpa using h2
        have e1 : IntKind.u64.wrap z = z := by rw [IntKind.wrap_u64]; omega
        have e2 : IntKind.u64.wrap (outOf s) = outOf s := by rw [IntKind.wrap_u64]; omega
        have e3 : IntKind.u64.wrap (outOf s % z) = outOf s % z := by rw [IntKind.wrap_u64]; omega
        have e4 : ¬ z = 0 := by omega
        have e5 : (outOf s).tmod z = outOf s % z := by rw [Int.tmod_eq_emod_of_nonneg (by omega)]
        go_wp2_with fail
        go_region_held3 (fun w' => w'.cell? ⟨bx, ox + k, none⟩ = some (.int .i64 z)) (go_keep)
          (first
            | (go_at_call 20; refine (draw_next s _ _ (by go_simp) (by go_simp)).mono ?_; rintro e w1 ⟨rfl, rfl⟩))
        go_wp2_with fail
        go_roundw
        case rel => exact ⟨k + 1, nxt s, by omega, by go_num, by go_simp, by go_simp, by go_simp, by go_simp, ((hb.setCell (by simp) _).setCell (by simp) _).drew⟩
        case measure => simp [intOf]; omega
    · have hcase : ¬ (k : Int) < len1 ∨ ((k : Int) < len1 ∧ ¬ (k : Int) < 40) := by omega
      clear hgo S1
      rcases hcase with h | ⟨h, h'⟩
      all_goals
        go_wp2_with fail
        refine (draw_next s _ _ hc0 hf0).mono ?_
        rintro e w1 ⟨rfl, rfl⟩
        go_wp2_with fail
        refine (draw_next s _ _ (by go_simp) (by go_simp)).mono ?_
        rintro e w1 ⟨rfl, rfl⟩
        go_wp2_with fail
        refine (draw_below (nxt s) 1 _ _ (by go_simp) (by go_simp) (by omega)).mono ?_
        rintro e w1 ⟨rfl, rfl⟩
        rw [bval_one]
        go_wp2_with fail
        refine (keep_within n 1000 _ hn (by omega) (by omega)).mono ?_
        rintro e w1 ⟨rfl, rfl⟩
        have hm0 := Int.emod_nonneg n (show (1000 : Int) ≠ 0 by omega)
        have hm1 := Int.emod_lt_of_pos n (show (0 : Int) < 1000 by omega)
        generalize n % 1000 = m at *
        have hbw := ((hb.setCell (p := ⟨w.heap.size, 0, none⟩) (by simp) (.int .u64 (nxt s))).setCell (p := ⟨w.heap.size + 1, 0, none⟩) (by simp) (.int .u64 (nxt s))).setCell (p := ⟨w.heap.size, 0, none⟩) (by simp) (.int .u64 (bst (nxt s) 1))
        rcases Int.lt_or_le 1 m with hm | hm
        all_goals
          go_wp2_with fail
          refine (draw_below (bst (nxt s) 1) _ _ _ (by go_simp) (by go_simp) (by omega)).mono ?_
          rintro e w1 ⟨rfl, rfl⟩
          rw [bval_neg (by omega)]
          go_wp2_with fail
          refine (wakes05 _).mono ?_
          rintro e w2 ⟨rfl, hb2⟩
          go_wp2_with fail
          go_ret
          exact ⟨rfl, (hbw.setCell (by simp) _).trans (hb2.mono (by have := hb.size; simpa using this))⟩
end Go.Proofs.Ytiaoegdpofpneaa
