/- Contracts: the document's Table; Degree, Draw of both. -/
import Derived.Test.YtiaoegdpofpneaaSolB
namespace Go.Proofs.Ytiaoegdpofpneaa
open Go.RowKit
set_option linter.unusedVariables false

theorem bitAux_le : ∀ f x, Lib.bitLenAux f x ≤ f := by
  intro f
  induction f with
  | zero => intro x; exact Nat.le_refl _
  | succ f ih => intro x; rw [Lib.bitLenAux]; split; omega; have := ih (x / 2); omega

set_option maxRecDepth 100000 in
set_option maxHeartbeats 4000000 in
theorem ref_table (l : Int) (hl : -9223372036854775808 ≤ l ∧ l ≤ 9223372036854775807) (w : World) :
    Calls Try.prog 31 #[.int .i64 l] w fun e w' => ∃ v, e = .returned v ∧ OwnI w' w.heap.size v (tabI l) ∧ Below w.heap.size w w' := by
  by_cases hin : 1 ≤ l ∧ l ≤ 64
  · obtain ⟨n, rfl⟩ := Int.eq_ofNat_of_zero_le (a := l) (by omega)
    have h1 : 1 ≤ n := by omega
    have h2 : n ≤ 64 := by omega
    rw [tabI_in ⟨h1, h2⟩]
    clear hl hin
    have hr := root_bd h1 h2
    have HB4 : Hid (Lib.bitLen (rootN n) ≤ 4) := Lib.hid hr.2.2
    go_enter Try.func31, Try.ntmps31
    go_wp2_with fail
    go_loopw [4] (fun r wr => ∃ k : Nat, k ≤ 8 ∧ r = .int .i64 k ∧ Hid (rootF n k (9 - k) = rootN n) ∧ w = wr) (fun r _ => 8 - (intOf r).toNat)
    case atStart => exact ⟨0, by omega, rfl, Lib.hid rfl, rfl⟩
    case round =>
      obtain ⟨k, hk, rfl, HK, rfl⟩ := hrel
      have hkk : k * k ≤ 8 * 8 := Nat.mul_le_mul hk hk
      have e1 : (k : Int) * (k : Int) = ((k * k : Nat) : Int) := by rw [Int.natCast_mul]
      have HS : Hid (rootF n k (9 - k) = if k * k < n then rootF n (k + 1) (9 - (k + 1)) else k) := Lib.hid (by rw [show 9 - k = (9 - (k + 1)) + 1 by omega, rootF])
      have h8 : k = 8 → k * k = 64 := by rintro rfl; rfl
      generalize k * k = q at *
      by_cases hlt : q < n
      · have hk7 : k < 8 := by omega
        clear h8
        go_wp2_with fail
        go_roundw
        case rel => exact ⟨k + 1, by omega, by go_num, Lib.hid (by rw [← HK.out, HS.out, if_pos hlt]), by first | rfl | trivial⟩
        case measure => simp [intOf]; omega
      · have hkr : k = rootN n := by rw [← HK.out, HS.out, if_neg hlt]
        clear h8 HK HS
        have HKR := Lib.hid hkr
        have hk1 : 1 ≤ k := by omega
        have q2 : (n : Int) / (k : Int) = ((n / k : Nat) : Int) := by simp
        have q2b : n / k ≤ n := Nat.div_le_self _ _
        clear hkr hr
        generalize hm : n / k = m at *
        have HM := Lib.hid hm
        clear hm
        go_wp2_with fail
        go_loopw [6, 7] (fun b x wr => ∃ (f c y : Nat), b = .int .i64 c ∧ x = .int .i64 y ∧ y ≤ 8 ∧ c ≤ 64 ∧ Hid (y < 2 ^ f) ∧ Hid (c + Lib.bitLenAux f y = Lib.bitLen k) ∧ Hid (f + c = 64) ∧ w = wr) (fun _ x _ => (intOf x).toNat)
        case atStart => exact ⟨64, 0, k, rfl, rfl, by omega, by omega, Lib.hid (by omega), Lib.hid (by rw [Nat.zero_add]; rfl), Lib.hid rfl, rfl⟩
        case round =>
          obtain ⟨f, c, y, rfl, rfl, hy, hc, HF, HC, HFC, rfl⟩ := hrel
          by_cases hy0 : 0 < y
          · obtain ⟨f', rfl⟩ : ∃ f', f = f' + 1 := by
              cases f with
              | zero => have := HF.out; omega
              | succ f' => exact ⟨f', rfl⟩
            have HF2 : Hid (y / 2 < 2 ^ f') := Lib.hid (by have := HF.out; rw [Nat.pow_succ] at this; omega)
            have HC2 : Hid (c + 1 + Lib.bitLenAux f' (y / 2) = Lib.bitLen k) := Lib.hid (by rw [← HC.out, Lib.bitLenAux, if_neg (by omega)]; omega)
            have HFC2 : Hid (f' + (c + 1) = 64) := Lib.hid (by have := HFC.out; omega)
            have hc63 : c ≤ 63 := by have := HFC.out; omega
            have q3 : (y : Int) / 2 = ((y / 2 : Nat) : Int) := by simp
            have q3b : y / 2 < y := by omega
            clear HF HC HFC
            generalize y / 2 = z at *
            go_wp2_with fail
            go_roundw
            case rel => exact ⟨f', c + 1, z, by go_num, rfl, by omega, by omega, HF2, HC2, HFC2, by first | rfl | trivial⟩
            case measure => simp [intOf]; omega
          · obtain rfl : y = 0 := by omega
            have hb0 : ∀ f, Lib.bitLenAux f 0 = 0 := by intro f; cases f <;> rfl
            have hcb : c = Lib.bitLen (rootN n) := by
              have := HC.out
              rw [hb0, Nat.add_zero, HKR.out] at this
              exact this
            have hc4 : c ≤ 4 := by have := HB4.out; omega
            have HCB := Lib.hid hcb
            clear HF HC HFC hcb hb0 hy hc
            have HMR : Hid (n / rootN n = m) := Lib.hid (by rw [← HKR.out]; exact HM.out)
            clear HM
            go_wp2_with fail
            generalize hB0 : w.heap.size = B0 at *
            have HB0 := Lib.hid hB0
            clear hB0
            go_loopw [8, 9, 10] (fun v s i wr => ∃ j K : Nat, Hid (K = j + 1) ∧ 1 ≤ K ∧ K ≤ n + 1 ∧ i = .int .i64 K ∧ s = .int .i64 (sumN n j : Nat) ∧ Hid (OwnI wr B0 v ((tabN n).take j)) ∧ Hid (Below B0 w wr)) (fun _ _ i _ => n + 1 - (intOf i).toNat)
            case atStart => exact ⟨0, 1, Lib.hid rfl, by omega, by omega, rfl, rfl, Lib.hid (OwnI.nil _ _), Lib.hid (Below.refl _ _)⟩
            case round =>
              obtain ⟨j, K, HJ, hK1, hK2, rfl, rfl, HO, HB⟩ := hrel
              by_cases hlt : K ≤ n
              · have hlt' : (K : Int) ≤ (n : Int) := by omega
                have hs0 := sum_lt h2 (k := j) (by have := HJ.out; omega)
                have hs1 := sum_lt h2 (k := j + 1) (by have := HJ.out; omega)
                have hss : (sumN n j : Int) + (wtN n K : Int) = (sumN n (j + 1) : Nat) := by rw [← Int.natCast_add, HJ.out]; rfl
                have htk := tabN_take (k := j) (l := n) (by have := HJ.out; omega)
                have hlen : ((tabN n).take j).length = j := by rw [List.length_take, tabN_len]; have := HJ.out; omega
                have hjn : j < n := by have := HJ.out; omega
                have HT := Lib.hid htk
                have HL := Lib.hid hlen
                clear htk hlen
                have hV : wtN n K = if K < n / rootN n then wtB n K + 1048576 * rootN n / (n * K) else if K = n / rootN n then wtB n K + 1048576 * rootN n * Lib.bitLen (rootN n) / n else wtB n K := rfl
                have hBB : wtB n K = if 1 < K then 1048576 / (K * (K - 1)) else 1048576 / n := rfl
                rw [HMR.out, ← HCB.out, ← HKR.out] at hV
                generalize wtN n K = wt at *
                generalize wtB n K = base at *
                generalize sumN n j = s0 at *
                generalize hs1e : sumN n (j + 1) = s1 at *
                have HS1 := Lib.hid hs1e
                clear hs1e
                have p1 : K * (K - 1) ≤ 64 * 63 := Nat.mul_le_mul (by omega) (by omega)
                have p1' : 1 < K → 2 * 1 ≤ K * (K - 1) := fun h => Nat.mul_le_mul h (by omega)
                have p2 : n * K ≤ 64 * 64 := Nat.mul_le_mul h2 (by omega)
                have p2' : 1 * 1 ≤ n * K := Nat.mul_le_mul h1 (by omega)
                have p3 : 1048576 * k * c ≤ 1048576 * 8 * 4 := Nat.mul_le_mul (by omega) hc4
                have e1 : (K : Int) * ((K : Int) - 1) = ((K * (K - 1) : Nat) : Int) := by rw [Int.natCast_mul, Int.ofNat_sub (by omega)]; rfl
                have e2 : (n : Int) * (K : Int) = ((n * K : Nat) : Int) := by rw [Int.natCast_mul]
                have e3 : 1048576 * (k : Int) * (c : Int) = ((1048576 * k * c : Nat) : Int) := by rw [Int.natCast_mul, Int.natCast_mul]; rfl
                have q1 : (1048576 : Int) / (n : Int) = ((1048576 / n : Nat) : Int) := by simp
                have q1b : 1048576 / n ≤ 1048576 := Nat.div_le_self _ _
                generalize hd1 : 1048576 / n = d1 at *
                generalize K * (K - 1) = P at *
                generalize n * K = Q at *
                have q3 : (1048576 : Int) / (P : Int) = ((1048576 / P : Nat) : Int) := by simp
                have q3b : 1048576 / P ≤ 1048576 := Nat.div_le_self _ _
                generalize hd2 : 1048576 / P = d2 at *
                have q4 : (1048576 * (k : Int)) / (Q : Int) = ((1048576 * k / Q : Nat) : Int) := by simp
                have q4b : 1048576 * k / Q ≤ 1048576 * k := Nat.div_le_self _ _
                generalize hd3 : 1048576 * k / Q = d3 at *
                generalize 1048576 * k * c = V at *
                have q5 : (V : Int) / (n : Int) = ((V / n : Nat) : Int) := by simp
                have q5b : V / n ≤ V := Nat.div_le_self _ _
                generalize hd4 : V / n = d4 at *
                have hsz : B0 ≤ wr.heap.size := by have := HB.out.size; have := HB0.out; omega
                have ho := HO.out
                unfold OwnI at ho
                rw [HL.out] at ho
                by_cases hj1 : 1 < K
                · rw [if_pos hj1] at hBB
                  have p1'' := p1' hj1
                  clear p1'
                  rcases Nat.lt_trichotomy K m with hm | hm | hm
                  · rw [if_pos hm] at hV
                    have hsum : (s0 : Int) + ((d2 : Int) + (d3 : Int)) = (s1 : Int) := by omega
                    have hm1 : (K : Int) < (m : Int) := by omega
                    have hm2 : ((K : Int) == (m : Int)) = false := by rw [beq_eq_false_iff_ne]; omega
                    clear hss hV hBB hd1 hd2 hd3 hd4
                    go_wp2_with (at_builtin; refine wp_app1 _ rfl _ _ 30 rfl B0 3 (.int .i64 0) 8 Try.underlying30 info_int rfl _ j _ rfl (ho.alloc _) _ (.int .i64 (s1 : Nat)) rfl ?z2 rfl ?z3 ?z4 ?z5 ?_)
                    (try (case z2 => first | done | go_simp))
                    case z3 => omega
                    case z4 => unfold maxLen; omega
                    case z5 => first | omega | (simp; omega)
                    intro v6 w6 hown6 hg6 _
                    have HO6 : Hid (OwnI w6 B0 v6 ((tabN n).take (j + 1))) := Lib.hid (by rw [HT.out]; exact OwnI.append (by rw [HL.out]; exact hown6))
                    have HB6 : Hid (Below B0 w w6) := Lib.hid ((HB.out.alloc hsz _).grown hg6 (by first | omega | (simp; omega)) (fun g hg => (ho.lt g hg).1))
                    clear hown6 hg6
                    go_wp2_with fail
                    go_roundw
                    case rel => first | exact ⟨j + 1, K + 1, Lib.hid (by rw [HJ.out]), by omega, by omega, by go_num, by rw [HS1.out], HO6, HB6⟩ | ((repeat apply Exists.intro); exact ⟨⟨j + 1, K + 1, Lib.hid (by rw [HJ.out]), by omega, by omega, by go_num, by rw [HS1.out], HO6, HB6⟩, rfl⟩)
                    case measure => simp [intOf]; omega
                  · rw [if_neg (by omega), if_pos hm] at hV
                    have hsum : (s0 : Int) + ((d2 : Int) + (d4 : Int)) = (s1 : Int) := by omega
                    have hm1 : ¬ (K : Int) < (m : Int) := by omega
                    have hm2 : ((K : Int) == (m : Int)) = true := by rw [beq_iff_eq]; omega
                    have HM := Lib.hid hm
                    clear hss hV hBB hd1 hd2 hd3 hd4 hm
                    go_wp2_with (at_builtin; refine wp_app1 _ rfl _ _ 30 rfl B0 3 (.int .i64 0) 8 Try.underlying30 info_int rfl _ j _ rfl (ho.alloc _) _ (.int .i64 (s1 : Nat)) rfl ?z2 rfl ?z3 ?z4 ?z5 ?_)
                    (try (case z2 => first | done | go_simp))
                    case z3 => omega
                    case z4 => unfold maxLen; omega
                    case z5 => first | omega | (simp; omega)
                    intro v6 w6 hown6 hg6 _
                    have HO6 : Hid (OwnI w6 B0 v6 ((tabN n).take (j + 1))) := Lib.hid (by rw [HT.out]; exact OwnI.append (by rw [HL.out]; exact hown6))
                    have HB6 : Hid (Below B0 w w6) := Lib.hid ((HB.out.alloc hsz _).grown hg6 (by first | omega | (simp; omega)) (fun g hg => (ho.lt g hg).1))
                    clear hown6 hg6
                    go_wp2_with fail
                    go_roundw
                    case rel => first | exact ⟨j + 1, K + 1, Lib.hid (by rw [HJ.out]), by omega, by omega, by go_num, by rw [HS1.out], HO6, HB6⟩ | ((repeat apply Exists.intro); exact ⟨⟨j + 1, K + 1, Lib.hid (by rw [HJ.out]), by omega, by omega, by go_num, by rw [HS1.out], HO6, HB6⟩, rfl⟩)
                    case measure => simp [intOf]; omega
                  · rw [if_neg (by omega), if_neg (by omega)] at hV
                    have hsum : (s0 : Int) + (d2 : Int) = (s1 : Int) := by omega
                    have hm1 : ¬ (K : Int) < (m : Int) := by omega
                    have hm2 : ((K : Int) == (m : Int)) = false := by rw [beq_eq_false_iff_ne]; omega
                    clear hss hV hBB hd1 hd2 hd3 hd4
                    go_wp2_with (at_builtin; refine wp_app1 _ rfl _ _ 30 rfl B0 3 (.int .i64 0) 8 Try.underlying30 info_int rfl _ j _ rfl (ho.alloc _) _ (.int .i64 (s1 : Nat)) rfl ?z2 rfl ?z3 ?z4 ?z5 ?_)
                    (try (case z2 => first | done | go_simp))
                    case z3 => omega
                    case z4 => unfold maxLen; omega
                    case z5 => first | omega | (simp; omega)
                    intro v6 w6 hown6 hg6 _
                    have HO6 : Hid (OwnI w6 B0 v6 ((tabN n).take (j + 1))) := Lib.hid (by rw [HT.out]; exact OwnI.append (by rw [HL.out]; exact hown6))
                    have HB6 : Hid (Below B0 w w6) := Lib.hid ((HB.out.alloc hsz _).grown hg6 (by first | omega | (simp; omega)) (fun g hg => (ho.lt g hg).1))
                    clear hown6 hg6
                    go_wp2_with fail
                    go_roundw
                    case rel => first | exact ⟨j + 1, K + 1, Lib.hid (by rw [HJ.out]), by omega, by omega, by go_num, by rw [HS1.out], HO6, HB6⟩ | ((repeat apply Exists.intro); exact ⟨⟨j + 1, K + 1, Lib.hid (by rw [HJ.out]), by omega, by omega, by go_num, by rw [HS1.out], HO6, HB6⟩, rfl⟩)
                    case measure => simp [intOf]; omega
                · rw [if_neg hj1] at hBB
                  clear p1'
                  rcases Nat.lt_trichotomy K m with hm | hm | hm
                  · rw [if_pos hm] at hV
                    have hsum : (s0 : Int) + ((d1 : Int) + (d3 : Int)) = (s1 : Int) := by omega
                    have hm1 : (K : Int) < (m : Int) := by omega
                    have hm2 : ((K : Int) == (m : Int)) = false := by rw [beq_eq_false_iff_ne]; omega
                    clear hss hV hBB hd1 hd2 hd3 hd4
                    go_wp2_with (at_builtin; refine wp_app1 _ rfl _ _ 30 rfl B0 3 (.int .i64 0) 8 Try.underlying30 info_int rfl _ j _ rfl (ho.alloc _) _ (.int .i64 (s1 : Nat)) rfl ?z2 rfl ?z3 ?z4 ?z5 ?_)
                    (try (case z2 => first | done | go_simp))
                    case z3 => omega
                    case z4 => unfold maxLen; omega
                    case z5 => first | omega | (simp; omega)
                    intro v6 w6 hown6 hg6 _
                    have HO6 : Hid (OwnI w6 B0 v6 ((tabN n).take (j + 1))) := Lib.hid (by rw [HT.out]; exact OwnI.append (by rw [HL.out]; exact hown6))
                    have HB6 : Hid (Below B0 w w6) := Lib.hid ((HB.out.alloc hsz _).grown hg6 (by first | omega | (simp; omega)) (fun g hg => (ho.lt g hg).1))
                    clear hown6 hg6
                    go_wp2_with fail
                    go_roundw
                    case rel => first | exact ⟨j + 1, K + 1, Lib.hid (by rw [HJ.out]), by omega, by omega, by go_num, by rw [HS1.out], HO6, HB6⟩ | ((repeat apply Exists.intro); exact ⟨⟨j + 1, K + 1, Lib.hid (by rw [HJ.out]), by omega, by omega, by go_num, by rw [HS1.out], HO6, HB6⟩, rfl⟩)
                    case measure => simp [intOf]; omega
                  · rw [if_neg (by omega), if_pos hm] at hV
                    have hsum : (s0 : Int) + ((d1 : Int) + (d4 : Int)) = (s1 : Int) := by omega
                    have hm1 : ¬ (K : Int) < (m : Int) := by omega
                    have hm2 : ((K : Int) == (m : Int)) = true := by rw [beq_iff_eq]; omega
                    have HM := Lib.hid hm
                    clear hss hV hBB hd1 hd2 hd3 hd4 hm
                    go_wp2_with (at_builtin; refine wp_app1 _ rfl _ _ 30 rfl B0 3 (.int .i64 0) 8 Try.underlying30 info_int rfl _ j _ rfl (ho.alloc _) _ (.int .i64 (s1 : Nat)) rfl ?z2 rfl ?z3 ?z4 ?z5 ?_)
                    (try (case z2 => first | done | go_simp))
                    case z3 => omega
                    case z4 => unfold maxLen; omega
                    case z5 => first | omega | (simp; omega)
                    intro v6 w6 hown6 hg6 _
                    have HO6 : Hid (OwnI w6 B0 v6 ((tabN n).take (j + 1))) := Lib.hid (by rw [HT.out]; exact OwnI.append (by rw [HL.out]; exact hown6))
                    have HB6 : Hid (Below B0 w w6) := Lib.hid ((HB.out.alloc hsz _).grown hg6 (by first | omega | (simp; omega)) (fun g hg => (ho.lt g hg).1))
                    clear hown6 hg6
                    go_wp2_with fail
                    go_roundw
                    case rel => first | exact ⟨j + 1, K + 1, Lib.hid (by rw [HJ.out]), by omega, by omega, by go_num, by rw [HS1.out], HO6, HB6⟩ | ((repeat apply Exists.intro); exact ⟨⟨j + 1, K + 1, Lib.hid (by rw [HJ.out]), by omega, by omega, by go_num, by rw [HS1.out], HO6, HB6⟩, rfl⟩)
                    case measure => simp [intOf]; omega
                  · rw [if_neg (by omega), if_neg (by omega)] at hV
                    have hsum : (s0 : Int) + (d1 : Int) = (s1 : Int) := by omega
                    have hm1 : ¬ (K : Int) < (m : Int) := by omega
                    have hm2 : ((K : Int) == (m : Int)) = false := by rw [beq_eq_false_iff_ne]; omega
                    clear hss hV hBB hd1 hd2 hd3 hd4
                    go_wp2_with (at_builtin; refine wp_app1 _ rfl _ _ 30 rfl B0 3 (.int .i64 0) 8 Try.underlying30 info_int rfl _ j _ rfl (ho.alloc _) _ (.int .i64 (s1 : Nat)) rfl ?z2 rfl ?z3 ?z4 ?z5 ?_)
                    (try (case z2 => first | done | go_simp))
                    case z3 => omega
                    case z4 => unfold maxLen; omega
                    case z5 => first | omega | (simp; omega)
                    intro v6 w6 hown6 hg6 _
                    have HO6 : Hid (OwnI w6 B0 v6 ((tabN n).take (j + 1))) := Lib.hid (by rw [HT.out]; exact OwnI.append (by rw [HL.out]; exact hown6))
                    have HB6 : Hid (Below B0 w w6) := Lib.hid ((HB.out.alloc hsz _).grown hg6 (by first | omega | (simp; omega)) (fun g hg => (ho.lt g hg).1))
                    clear hown6 hg6
                    go_wp2_with fail
                    go_roundw
                    case rel => first | exact ⟨j + 1, K + 1, Lib.hid (by rw [HJ.out]), by omega, by omega, by go_num, by rw [HS1.out], HO6, HB6⟩ | ((repeat apply Exists.intro); exact ⟨⟨j + 1, K + 1, Lib.hid (by rw [HJ.out]), by omega, by omega, by go_num, by rw [HS1.out], HO6, HB6⟩, rfl⟩)
                    case measure => simp [intOf]; omega
              · have hjn : j = n := by have := HJ.out; omega
                subst hjn
                have ht : (tabN j).take j = tabN j := List.take_of_length_le (by rw [tabN_len]; exact Nat.le_refl _)
                rw [ht] at HO
                go_wp2_with fail
                go_ret
                exact ⟨_, rfl, by rw [HB0.out]; exact HO.out, by rw [HB0.out]; exact HB.out⟩
  · have hout : l < 1 ∨ 64 < l := by omega
    rw [tabI_out hout]
    clear hin
    by_cases h1 : l < 1
    · go_enter Try.func31, Try.ntmps31
      go_wp2_with fail
      go_ret
      exact ⟨_, rfl, OwnI.nil _ _, Below.refl _ _⟩
    · have h2 : 64 < l := by omega
      go_enter Try.func31, Try.ntmps31
      go_wp2_with fail
      go_ret
      exact ⟨_, rfl, OwnI.nil _ _, Below.refl _ _⟩
end Go.Proofs.Ytiaoegdpofpneaa
