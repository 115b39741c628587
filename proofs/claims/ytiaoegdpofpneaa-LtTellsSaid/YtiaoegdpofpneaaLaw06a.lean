/- The walks of wellspringlaw06.DegreeShares and DrawOnce. -/
import Derived.Test.YtiaoegdpofpneaaSolE
namespace Go.Proofs.Ytiaoegdpofpneaa
open Go.RowKit
set_option linter.unusedVariables false

theorem tabN_small {n : Nat} (h1 : 1 ≤ n) (h2 : n ≤ 64) : ∀ i, (tabN n).getD i 0 < 4611686018427387904 := by
  have := tab_small (n : Int)
  rw [tabI_in ⟨h1, h2⟩] at this
  exact this
theorem sol_degT {n : Nat} (h1 : 1 ≤ n) (h2 : n ≤ 64) (a : Option Addr) (B c : Nat) (w : World) (hr : Rd w B a n (cellsI (tabN n))) (x : Int) (hx : -9223372036854775808 ≤ x ∧ x ≤ 9223372036854775807) :
    Calls Try.prog 30 #[.slice a n c, .int .i64 x] w fun e w' => e = .returned (.int .i64 (degP (tabN n) x : Nat)) ∧ w = w' :=
  sol_degree (tabN n) B a n c x w hr (tabN_len n) (by omega) (tabN_small h1 h2) hx
theorem sol_degNil (x : Int) (w : World) (hx : -9223372036854775808 ≤ x ∧ x ≤ 9223372036854775807) :
    Calls Try.prog 30 #[.slice none 0 0, .int .i64 x] w fun e w' => e = .returned (.int .i64 0) ∧ w = w' := by
  have := sol_degree [] 0 none 0 0 x w (rd_nil _ _ _) rfl (by omega) (fun i => by simp) hx
  rw [(deg_nil x).1] at this
  exact this
theorem sol_tabN {n : Nat} (h1 : 1 ≤ n) (h2 : n ≤ 64) (w : World) :
    Calls Try.prog 28 #[.int .i64 n] w fun e w' => ∃ a c, e = .returned (.slice a n c) ∧ Rd w' w'.heap.size a n (cellsI (tabN n)) ∧ Below w.heap.size w w' := by
  refine (sol_table (n : Int) (by omega) w).mono ?_
  rintro e w' ⟨v, rfl, ho, hb⟩
  rw [tabI_in ⟨h1, h2⟩] at ho
  obtain ⟨a, c, rfl, hr⟩ := ho.rd
  rw [tabN_len] at hr ⊢
  exact ⟨a, c, rfl, hr, hb⟩

set_option maxRecDepth 100000 in
set_option maxHeartbeats 4000000 in
theorem degreeShares_walk (w : World) (l0 : Int) (hl : -9223372036854775808 ≤ l0 ∧ l0 ≤ 9223372036854775807) (k0 : Int) (hk : -9223372036854775808 ≤ k0 ∧ k0 ≤ 9223372036854775807) :
    Calls Try.prog 8 #[.int .i64 l0, .int .i64 k0] w fun e w' => e = .returned (.bool true) ∧ Below w.heap.size w w' := by
  have m1 := Int.emod_nonneg l0 (show (64 : Int) ≠ 0 by omega)
  have m2 := Int.emod_lt_of_pos l0 (show (0 : Int) < 64 by omega)
  have hq : ∀ w : World, Calls Try.prog 25 #[.int .i64 l0, .int .i64 64] w fun e w' => e = .returned (.int .i64 (l0 % 64)) ∧ w = w' := fun w => keep_within l0 64 w hl (by omega) (by omega)
  generalize l0 % 64 = p at *
  obtain ⟨n, rfl⟩ : ∃ n : Nat, p = (n : Int) - 1 := ⟨(p + 1).toNat, by omega⟩
  have h1 : 1 ≤ n := by omega
  have h2 : n ≤ 64 := by omega
  have e1 : 1 + ((n : Int) - 1) = n := by omega
  have k1 := Int.emod_nonneg k0 (show (n : Int) ≠ 0 by omega)
  have k2 := Int.emod_lt_of_pos k0 (show (0 : Int) < n by omega)
  have hq2 : ∀ w : World, Calls Try.prog 25 #[.int .i64 k0, .int .i64 n] w fun e w' => e = .returned (.int .i64 (k0 % (n : Int))) ∧ w = w' := fun w => keep_within k0 _ w hk (by omega) (by omega)
  generalize k0 % (n : Int) = q at *
  obtain ⟨k, rfl⟩ := Int.eq_ofNat_of_zero_le k1
  have hkn : k < n := by omega
  have hT := fun w => sol_tabN h1 h2 w
  have D1 : degP (tabN n) (sumN n k : Nat) = k + 1 := degP_at h2 hkn (Int.le_refl _) (by have := sum_rise h2 hkn; omega)
  have D2 : degP (tabN n) ((sumN n (k + 1) : Nat) - 1) = k + 1 := degP_at h2 hkn (by have := sum_rise h2 hkn; omega) (by omega)
  have D3 : degP (tabN n) (sumN n n : Nat) = 0 := degP_out h1 (.inr (Int.le_refl _))
  have D4 : degP (tabN n) (-1) = 0 := degP_out h1 (.inl (by omega))
  have g0 : 0 < k → (tabN n).getD (k - 1) 0 = sumN n k := fun h => by rw [tabN_get (by omega), show k - 1 + 1 = k by omega]
  have g1 : (tabN n).getD k 0 = sumN n (k + 1) := tabN_get hkn
  have g2 : (tabN n).getD (n - 1) 0 = sumN n n := by rw [tabN_get (by omega), show n - 1 + 1 = n by omega]
  have b0 := sum_lt h2 (k := k) (by omega)
  have b1 := sum_lt h2 (k := k + 1) (by omega)
  have b2 := sum_lt h2 (k := n) (by omega)
  have b3 := sum_rise h2 hkn
  have s0 : sumN n 0 = 0 := rfl
  have hlen := tabN_len n
  have cD := fun a B c w hr x hx => sol_degT h1 h2 a B c w hr x hx
  generalize tabN n = xs at *
  have HQ := Lib.hid hq
  have HQ2 := Lib.hid hq2
  have HT := Lib.hid hT
  have CD := Lib.hid cD
  have HD1 := Lib.hid D1
  have HD2 := Lib.hid D2
  have HD3 := Lib.hid D3
  have HD4 := Lib.hid D4
  have HLEN := Lib.hid hlen
  clear hq hq2 hT cD D1 D2 D3 D4 hlen
  have hn1 : 0 ≤ (n : Int) - 1 := by omega
  have hn2 : ((n : Int) - 1).toNat = n - 1 := by omega
  have hnn : ((n : Int) != (n : Int)) = false := by simp
  by_cases hk0 : k = 0
  · subst hk0
    rw [s0] at HD1
    clear g0
    generalize sumN n (0 + 1) = s1 at *
    generalize sumN n n = sn at *
    go_enter Try.func8, Try.ntmps8
    go_wp2_with fail
    refine (HQ.out _).mono ?_
    rintro e w1 ⟨rfl, rfl⟩
    go_wp2_with fail
    refine (HT.out _).mono ?_
    rintro e w1 ⟨a, c, rfl, hr, hb⟩
    obtain ⟨b, o, rfl, _, hc⟩ := hr.2 (by omega)
    have c0 := hc 0 _ (cellsI_get (by rw [HLEN.out]; omega))
    have c1 := hc (n - 1) _ (cellsI_get (by rw [HLEN.out]; omega))
    rw [g1] at c0
    rw [g2] at c1
    rw [Nat.add_zero] at c0
    have CC := Lib.hid (fun x hx => CD.out _ _ c w1 hr x hx)
    have HB := Lib.hid hb
    clear hr hb hc
    go_wp2_with fail
    refine (HQ2.out _).mono ?_
    rintro e w2 ⟨rfl, rfl⟩
    go_wp2_with fail
    refine (CC.out 0 (by omega)).mono ?_
    rintro e w2 ⟨rfl, rfl⟩
    have hd := HD1.out
    rw [show ((0 : Nat) : Int) = 0 from rfl] at hd
    rw [hd]
    clear hd
    go_wp2_with fail
    refine (CC.out _ (by omega)).mono ?_
    rintro e w2 ⟨rfl, rfl⟩
    rw [HD2.out]
    go_wp2_with fail
    refine (CC.out _ (by omega)).mono ?_
    rintro e w2 ⟨rfl, rfl⟩
    rw [HD3.out]
    go_wp2_with fail
    refine (CC.out _ (by omega)).mono ?_
    rintro e w2 ⟨rfl, rfl⟩
    rw [HD4.out]
    go_wp2_with fail
    refine (sol_degNil 0 _ (by omega)).mono ?_
    rintro e w2 ⟨rfl, rfl⟩
    go_wp2_with fail
    refine (wakes06 _).mono ?_
    rintro e w2 ⟨rfl, hb2⟩
    go_wp2_with fail
    go_ret
    exact ⟨rfl, HB.out.trans (hb2.mono HB.out.size)⟩
  · have hk1 : 0 < k := by omega
    have g0' := g0 hk1
    have hk2 : 0 ≤ (k : Int) - 1 := by omega
    have hk3 : ((k : Int) - 1).toNat = k - 1 := by omega
    clear g0
    have D1' : degP xs ((sumN n k : Nat) : Int) = k + 1 := HD1.out
    generalize sumN n (k + 1) = s1 at *
    generalize hsk : sumN n k = sk at *
    generalize hsn : sumN n n = sn at *
    have HD1' := Lib.hid D1'
    clear D1' HD1 hsk hsn
    go_enter Try.func8, Try.ntmps8
    go_wp2_with fail
    refine (HQ.out _).mono ?_
    rintro e w1 ⟨rfl, rfl⟩
    go_wp2_with fail
    refine (HT.out _).mono ?_
    rintro e w1 ⟨a, c, rfl, hr, hb⟩
    obtain ⟨b, o, rfl, _, hc⟩ := hr.2 (by omega)
    have c0 := hc k _ (cellsI_get (by rw [HLEN.out]; omega))
    have c1 := hc (n - 1) _ (cellsI_get (by rw [HLEN.out]; omega))
    have c2 := hc (k - 1) _ (cellsI_get (by rw [HLEN.out]; omega))
    rw [g1] at c0
    rw [g2] at c1
    rw [g0'] at c2
    have CC := Lib.hid (fun x hx => CD.out _ _ c w1 hr x hx)
    have HB := Lib.hid hb
    clear hr hb hc
    go_wp2_with fail
    refine (HQ2.out _).mono ?_
    rintro e w2 ⟨rfl, rfl⟩
    go_wp2_with fail
    refine (CC.out _ (by omega)).mono ?_
    rintro e w2 ⟨rfl, rfl⟩
    rw [HD1'.out]
    go_wp2_with fail
    refine (CC.out _ (by omega)).mono ?_
    rintro e w2 ⟨rfl, rfl⟩
    rw [HD2.out]
    go_wp2_with fail
    refine (CC.out _ (by omega)).mono ?_
    rintro e w2 ⟨rfl, rfl⟩
    rw [HD3.out]
    go_wp2_with fail
    refine (CC.out _ (by omega)).mono ?_
    rintro e w2 ⟨rfl, rfl⟩
    rw [HD4.out]
    go_wp2_with fail
    refine (sol_degNil 0 _ (by omega)).mono ?_
    rintro e w2 ⟨rfl, rfl⟩
    go_wp2_with fail
    refine (wakes06 _).mono ?_
    rintro e w2 ⟨rfl, hb2⟩
    go_wp2_with fail
    go_ret
    exact ⟨rfl, HB.out.trans (hb2.mono HB.out.size)⟩
end Go.Proofs.Ytiaoegdpofpneaa
