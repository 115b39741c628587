/- The walk of wellspringlaw06.DrawOnce. -/
import Derived.Test.YtiaoegdpofpneaaLaw06a
namespace Go.Proofs.Ytiaoegdpofpneaa
open Go.RowKit
set_option linter.unusedVariables false

theorem drawV_tab {n : Nat} (h1 : 1 ≤ n) (s : Int) : drawV (tabN n) s = degP (tabN n) (bval s (sumN n n : Nat)) ∧ drawS (tabN n) s = bst s (sumN n n : Nat) := by
  have hne : ¬ tabN n = [] := by intro h; have := congrArg List.length h; rw [tabN_len] at this; simp at this; omega
  have hl : (tabN n).getD ((tabN n).length - 1) 0 = sumN n n := by rw [tabN_len, tabN_get (by omega), show n - 1 + 1 = n by omega]
  unfold drawV drawS
  rw [if_neg hne, if_neg hne, hl]
  exact ⟨rfl, rfl⟩

set_option maxRecDepth 100000 in
set_option maxHeartbeats 4000000 in
theorem drawOnce_walk (w : World) (l0 : Int) (hl : -9223372036854775808 ≤ l0 ∧ l0 ≤ 9223372036854775807) (sd : Int) (hsd : 0 ≤ sd ∧ sd ≤ 18446744073709551615) :
    Calls Try.prog 10 #[.int .i64 l0, .int .u64 sd] w fun e w' => e = .returned (.bool true) ∧ Below w.heap.size w w' := by
  have m1 := Int.emod_nonneg l0 (show (64 : Int) ≠ 0 by omega)
  have m2 := Int.emod_lt_of_pos l0 (show (0 : Int) < 64 by omega)
  have hq : ∀ w : World, Calls Try.prog 25 #[.int .i64 l0, .int .i64 64] w fun e w' => e = .returned (.int .i64 (l0 % 64)) ∧ w = w' := fun w => keep_within l0 64 w hl (by omega) (by omega)
  generalize l0 % 64 = p at *
  obtain ⟨n, rfl⟩ : ∃ n : Nat, p = (n : Int) - 1 := ⟨(p + 1).toNat, by omega⟩
  have h1 : 1 ≤ n := by omega
  have h2 : n ≤ 64 := by omega
  have e1 : 1 + ((n : Int) - 1) = n := by omega
  have HQ := Lib.hid hq
  have HT := Lib.hid fun w => sol_tabN h1 h2 w
  have hn1 : 0 ≤ (n : Int) - 1 := by omega
  have hn2 : ((n : Int) - 1).toNat = n - 1 := by omega
  have hnn : ((n : Int) != (n : Int)) = false := by simp
  have gl : (tabN n).getD (n - 1) 0 = sumN n n := by rw [tabN_get (by omega), show n - 1 + 1 = n by omega]
  have os := sum_lt h2 (k := n) (Nat.le_refl _)
  have op : 0 < sumN n n := by have := sum_rise h2 (k := n - 1) (by omega); rw [show n - 1 + 1 = n by omega] at this; omega
  have hs0 : 0 ≤ sd % 4294967296 ∧ sd % 4294967296 ≤ 4294967295 := by omega
  have HN := Lib.hid fun w => draw_new (sd % 4294967296) w hs0.1 hs0.2
  generalize hse : sd % 4294967296 = s at *
  have hdv := drawV_tab h1 s
  have bq := outOf_bd s
  have hbv : bval s (sumN n n : Nat) = outOf s % (sumN n n : Int) := bval_pos (by omega)
  have hbs : bst s (sumN n n : Nat) = nxt s := bst_pos (by omega)
  have r1 := Int.emod_nonneg (outOf s) (show (sumN n n : Int) ≠ 0 by omega)
  have r2 := Int.emod_lt_of_pos (outOf s) (show (0 : Int) < (sumN n n : Int) by omega)
  have hdi := degP_in h1 h2 r1 r2
  rw [hbv, hbs] at hdv
  have hlen := tabN_len n
  have hsm := tabN_small h1 h2
  have hD := fun a B c w hr x hx => sol_degT h1 h2 a B c w hr x hx
  generalize tabN n = xs at *
  obtain ⟨z, hz⟩ : ∃ z : Int, z = (sumN n n : Nat) := ⟨_, rfl⟩
  rw [← hz] at r1 r2 hdi hdv
  generalize hk : degP xs (outOf s % z) = k at *
  have HK := Lib.hid hk
  have HDV := Lib.hid hdv
  have HG : Hid ((.int .i64 (xs.getD (n - 1) 0 : Nat) : Value) = .int .i64 z) := Lib.hid (by rw [gl, hz])
  have hz1 : 0 < z ∧ z < 8388608 := by omega
  have HLEN := Lib.hid hlen
  have HSM := Lib.hid hsm
  have HDD := Lib.hid hD
  clear hq hdv hbv hbs hz hk gl os op hlen hsm hD
  have HX := Lib.hid (fun (p : Addr) (w : World) hc hf => draw_next s p w hc hf)
  have HX2 := Lib.hid (fun (p : Addr) (w : World) hc hf => draw_next (nxt s) p w hc hf)
  have bq2 := outOf_bd (nxt s)
  have bn := nxt_bd s
  generalize nxt (nxt s) = t2 at *
  generalize outOf (nxt s) = q2 at *
  generalize nxt s = t1 at *
  generalize outOf s = q1 at *
  generalize hre : q1 % z = r at *
  go_enter Try.func10, Try.ntmps10
  go_wp2_with fail
  refine (HQ.out _).mono ?_
  rintro e w1 ⟨rfl, rfl⟩
  go_wp2_with fail
  refine (HT.out _).mono ?_
  rintro e w1 ⟨a, c, rfl, hr, hb⟩
  have HR := Lib.hid hr
  have HB := Lib.hid hb
  clear hr hb
  go_wp2_with fail
  refine (HN.out _).mono ?_
  rintro e w2 ⟨rfl, rfl⟩
  go_wp2_with fail
  refine (HN.out _).mono ?_
  rintro e w2 ⟨rfl, rfl⟩
  have hA0 : At ((w1.alloc (.cells #[.int .u64 s] 74)).alloc (.cells #[.int .u64 s] 74)) ⟨w1.heap.size, 0, none⟩ (.int .u64 s) := (At.new w1 _ _).alloc _
  have hA1 : At ((w1.alloc (.cells #[.int .u64 s] 74)).alloc (.cells #[.int .u64 s] 74)) ⟨w1.heap.size + 1, 0, none⟩ (.int .u64 s) := by
    have := At.new (w1.alloc (.cells #[.int .u64 s] 74)) (.int .u64 s) 74
    simpa using this
  have hb2 : Below w1.heap.size w1 ((w1.alloc (.cells #[.int .u64 s] 74)).alloc (.cells #[.int .u64 s] 74)) := ((Below.refl _ _).alloc (Nat.le_refl _) _).alloc (by simp) _
  have hB2 := HB.out.trans (hb2.mono HB.out.size)
  have hR2 := HR.out.below hb2 (Nat.le_refl _)
  have hgs := HB.out.size
  clear hb2 HB HR
  go_wp2_with fail
  generalize w1.heap.size = g at *
  generalize ((w1.alloc (.cells #[.int .u64 s] 74)).alloc (.cells #[.int .u64 s] 74)) = w2 at *
  obtain ⟨c0, f0⟩ := hA0
  obtain ⟨c1, f1⟩ := hA1
  have HB2 := Lib.hid hB2
  have HR2 := Lib.hid hR2
  clear hB2 hR2
  have hnil := sol_draw [] 0 none 0 0 s ⟨g, 0, none⟩ w2 (rd_nil _ _ _) rfl (by omega) (fun i => by simp) c0 f0 (.inl (Nat.zero_le _))
  rw [show drawS [] s = s from rfl, setCell_self w2 _ _ c0, show drawV [] s = 0 from rfl] at hnil
  refine hnil.mono ?_
  rintro e w3 ⟨rfl, rfl⟩
  clear hnil
  go_wp2_with fail
  refine (HX.out _ _ c1 f1).mono ?_
  rintro e w3 ⟨rfl, rfl⟩
  go_wp2_with fail
  obtain ⟨b, o, rfl, hbg, hcx⟩ := HR2.out.2 (by omega)
  have HDR := Lib.hid (sol_draw xs g (some ⟨b, o, none⟩) n c s ⟨g, 0, none⟩ (w2.setCell ⟨g + 1, 0, none⟩ (.int .u64 t1)) (HR2.out.set (by simp) _) HLEN.out (by omega) HSM.out (by go_simp) (by go_simp) (.inl (Nat.le_refl _)))
  refine HDR.out.mono ?_
  rintro e w3 ⟨rfl, rfl⟩
  rw [HDV.out.1, HDV.out.2]
  clear HDR
  have cl : w2.cell? ⟨b, o + (n - 1), none⟩ = some (.int .i64 z) := by
    have := hcx (n - 1) _ (cellsI_get (by rw [HLEN.out]; omega))
    rwa [HG.out] at this
  have hD := HDD.out (some ⟨b, o, none⟩) g c ((w2.setCell ⟨g + 1, 0, none⟩ (.int .u64 t1)).setCell ⟨g, 0, none⟩ (.int .u64 t1)) ((HR2.out.set (by simp) _).set (by simp) _) r (by omega)
  rw [HK.out] at hD
  have HD := Lib.hid hD
  have hb0 : b ≠ g := by omega
  have hb1 : b ≠ g + 1 := by omega
  clear hcx hD
  go_wp2_with fail
  refine HD.out.mono ?_
  rintro e w3 ⟨rfl, rfl⟩
  go_wp2_with fail
  refine (HX2.out _ _ (by go_simp) (by go_simp)).mono ?_
  rintro e w3 ⟨rfl, rfl⟩
  go_wp2_with fail
  refine (HX2.out _ _ (by go_simp) (by go_simp)).mono ?_
  rintro e w3 ⟨rfl, rfl⟩
  go_wp2_with fail
  refine (wakes06 _).mono ?_
  rintro e w3 ⟨rfl, hb3⟩
  go_wp2_with fail
  go_ret
  have z0 := (((HB2.out.setCell (p := ⟨g + 1, 0, none⟩) (by simp; omega) (.int .u64 t1)).setCell (p := ⟨g, 0, none⟩) hgs (.int .u64 t1)).setCell (p := ⟨g, 0, none⟩) hgs (.int .u64 t2)).setCell (p := ⟨g + 1, 0, none⟩) (by simp; omega) (.int .u64 t2)
  exact ⟨rfl, z0.trans (hb3.mono z0.size)⟩
end Go.Proofs.Ytiaoegdpofpneaa
