/- law07: Rises of wellspringkeep; the walk of SomeSets. -/
import Derived.Test.YtiaoegdpofpneaaChoC
namespace Go.Proofs.Ytiaoegdpofpneaa
open Go.RowKit
set_option linter.unusedVariables false

theorem rise_at {l : List Nat} (h : l.Pairwise (· < ·)) {i : Nat} (hi : i + 1 < l.length) : l.getD i 0 < l.getD (i + 1) 0 := by
  rw [getD_at (show i < l.length by omega), getD_at hi]
  exact List.pairwise_iff_getElem.1 h i (i + 1) (by omega) hi (by omega)

set_option maxRecDepth 100000 in
set_option maxHeartbeats 1000000 in
theorem keep_rises (l : List Nat) (n B : Nat) (a : Option Addr) (c : Nat) (w : World) (hr : Rd w B a n (cellsI l)) (hl : l.length = n) (hn : n ≤ 1000000) (hs : l.Pairwise (· < ·)) (hb : ∀ y ∈ l, y < 1000000) :
    Calls Try.prog 41 #[.slice a n c] w fun e w' => e = .returned (.bool true) ∧ ∃ j, w' = w.drewN j := by
  have HR := Lib.hid hr
  have HL := Lib.hid hl
  have HS := Lib.hid hs
  clear hr hl hs hb
  go_enter Try.func41, Try.ntmps41
  go_wp2_with fail
  go_loopw [3] (fun i wr => ∃ k : Nat, k ≤ n ∧ i = .int .i64 ((k : Int) + 1) ∧ Hid (∃ j, wr = w.drewN j)) (fun i _ => n + 1 - (intOf i).toNat)
  case atStart => exact ⟨0, by omega, rfl, Lib.hid ⟨0, rfl⟩⟩
  case round =>
    obtain ⟨k, hk, rfl, HJ⟩ := hrel
    obtain ⟨j, hj⟩ := HJ.out
    clear HJ
    by_cases hlt : k + 1 < n
    · obtain ⟨bx, ox, rfl, _, hcx⟩ := HR.out.2 (by omega)
      obtain ⟨k1, hk1⟩ : ∃ k1, k1 = k + 1 := ⟨_, rfl⟩
      have c1 : wr.cell? ⟨bx, ox + k, none⟩ = some (.int .i64 (l.getD k 0 : Nat)) := by rw [hj]; exact hcx k _ (cellsI_get (by rw [HL.out]; omega))
      have c2 : wr.cell? ⟨bx, ox + k1, none⟩ = some (.int .i64 (l.getD k1 0 : Nat)) := by rw [hj, hk1]; exact hcx (k + 1) _ (cellsI_get (by rw [HL.out]; omega))
      have hrise := rise_at HS.out (i := k) (by rw [HL.out]; omega)
      rw [← hk1] at hrise
      have hkI : (k : Int) + 1 = (k1 : Int) := by omega
      have hwr : IntKind.i64.wrap ((k1 : Int) - 1) = (k : Int) := by rw [IntKind.wrap_i64] <;> omega
      have hwr2 : (k1 : Int) - 1 = (k : Int) := by omega
      have hlt' : (k1 : Int) < (n : Int) := by omega
      have hlt2 : (k : Int) < (n : Int) := by omega
      clear hcx
      generalize l.getD k 0 = x at *
      generalize l.getD k1 0 = y at *
      have hle : ¬ (y : Int) ≤ (x : Int) := by omega
      have HJ := Lib.hid hj
      have HK1 := Lib.hid hk1
      clear hj hk1
      go_wp2_with fail
      go_quiet (fail)
      go_wp2_with fail
      go_roundw
      case rel => first | exact ⟨k1, by have := HK1.out; omega, by go_num, Lib.hid ⟨j + nq, by rw [HJ.out, World.drewN_drewN]⟩⟩ | ((repeat apply Exists.intro); exact ⟨⟨k1, by have := HK1.out; omega, by go_num, Lib.hid ⟨j + nq, by rw [HJ.out, World.drewN_drewN]⟩⟩, rfl⟩)
      case measure => have := HK1.out; simp [intOf]; omega
    · have hge : (n : Int) ≤ (k : Int) + 1 := by omega
      go_wp2_with fail
      go_ret
      exact ⟨rfl, j, rfl⟩

set_option maxRecDepth 100000 in
set_option maxHeartbeats 4000000 in
theorem someSets_walk (w : World) (sd : Int) (hsd : 0 ≤ sd ∧ sd ≤ 18446744073709551615) (n0 : Int) (hn0 : -9223372036854775808 ≤ n0 ∧ n0 ≤ 9223372036854775807) (k0 : Int) (hk0 : -9223372036854775808 ≤ k0 ∧ k0 ≤ 9223372036854775807) :
    Calls Try.prog 12 #[.int .u64 sd, .int .i64 n0, .int .i64 k0] w fun e w' => e = .returned (.bool true) ∧ Below w.heap.size w w' := by
  have m1 := Int.emod_nonneg n0 (show (65 : Int) ≠ 0 by omega)
  have m2 := Int.emod_lt_of_pos n0 (show (0 : Int) < 65 by omega)
  have hq : ∀ w : World, Calls Try.prog 25 #[.int .i64 n0, .int .i64 65] w fun e w' => e = .returned (.int .i64 (n0 % 65)) ∧ w = w' := fun w => keep_within n0 65 w hn0 (by omega) (by omega)
  generalize n0 % 65 = q at *
  obtain ⟨n, rfl⟩ := Int.eq_ofNat_of_zero_le m1
  have hn64 : n ≤ 64 := by omega
  obtain ⟨n1, hn1⟩ : ∃ n1, n1 = n + 1 := ⟨_, rfl⟩
  have hnp : (0 : Int) < (n1 : Int) := by omega
  have p1 := Int.emod_nonneg k0 (show (n1 : Int) ≠ 0 by omega)
  have p2 := Int.emod_lt_of_pos k0 hnp
  have hqk : ∀ w : World, Calls Try.prog 25 #[.int .i64 k0, .int .i64 n1] w fun e w' => e = .returned (.int .i64 (k0 % n1)) ∧ w = w' := fun w => keep_within k0 n1 w hk0 hnp (by omega)
  generalize k0 % (n1 : Int) = r at *
  obtain ⟨k, rfl⟩ := Int.eq_ofNat_of_zero_le p1
  have hkn : k ≤ n := by omega
  have hs0 : 0 ≤ sd % 4294967296 ∧ sd % 4294967296 ≤ 4294967295 := by omega
  have HDN := Lib.hid fun w => draw_new (sd % 4294967296) w hs0.1 hs0.2
  generalize hse : sd % 4294967296 = s0 at *
  have hnI : (n : Int) + 1 = (n1 : Int) := by omega
  have HQ := Lib.hid hq
  have HQK := Lib.hid hqk
  have C1 := Lib.hid fun w => cho_some (some ⟨w.heap.size, 0, none⟩) s0 n k _ hn64 hkn (fresh_dp w s0 74)
  have C2 := Lib.hid fun w => cho_some (some ⟨w.heap.size, 0, none⟩) s0 n n _ hn64 (Nat.le_refl _) (fresh_dp w s0 74)
  have C3 := Lib.hid fun p w => cho_some_un p (n : Int) (n1 : Int) w (by omega)
  have hN : ∀ z : Nat, (some ⟨z, 0, none⟩ : Option Addr).isNone = false := fun _ => rfl
  simp only [hN] at C1 C2
  have HL1 := Lib.hid (chosen_len (nl := false) (s := s0) hkn)
  have HL2 := Lib.hid (chosen_len (nl := false) (n := n) (s := s0) (Nat.le_refl _))
  have HLT := Lib.hid (chosen_lt (nl := false) (s := s0) hkn)
  have HRI := Lib.hid (chosen_rise (nl := false) (s := s0) hkn)
  generalize chosen false n s0 k = Z1 at *
  generalize chosen false n s0 n = Z2 at *
  have hk64 : k ≤ 64 := by omega
  clear hq hqk m1 p1 hn1 hn0 hk0 hsd hs0 hN hkn p2 m2
  go_enter Try.func12, Try.ntmps12
  go_wp2_with fail
  refine (HQ.out _).mono ?_
  rintro e w1 ⟨rfl, rfl⟩
  go_wp2_with fail
  refine (HQK.out _).mono ?_
  rintro e w1 ⟨rfl, rfl⟩
  go_wp2_with fail
  refine (HDN.out _).mono ?_
  rintro e w1 ⟨rfl, rfl⟩
  go_wp2_with fail
  refine (C1.out _).mono ?_
  rintro e w2 ⟨v1, rfl, ho1, hb1⟩
  have hb1' := fresh_below hb1
  have ho1' := ho1.base (C' := w.heap.size) (by simp)
  obtain ⟨a1, c1, rfl, hr1⟩ := ho1'.rd
  rw [HL1.out] at hr1 ⊢
  have HR1 := Lib.hid hr1
  have HB1 := Lib.hid hb1'
  have CR := Lib.hid (keep_rises Z1 k _ a1 c1 w2 hr1 HL1.out (by omega) HRI.out fun y hy => by have := HLT.out y hy; omega)
  clear hb1 hb1' ho1 ho1' hr1 C1 HQ HQK
  go_wp2_with fail
  refine CR.out.mono ?_
  rintro e w3 ⟨rfl, j0, rfl⟩
  go_wp2_with fail
  go_loopw [9, 34] (fun _ i wr => ∃ m : Nat, m ≤ k ∧ i = .int .i64 m ∧ Hid (∃ j, wr = w2.drewN j)) (fun _ i _ => k - (intOf i).toNat)
  case atStart => exact ⟨0, by omega, rfl, Lib.hid ⟨_, rfl⟩⟩
  case round =>
    obtain ⟨m, hm, rfl, HJ⟩ := hrel
    obtain ⟨j, hj⟩ := HJ.out
    clear HJ
    by_cases hlt : m < k
    · obtain ⟨bx, ox, rfl, _, hcx⟩ := HR1.out.2 (by omega)
      have hml : m < Z1.length := by rw [HL1.out]; exact hlt
      have cx : wr.cell? ⟨bx, ox + m, none⟩ = some (.int .i64 (Z1.getD m 0 : Nat)) := by rw [hj]; exact hcx m _ (cellsI_get hml)
      have hxn : Z1.getD m 0 < n := HLT.out _ (by rw [getD_at hml]; exact List.getElem_mem hml)
      clear hcx hml
      generalize Z1.getD m 0 = x at *
      have hlt' : (m : Int) < (k : Int) := by omega
      have hxI : (x : Int) < (n : Int) := by omega
      have HJ := Lib.hid hj
      clear hj
      go_wp2_with fail
      go_roundw
      case rel => exact ⟨m + 1, by omega, by go_num, Lib.hid ⟨j, HJ.out⟩⟩
      case measure => simp [intOf]; omega
    · obtain rfl : m = k := by omega
      have hb3 : Below w.heap.size w wr := by rw [hj]; exact below_drewN HB1.out j
      have HB3 := Lib.hid hb3
      clear hb3 hj
      go_wp2_with fail
      refine (HDN.out _).mono ?_
      rintro e w4 ⟨rfl, rfl⟩
      go_wp2_with fail
      refine (C2.out _).mono ?_
      rintro e w5 ⟨v2, rfl, ho2, hb2⟩
      have HB4 := Lib.hid (HB3.out.trans ((fresh_below hb2).mono HB3.out.size))
      obtain ⟨a2, c2, rfl, hr2⟩ := ho2.rd
      rw [HL2.out]
      clear hr2 ho2 hb2
      go_wp2_with fail
      refine (HDN.out _).mono ?_
      rintro e w6 ⟨rfl, rfl⟩
      go_wp2_with fail
      refine (C3.out _ _).mono ?_
      rintro e w7 ⟨rfl, rfl⟩
      have HB5 := Lib.hid (HB4.out.alloc HB4.out.size (.cells #[.int .u64 s0] 74))
      go_wp2_with fail
      refine (wakes07 _).mono ?_
      rintro e w8 ⟨rfl, hb⟩
      have HB6 := Lib.hid (HB5.out.trans (hb.mono HB5.out.size))
      clear hb
      go_wp2_with fail
      go_ret
      exact ⟨rfl, HB6.out⟩
end Go.Proofs.Ytiaoegdpofpneaa
