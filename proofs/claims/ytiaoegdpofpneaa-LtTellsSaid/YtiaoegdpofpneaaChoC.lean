/- law07: Member, Rises of wellspringkeep; the example; a Draw that is new. -/
import Derived.Test.YtiaoegdpofpneaaChoB
import Derived.Test.YtiaoegdpofpneaaKeep
namespace Go.Proofs.Ytiaoegdpofpneaa
open Go.RowKit
set_option linter.unusedVariables false

theorem fresh_below {w w' : World} {c : Array Value} {ty : TypeId} {t : Int} (h : Below (w.alloc (.cells c ty)).heap.size (setD (w.alloc (.cells c ty)) (some ⟨w.heap.size, 0, none⟩) t) w') : Below w.heap.size w w' :=
  (((Below.refl w.heap.size w).alloc (Nat.le_refl _) (.cells c ty)).setCell (p := ⟨w.heap.size, 0, none⟩) (Nat.le_refl _) (.int .u64 t)).trans (h.mono (by simp))
theorem fresh_dp (w : World) (s : Int) (ty : TypeId) : Dp (w.alloc (.cells #[.int .u64 s] ty)) (some ⟨w.heap.size, 0, none⟩) s := .inr ⟨_, _, rfl, At.new w _ ty⟩

set_option maxRecDepth 100000 in
set_option maxHeartbeats 1000000 in
theorem keep_member (l : List Nat) (x : Nat) (B : Nat) (a : Option Addr) (c : Nat) (w : World) (hr : Rd w B a l.length (cellsI l)) (hl : l.length ≤ 1000000) (hx : x ∈ l) (hb : ∀ y ∈ l, y ≤ 1000000) :
    Calls Try.prog 42 #[.slice a l.length c, .int .i64 x] w fun e w' => e = .returned (.bool true) ∧ ∃ j, w' = w.drewN j := by
  obtain ⟨m, hm, hmx⟩ := List.getElem_of_mem hx
  have hmx' : l.getD m 0 = x := by rw [getD_at hm]; exact hmx
  have HM := Lib.hid hmx'
  have HR := Lib.hid hr
  clear hmx hmx' hr hx hb
  generalize hn : l.length = n at *
  have HN := Lib.hid hn
  clear hn
  go_enter Try.func42, Try.ntmps42
  go_wp2_with fail
  go_loopw [5, 8] (fun _ i wr => ∃ k : Nat, k ≤ m ∧ i = .int .i64 k ∧ Hid (∃ j, wr = w.drewN j)) (fun _ i _ => n - (intOf i).toNat)
  case atStart => exact ⟨0, by omega, rfl, Lib.hid ⟨0, rfl⟩⟩
  case round =>
    obtain ⟨k, hk, rfl, HJ⟩ := hrel
    obtain ⟨j, hj⟩ := HJ.out
    clear HJ
    have hkn : k < n := by omega
    obtain ⟨bx, ox, rfl, _, hcx⟩ := HR.out.2 (by omega)
    have cx : wr.cell? ⟨bx, ox + k, none⟩ = some (.int .i64 (l.getD k 0 : Nat)) := by rw [hj]; exact hcx k _ (cellsI_get (by rw [HN.out]; exact hkn))
    have HE : Hid (k = m → l.getD k 0 = x) := Lib.hid fun h => by rw [h]; exact HM.out
    clear hcx
    generalize l.getD k 0 = y at *
    have hlt' : (k : Int) < (n : Int) := by omega
    have HJ := Lib.hid hj
    clear hj
    by_cases hyx : y = x
    · subst hyx
      go_wp2_with fail
      go_ret
      exact ⟨rfl, j, HJ.out⟩
    · have hne : k ≠ m := fun h => hyx (HE.out h)
      have hyI : ((y : Int) == (x : Int)) = false := by simp; omega
      have hyI2 : ¬ (y : Int) = (x : Int) := by omega
      go_wp2_with fail
      go_roundw
      case rel => exact ⟨k + 1, by omega, by go_num, Lib.hid ⟨j, HJ.out⟩⟩
      case measure => simp [intOf]; omega

theorem cellsI_intsL (l : List Nat) : cellsI l = (l.map fun x : Nat => (x : Int)).map (Value.int .i64) := by simp [cellsI]
set_option maxRecDepth 100000 in
set_option maxHeartbeats 1000000 in
theorem wakes07 (w : World) : Calls Try.prog 40 #[] w fun e w' => e = .returned (.bool true) ∧ Below w.heap.size w w' := by
  go_enter Try.func40, Try.ntmps40
  go_wp2_with fail
  refine (draw_new 5 w (by omega) (by omega)).mono ?_
  rintro e w1 ⟨rfl, rfl⟩
  have cS := Lib.hid (cho_some (some ⟨w.heap.size, 0, none⟩) 5 3 3 _ (by omega) (Nat.le_refl _) (fresh_dp w 5 74))
  go_wp2_with fail
  refine cS.out.mono ?_
  rintro e w2 ⟨v, rfl, ho, hb⟩
  have hb2 := fresh_below hb
  have ho3 : OwnI w2 w.heap.size v [0, 1, 2] := by
    have h := ho.base (C' := w.heap.size) (by simp)
    rw [show (some ⟨w.heap.size, 0, none⟩ : Option Addr).isNone = false from rfl, chosen_all] at h
    exact h
  obtain ⟨a, c, rfl, hr⟩ := ho3.rd
  have hr2 := hr.below ((Below.refl w2.heap.size w2).alloc (Nat.le_refl _) (.cells #[.int .i64 0, .int .i64 1, .int .i64 2] 3)) (Nat.le_refl _)
  have hr3 : Rd (w2.alloc (.cells #[.int .i64 0, .int .i64 1, .int .i64 2] 3)) (w2.alloc (.cells #[.int .i64 0, .int .i64 1, .int .i64 2] 3)).heap.size a 3 ([0, 1, 2].map (Value.int .i64)) := hr2.more (by simp)
  have hl3 : Rd (w2.alloc (.cells #[.int .i64 0, .int .i64 1, .int .i64 2] 3)) (w2.alloc (.cells #[.int .i64 0, .int .i64 1, .int .i64 2] 3)).heap.size (some ⟨w2.heap.size, 0, none⟩) 3 ([0, 1, 2].map (Value.int .i64)) := by
    refine ⟨rfl, fun _ => ⟨w2.heap.size, 0, rfl, by simp, fun i u hu => ?_⟩⟩
    rw [Nat.zero_add, (Blk.new w2 3 #[.int .i64 0, .int .i64 1, .int .i64 2]).cell i]
    simpa using hu
  have CE := same_i64 [0, 1, 2] [0, 1, 2] a (some ⟨w2.heap.size, 0, none⟩) 3 3 c 3 _ hr3 hl3 (by unfold maxLen; omega) (by unfold maxLen; omega)
  rw [decide_eq_true rfl] at CE
  have CEH := Lib.hid CE
  have HB := Lib.hid (hb2.alloc hb2.size (.cells #[.int .i64 0, .int .i64 1, .int .i64 2] 3))
  clear CE hl3 hr3 hr2 hr ho3 hb2 hb ho cS
  go_wp2_with fail
  refine CEH.out.mono ?_
  rintro e w3 ⟨rfl, j, rfl⟩
  go_wp2_with fail
  go_ret
  exact ⟨rfl, below_drewN HB.out j⟩

set_option maxRecDepth 100000 in
set_option maxHeartbeats 4000000 in
theorem someMore_walk (w : World) (sd : Int) (hsd : 0 ≤ sd ∧ sd ≤ 18446744073709551615) (n0 : Int) (hn0 : -9223372036854775808 ≤ n0 ∧ n0 ≤ 9223372036854775807) (k0 : Int) (hk0 : -9223372036854775808 ≤ k0 ∧ k0 ≤ 9223372036854775807) :
    Calls Try.prog 13 #[.int .u64 sd, .int .i64 n0, .int .i64 k0] w fun e w' => e = .returned (.bool true) ∧ Below w.heap.size w w' := by
  have m1 := Int.emod_nonneg n0 (show (64 : Int) ≠ 0 by omega)
  have m2 := Int.emod_lt_of_pos n0 (show (0 : Int) < 64 by omega)
  have hq : ∀ w : World, Calls Try.prog 25 #[.int .i64 n0, .int .i64 64] w fun e w' => e = .returned (.int .i64 (n0 % 64)) ∧ w = w' := fun w => keep_within n0 64 w hn0 (by omega) (by omega)
  generalize n0 % 64 = q at *
  obtain ⟨q, rfl⟩ := Int.eq_ofNat_of_zero_le m1
  obtain ⟨n, hn⟩ : ∃ n, n = q + 1 := ⟨_, rfl⟩
  have hn64 : n ≤ 64 := by omega
  have hnp : (0 : Int) < (n : Int) := by omega
  have p1 := Int.emod_nonneg k0 (show (n : Int) ≠ 0 by omega)
  have p2 := Int.emod_lt_of_pos k0 hnp
  have hqk : ∀ w : World, Calls Try.prog 25 #[.int .i64 k0, .int .i64 n] w fun e w' => e = .returned (.int .i64 (k0 % n)) ∧ w = w' := fun w => keep_within k0 n w hk0 hnp (by omega)
  generalize k0 % (n : Int) = r at *
  obtain ⟨k, rfl⟩ := Int.eq_ofNat_of_zero_le p1
  have hkn : k < n := by omega
  have hs0 : 0 ≤ sd % 4294967296 ∧ sd % 4294967296 ≤ 4294967295 := by omega
  have HDN := Lib.hid fun w => draw_new (sd % 4294967296) w hs0.1 hs0.2
  generalize hse : sd % 4294967296 = s0 at *
  have hnI : (1 : Int) + (q : Int) = (n : Int) := by omega
  have HQ := Lib.hid hq
  have HQK := Lib.hid hqk
  have C1 := Lib.hid fun w => cho_some (some ⟨w.heap.size, 0, none⟩) s0 n k _ hn64 (Nat.le_of_lt hkn) (fresh_dp w s0 74)
  have C2 := Lib.hid fun w => cho_some (some ⟨w.heap.size, 0, none⟩) s0 n (k + 1) _ hn64 hkn (fresh_dp w s0 74)
  have hN : ∀ z : Nat, (some ⟨z, 0, none⟩ : Option Addr).isNone = false := fun _ => rfl
  simp only [hN] at C1 C2
  have HL1 := Lib.hid (chosen_len (nl := false) (s := s0) (Nat.le_of_lt hkn))
  have HL2 := Lib.hid (chosen_len (nl := false) (s := s0) (k := k + 1) hkn)
  have HLT2 := Lib.hid (chosen_lt (nl := false) (s := s0) (k := k + 1) hkn)
  have HMO := Lib.hid fun x => chosen_more (nl := false) (n := n) (s := s0) (k := k) (x := x)
  obtain ⟨k1, hk1⟩ : ∃ k1, k1 = k + 1 := ⟨_, rfl⟩
  rw [← hk1] at C2 HL2 HLT2 HMO
  have hkI : (k : Int) + 1 = (k1 : Int) := by omega
  have hk164 : k1 ≤ 64 := by omega
  generalize chosen false n s0 k = Z1 at *
  generalize chosen false n s0 k1 = Z2 at *
  clear hq hqk m1 p1 hn hk1 hn0 hk0 hsd hs0 hN
  have hkn64 : k ≤ 64 := by omega
  clear hkn p2 m2
  go_enter Try.func13, Try.ntmps13
  go_wp2_with fail
  refine (HQ.out _).mono ?_
  rintro e w1 ⟨rfl, rfl⟩
  go_wp2_with fail
  refine (HQK.out _).mono ?_
  rintro e w1 ⟨rfl, rfl⟩
  go_wp2_with fail
  refine (HDN.out _).mono ?_
  rintro e w1 ⟨rfl, rfl⟩
  go_wp2_with fail
  refine (C1.out _).mono ?_
  rintro e w2 ⟨v1, rfl, ho1, hb1⟩
  have hb1' := fresh_below hb1
  have ho1' := ho1.base (C' := w.heap.size) (by simp)
  obtain ⟨a1, c1, rfl, hr1⟩ := ho1'.rd
  rw [HL1.out] at hr1 ⊢
  have HR1 := Lib.hid hr1
  have HB1 := Lib.hid hb1'
  clear hb1 hb1' ho1 ho1' hr1
  go_wp2_with fail
  refine (HDN.out _).mono ?_
  rintro e w3 ⟨rfl, rfl⟩
  go_wp2_with fail
  refine (C2.out _).mono ?_
  rintro e w4 ⟨v2, rfl, ho2, hb2⟩
  have hb2' := fresh_below hb2
  obtain ⟨a2, c2, rfl, hr2⟩ := ho2.rd
  rw [HL2.out] at hr2 ⊢
  have HR1' := Lib.hid ((HR1.out.below hb2' (Nat.le_refl _)).more hb2'.size)
  have HR2 := Lib.hid hr2
  have HB2 := Lib.hid (HB1.out.trans (hb2'.mono HB1.out.size))
  clear hb2 hb2' ho2 hr2 HR1 HB1 C1 C2 HDN HQ HQK
  go_wp2_with fail
  go_loopw [10, 43] (fun _ i wr => ∃ m : Nat, m ≤ k ∧ i = .int .i64 m ∧ Hid (∃ j, wr = w4.drewN j)) (fun _ i _ => k - (intOf i).toNat)
  case atStart => exact ⟨0, by omega, rfl, Lib.hid ⟨0, rfl⟩⟩
  case round =>
    obtain ⟨m, hm, rfl, HJ⟩ := hrel
    obtain ⟨j, hj⟩ := HJ.out
    clear HJ
    by_cases hlt : m < k
    · obtain ⟨bx, ox, rfl, _, hcx⟩ := HR1'.out.2 (by omega)
      have hml : m < Z1.length := by rw [HL1.out]; exact hlt
      have cx : wr.cell? ⟨bx, ox + m, none⟩ = some (.int .i64 (Z1.getD m 0 : Nat)) := by rw [hj]; exact hcx m _ (cellsI_get hml)
      have hmem : Z1.getD m 0 ∈ Z2 := HMO.out _ (by rw [getD_at hml]; exact List.getElem_mem hml)
      have CM := Lib.hid (keep_member Z2 (Z1.getD m 0) w4.heap.size a2 c2 wr (by rw [HL2.out, hj]; exact HR2.out) (by rw [HL2.out]; omega) hmem fun y hy => by have := HLT2.out y hy; omega)
      rw [HL2.out] at CM
      clear hcx hmem hml
      generalize Z1.getD m 0 = x at *
      have hlt' : (m : Int) < (k : Int) := by omega
      have HJ := Lib.hid hj
      clear hj
      go_wp2_with fail
      refine CM.out.mono ?_
      rintro e w5 ⟨rfl, j2, rfl⟩
      have HJ2 : Hid (∃ j, wr.drewN j2 = w4.drewN j) := Lib.hid ⟨j + j2, by rw [HJ.out, World.drewN_drewN]⟩
      clear HJ CM cx
      generalize wr.drewN j2 = w6 at *
      go_wp2_with fail
      go_roundw
      case rel => exact ⟨m + 1, by omega, by go_num, HJ2⟩
      case measure => simp [intOf]; omega
    · obtain rfl : m = k := by omega
      have hb3 : Below w.heap.size w wr := by rw [hj]; exact below_drewN HB2.out j
      have HB3 := Lib.hid hb3
      clear hb3 hj
      go_wp2_with fail
      refine (wakes07 _).mono ?_
      rintro e w7 ⟨rfl, hb⟩
      have HB4 := Lib.hid (HB3.out.trans (hb.mono HB3.out.size))
      clear hb
      go_wp2_with fail
      go_ret
      exact ⟨rfl, HB4.out⟩
end Go.Proofs.Ytiaoegdpofpneaa
