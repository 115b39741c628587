/- law09: the row of any ID, of any seed and parameters (LtTells). -/
import Derived.Test.YtiaoegdpofpneaaLtC
import Derived.Deep.RegionHeld3
namespace Go.Proofs.Ytiaoegdpofpneaa
open Go.RowKit
set_option linter.unusedVariables false

theorem three_get (a b c : Int) {k : Nat} (h : k < 3) : ∃ v : Int, (#[Value.int .i64 a, .int .i64 b, .int .i64 c] : Array Value)[k]? = some (.int .i64 v) := by
  match k, h with
  | 0, _ => exact ⟨a, rfl⟩
  | 1, _ => exact ⟨b, rfl⟩
  | 2, _ => exact ⟨c, rfl⟩
theorem six_get (a b c d e f : Int) {k : Nat} (h : k < 2) : ∃ K H S : Int, (#[Value.int .i64 a, .int .i64 b, .int .i64 c, .int .i64 d, .int .i64 e, .int .i64 f] : Array Value)[k * 3]? = some (.int .i64 K) ∧
    (#[Value.int .i64 a, .int .i64 b, .int .i64 c, .int .i64 d, .int .i64 e, .int .i64 f] : Array Value)[k * 3 + 1]? = some (.int .i64 H) ∧ (#[Value.int .i64 a, .int .i64 b, .int .i64 c, .int .i64 d, .int .i64 e, .int .i64 f] : Array Value)[k * 3 + 2]? = some (.int .i64 S) := by
  match k, h with
  | 0, _ => exact ⟨a, b, c, rfl, rfl, rfl⟩
  | 1, _ => exact ⟨d, e, f, rfl, rfl, rfl⟩

set_option maxRecDepth 100000 in
set_option maxHeartbeats 8000000 in
theorem ltTells_walk (w : World) (x y z : Int) (hx : -9223372036854775808 ≤ x ∧ x ≤ 9223372036854775807) (hy : -9223372036854775808 ≤ y ∧ y ≤ 9223372036854775807) (hz : -9223372036854775808 ≤ z ∧ z ≤ 9223372036854775807)
    (a : Int) (ha : -9223372036854775808 ≤ a ∧ a ≤ 9223372036854775807) (b : Int) (hb : -9223372036854775808 ≤ b ∧ b ≤ 9223372036854775807) (c : Int) (hc : -9223372036854775808 ≤ c ∧ c ≤ 9223372036854775807)
    (sd : Int) (hsd : 0 ≤ sd ∧ sd ≤ 18446744073709551615) (id0 : Int) (hid : -9223372036854775808 ≤ id0 ∧ id0 ≤ 9223372036854775807) :
    Calls Try.prog 15 #[.agg #[.int .i64 x, .int .i64 y, .int .i64 z], .int .i64 a, .int .i64 b, .int .i64 c, .int .u64 sd, .int .i64 id0] w fun e w' => e = .returned (.bool true) ∧ Below w.heap.size w w' := by
  have CP := Lib.hid fun w => play_params a b c w ha hb hc
  unfold parV at CP
  generalize (1 : Int) + a % 16 = K1 at *
  generalize (1 : Int) + b % 4 = H1 at *
  generalize (1 : Int) + c % 24 = S1 at *
  have CW := Lib.hid fun w => keep_within id0 65536 w hid (by omega) (by omega)
  have CW2 := Lib.hid fun w => keep_within id0 40 w hid (by omega) (by omega)
  generalize id0 % 65536 = i1 at *
  generalize id0 % 40 = i2 at *
  have hs0 : 0 ≤ sd % 4294967296 := by omega
  have hs1 : sd % 4294967296 < 4294967296 := by omega
  generalize hse : sd % 4294967296 = s at *
  have hsw : IntKind.u32.wrap sd = s := by rw [IntKind.wrap_u32]; exact hse
  have CL := Lib.hid fun K H S n w => lt_cols K H S s n w hs0 hs1
  have CA := Lib.hid fun K H S n w => ref_at K H S s n w hs0 hs1
  have CR := Lib.hid fun K H S n w => lt_row K H S s n w hs0 hs1
  have CB := Lib.hid fun K H S n w => ref_row K H S s n w hs0 hs1
  unfold parV at CL CA CR CB
  clear hx hy hz ha hb hc hsd hid hs0 hs1
  have HX0 := Lib.hid (Blk.new w 61 #[.int .i64 x, .int .i64 y, .int .i64 z])
  have HB0 := Lib.hid ((Below.refl w.heap.size w).alloc (Nat.le_refl _) (.cells #[.int .i64 x, .int .i64 y, .int .i64 z] 61))
  go_enter Try.func15, Try.ntmps15
  go_wp2_with fail
  obtain ⟨k0, k1, k2⟩ := blkP HX0.out
  have hlt := HX0.out.lt
  generalize hGG : w.heap.size = G at *
  have HGG := Lib.hid hGG
  clear hGG HX0
  generalize w.alloc (.cells #[.int .i64 x, .int .i64 y, .int .i64 z] 61) = w1 at *
  go_region_held3 (fun w' => w'.cell? ⟨G, 0, none⟩ = some (.int .i64 x) ∧ w'.cell? ⟨G, 1, none⟩ = some (.int .i64 y) ∧ w'.cell? ⟨G, 2, none⟩ = some (.int .i64 z)) (go_keep) (first
    | (go_at_call 43
       refine (CP.out _).mono ?_
       rintro e w2 ⟨rfl, hb2⟩
       have HB2 : Hid (Below G w w2) := Lib.hid ((below_drewN HB0.out 1).trans (hb2.mono (Nat.le_of_lt hlt)))
       have m0 := (hb2.cell (p := ⟨G, 0, none⟩) hlt).trans k0
       have m1 := (hb2.cell (p := ⟨G, 1, none⟩) hlt).trans k1
       have m2 := (hb2.cell (p := ⟨G, 2, none⟩) hlt).trans k2
       clear hb2))
  have hG2 : G ≤ w2.heap.size := by have := HB2.out.size; have := HGG.out; omega
  have HBL := Lib.hid (Blk.new w2 61 #[.int .i64 x, .int .i64 y, .int .i64 z, .int .i64 K1, .int .i64 H1, .int .i64 S1])
  have HB3 := Lib.hid (HB2.out.alloc hG2 (.cells #[.int .i64 x, .int .i64 y, .int .i64 z, .int .i64 K1, .int .i64 H1, .int .i64 S1] 61))
  have hG3 := Nat.le_trans hG2 ((Below.refl w2.heap.size w2).alloc (Nat.le_refl _) (.cells #[.int .i64 x, .int .i64 y, .int .i64 z, .int .i64 K1, .int .i64 H1, .int .i64 S1] 61)).size
  clear HB2 hG2 m0 m1 m2 k0 k1 k2 hlt HB0 CP
  go_wp2_with fail
  generalize w2.alloc (.cells #[.int .i64 x, .int .i64 y, .int .i64 z, .int .i64 K1, .int .i64 H1, .int .i64 S1] 61) = w3 at *
  generalize w2.heap.size = B at *
  have S0 : Hid (Sx w3 w3 [eBlk B 61 #[.int .i64 x, .int .i64 y, .int .i64 z, .int .i64 K1, .int .i64 H1, .int .i64 S1]]) := Lib.hid ((Sx.nil w3).add (eBlk B 61 #[.int .i64 x, .int .i64 y, .int .i64 z, .int .i64 K1, .int .i64 H1, .int .i64 S1]) HBL.out)
  clear HBL
  go_loopw [24] (fun i wr => ∃ k : Nat, k ≤ 2 ∧ i = .int .i64 k ∧ Hid (Sx w3 wr [eBlk B 61 #[.int .i64 x, .int .i64 y, .int .i64 z, .int .i64 K1, .int .i64 H1, .int .i64 S1]])) (fun i _ => 2 - (intOf i).toNat)
  case atStart => exact ⟨0, by omega, rfl, S0⟩
  case round =>
    clear S0
    obtain ⟨k, hk, rfl, S0⟩ := hrel
    by_cases hk2 : k < 2
    · have hk2I : (k : Int) < 2 := by omega
      have c0 := (S0.out.blk 0 rfl).cell (k * 3)
      have c1 := (S0.out.blk 0 rfl).cell (k * 3 + 1)
      have c2 := (S0.out.blk 0 rfl).cell (k * 3 + 2)
      obtain ⟨K, H, S, r0, r1, r2⟩ := six_get x y z K1 H1 S1 hk2
      rw [r0] at c0
      rw [r1] at c1
      rw [r2] at c2
      clear r0 r1 r2
      have CL := Lib.hid fun n w => CL.out K H S n w
      have CA := Lib.hid fun n w => CA.out K H S n w
      have CR := Lib.hid fun n w => CR.out K H S n w
      have CB := Lib.hid fun n w => CB.out K H S n w
      go_wp2_with fail
      have HXP := Lib.hid (Blk.new wr 61 #[.int .i64 K, .int .i64 H, .int .i64 S])
      have hba := (Below.refl wr.heap.size wr).alloc (Nat.le_refl _) (.cells #[.int .i64 K, .int .i64 H, .int .i64 S] 61)
      have S2 := Lib.hid ((S0.out.step hba).add (eBlk wr.heap.size 61 #[.int .i64 K, .int .i64 H, .int .i64 S]) HXP.out)
      clear hba HXP S0 c0 c1 c2
      generalize wr.alloc (.cells #[.int .i64 K, .int .i64 H, .int .i64 S] 61) = w4 at *
      generalize wr.heap.size = P at *
      refine (CW.out _).mono ?_
      rintro e w5 ⟨rfl, rfl⟩
      go_wp2_with fail
      refine (CW2.out _).mono ?_
      rintro e w5 ⟨rfl, rfl⟩
      have hbn := (Below.refl w4.heap.size w4).alloc (Nat.le_refl _) (.cells #[.int .i64 id0, .int .i64 i1, .int .i64 i2] 3)
      have S3 := Lib.hid ((S2.out.step hbn).add (eBlk w4.heap.size 3 #[.int .i64 id0, .int .i64 i1, .int .i64 i2]) (Blk.new w4 3 #[.int .i64 id0, .int .i64 i1, .int .i64 i2]))
      clear hbn S2
      go_wp2_with fail
      generalize w4.alloc (.cells #[.int .i64 id0, .int .i64 i1, .int .i64 i2] 3) = w5 at *
      generalize w4.heap.size = N at *
      -- [ids, q, params]
      go_loopw [35] (fun i wq => ∃ j : Nat, j ≤ 3 ∧ i = .int .i64 j ∧ Hid (Sx w3 wq [eBlk N 3 #[.int .i64 id0, .int .i64 i1, .int .i64 i2], eBlk P 61 #[.int .i64 K, .int .i64 H, .int .i64 S], eBlk B 61 #[.int .i64 x, .int .i64 y, .int .i64 z, .int .i64 K1, .int .i64 H1, .int .i64 S1]])) (fun i _ => 3 - (intOf i).toNat)
      case atStart => exact ⟨0, by omega, rfl, S3⟩
      case round =>
        clear S3
        obtain ⟨j, hj, rfl, S3⟩ := hrel
        rename World => wq
        by_cases hj3 : j < 3
        · have hj3I : (j : Int) < 3 := by omega
          have cj := (S3.out.blk 0 rfl).cell j
          obtain ⟨i, hi⟩ := three_get id0 i1 i2 hj3
          rw [hi] at cj
          obtain ⟨k0, k1, k2⟩ := blkP (S3.out.blk 1 rfl)
          have CLi := Lib.hid fun w => CL.out i w
          have CAi := Lib.hid fun w => CA.out i w
          have CRi := Lib.hid fun w => CR.out i w
          have CBi := Lib.hid fun w => CB.out i w
          have hz1 := colL_len K H S s i
          have hz2 := rowL_len K H S s i
          generalize colL K H S s i = Z at *
          generalize rowL K H S s i = Y at *
          obtain ⟨q, hq⟩ : ∃ q, Z.length = q := ⟨_, rfl⟩
          have HQ := Lib.hid hq
          obtain ⟨m, hm⟩ : ∃ m, Y.length = m := ⟨_, rfl⟩
          have HM := Lib.hid hm
          rw [hq] at hz1
          rw [hm] at hz2
          rw [hm] at CRi CBi
          clear hi hq hm
          go_wp2_with fail
          go_region_held3 (fun w' => w'.cell? ⟨P, 0, none⟩ = some (.int .i64 K) ∧ w'.cell? ⟨P, 1, none⟩ = some (.int .i64 H) ∧ w'.cell? ⟨P, 2, none⟩ = some (.int .i64 S)) (go_keep) (first
            | (go_at_call 44
               (try rw [hsw])
               refine (CLi.out _).mono ?_
               rintro e wA ⟨v, rfl, hO, hb⟩
               obtain ⟨a1, c1, rfl, hr, -⟩ := hO.rd2 HQ.out
               have S4 := Lib.hid ((S3.out.drew.step hb).add (eRd a1 q (cellsI Z)) hr)
               obtain ⟨n0, n1, n2⟩ := blkP (S4.out.blk 2 rfl)
               clear hO hb hr)
            | (go_at_call 45
               (try rw [hsw])
               refine (CAi.out _).mono ?_
               rintro e wB ⟨v, rfl, hO, hb⟩
               obtain ⟨a2, c2, rfl, hr, -⟩ := hO.rd2 HQ.out
               have S5 := Lib.hid ((S4.out.step hb).add (eRd a2 q (cellsI Z)) hr)
               obtain ⟨n0, n1, n2⟩ := blkP (S5.out.blk 3 rfl)
               clear hO hb hr)
            | (go_at_call 32
               refine (same_I Z a1 a2 q c1 c2 wB (S5.out.rd 1 rfl) (S5.out.rd 0 rfl) (by omega)).mono ?_
               rintro e wC ⟨rfl, j3, rfl⟩
               have S6 := Lib.hid (S5.out.drewN j3)
               have n0 := n0
               have n1 := n1
               have n2 := n2)
            | (go_at_call 47
               (try rw [hsw])
               refine (CRi.out _).mono ?_
               rintro e wD ⟨a3, c3, rfl, hr, hb⟩
               have S7 := Lib.hid ((S6.out.step hb).add (eRd a3 m (cellsY Y)) hr)
               obtain ⟨n0, n1, n2⟩ := blkP (S7.out.blk 4 rfl)
               clear hb hr)
            | (go_at_call 48
               (try rw [hsw])
               refine (CBi.out _).mono ?_
               rintro e wE ⟨a4, c4, rfl, hr, hb⟩
               have S8 := Lib.hid ((S7.out.step hb).add (eRd a4 m (cellsY Y)) hr)
               obtain ⟨n0, n1, n2⟩ := blkP (S8.out.blk 5 rfl)
               clear hb hr)
            | (go_at_call 46
               refine (same_Y Y a3 a4 m c3 c4 wE (S8.out.rd 1 rfl) (S8.out.rd 0 rfl) (by omega)).mono ?_
               rintro e wF ⟨rfl, j6, rfl⟩
               have S9 := Lib.hid (S8.out.drewN j6)
               have n0 := n0
               have n1 := n1
               have n2 := n2))
          have S10 := Lib.hid (S9.out.cut [eBlk N 3 #[.int .i64 id0, .int .i64 i1, .int .i64 i2], eBlk P 61 #[.int .i64 K, .int .i64 H, .int .i64 S], eBlk B 61 #[.int .i64 x, .int .i64 y, .int .i64 z, .int .i64 K1, .int .i64 H1, .int .i64 S1]] (by
            intro e he
            simp only [List.mem_cons, List.not_mem_nil, or_false] at he ⊢
            rcases he with rfl | rfl | rfl <;> simp))
          clear S3 S4 S5 S6 S7 S8 S9 n0 n1 n2 k0 k1 k2
          go_wp2_with fail
          go_roundw
          case rel => first | exact ⟨j + 1, by omega, by go_num, S10⟩ | ((repeat apply Exists.intro); exact ⟨⟨j + 1, by omega, by go_num, S10⟩, rfl⟩)
          case measure => simp [intOf]; omega
        · obtain rfl : j = 3 := by omega
          have S10 := Lib.hid (S3.out.cut [eBlk B 61 #[.int .i64 x, .int .i64 y, .int .i64 z, .int .i64 K1, .int .i64 H1, .int .i64 S1]] (by
            intro e he
            simp only [List.mem_cons, List.not_mem_nil, or_false] at he ⊢
            rcases he with rfl; simp))
          clear S3
          go_wp2_with fail
          go_roundw
          case rel => first | exact ⟨k + 1, by omega, by go_num, S10⟩ | ((repeat apply Exists.intro); exact ⟨⟨k + 1, by omega, by go_num, S10⟩, rfl⟩)
          case measure => simp [intOf]; omega
    · obtain rfl : k = 2 := by omega
      go_wp2_with fail
      refine (wakes09 _).mono ?_
      rintro e w8 ⟨rfl, hb⟩
      have S7 := Lib.hid (S0.out.step hb)
      clear hb S0
      go_wp2_with fail
      go_ret
      exact ⟨rfl, by rw [HGG.out]; exact HB3.out.trans (S7.out.1.mono hG3)⟩
end Go.Proofs.Ytiaoegdpofpneaa
