/- law09: the example of the document; a row's places (LtRows). -/
import Derived.Test.YtiaoegdpofpneaaLtA
import Derived.Test.YtiaoegdpofpneaaChoD
import Derived.Deep.RegionHeld3
namespace Go.Proofs.Ytiaoegdpofpneaa
open Go.RowKit
set_option linter.unusedVariables false

theorem rowY_at {R : List Nat} {k : Nat} (hk : k < R.length) : (rowY R)[k]? = some (.int .u8 (R.getD k 0 : Nat)) := by
  have := cellsY_get hk
  simpa [rowY] using this
set_option maxRecDepth 100000 in
set_option maxHeartbeats 4000000 in
theorem wakes09 (w : World) :
    Calls Try.prog 49 #[] w fun e w' => e = .returned (.bool true) ∧ Below w.heap.size w w' := by
  have hok : okP 2 1 1 = true := by decide
  obtain ⟨l1, l2, l3⟩ := ltL_in (n := 3) (by omega) (by omega) (nxt (ltS 7 3))
  have CR := Lib.hid fun w => lt_row_yes 2 1 1 7 3 w hok (by omega) (by omega) (by omega) (by omega)
  have CL := Lib.hid fun w => lt_cols_yes 2 1 1 7 3 w hok (by omega) (by omega) (by omega) (by omega)
  rw [show (2 : Int) + 1 = ((3 : Nat) : Int) by rfl] at CR CL
  rw [Int.toNat_natCast] at CR
  have l4 := ltL_len ((3 : Nat) : Int) (nxt (ltS 7 3))
  unfold parV at CR CL
  generalize ltL ((3 : Nat) : Int) (nxt (ltS 7 3)) = L at *
  have HS := Lib.hid fun k => cnt_step l3 k
  have HLE := Lib.hid fun k => cnt_le L k
  have HG := Lib.hid fun k (hk : k < 3) => onL_get (n := 3) (L := L) hk
  have HALL : Hid (cntL L 3 = L.length) := Lib.hid (cnt_all l2)
  have HZ := Lib.hid (cnt_zero L)
  have HLN := Lib.hid (onL_len 3 L)
  generalize onL 3 L = R at *
  obtain ⟨q, hq⟩ : ∃ q, L.length = q := ⟨_, rfl⟩
  have HQ := Lib.hid hq
  rw [hq] at l1 l4
  clear hq l2 l3 hok
  go_enter Try.func49, Try.ntmps49
  go_wp2_with fail
  have HX0 := Lib.hid (Blk.new w 61 #[.int .i64 2, .int .i64 1, .int .i64 1])
  have HB0 := Lib.hid ((Below.refl w.heap.size w).alloc (Nat.le_refl _) (.cells #[.int .i64 2, .int .i64 1, .int .i64 1] 61))
  generalize w.alloc (.cells #[.int .i64 2, .int .i64 1, .int .i64 1] 61) = w1 at *
  refine (CR.out _).mono ?_
  rintro e w2 ⟨g, n, rfl, hK, rfl, hb⟩
  have S1 := Lib.hid (((Sx.nil w1).add (eBlk w.heap.size 61 #[.int .i64 2, .int .i64 1, .int .i64 1]) HX0.out).step hb |>.add (eBlk g 5 (rowY R)) hK)
  clear hK hb CR HX0
  -- [row, p]
  go_wp2_with fail
  go_loopw [2, 9] (fun m i wr => ∃ k : Nat, k ≤ 3 ∧ i = .int .i64 k ∧ m = .int .i64 (cntL L k : Nat) ∧ Hid (Sx w1 wr [eBlk g 5 (rowY R), eBlk w.heap.size 61 #[.int .i64 2, .int .i64 1, .int .i64 1]])) (fun _ i _ => 3 - (intOf i).toNat)
  case atStart => exact ⟨0, by omega, rfl, by rw [HZ.out]; rfl, S1⟩
  case round =>
    clear S1
    obtain ⟨k, hk, rfl, rfl, S1⟩ := hrel
    by_cases hk3 : k < 3
    · have hk3I : (k : Int) < 3 := by omega
      have hcell := (S1.out.blk 0 rfl).cell k
      rw [rowY_at (by rw [HLN.out]; exact hk3), HG.out k hk3] at hcell
      have hst := HS.out k
      have hle := HLE.out k
      rw [HQ.out] at hle
      generalize (if k ∈ L then 1 else 0 : Nat) = y at *
      generalize hc1 : cntL L (k + 1) = c1 at *
      have HC1 := Lib.hid hc1
      clear hc1
      generalize cntL L k = c0 at *
      have hy : c0 + y ≤ 64 := by have := HLE.out (k + 1); rw [HQ.out, HC1.out] at this; omega
      have hcI : (c0 : Int) + (y : Int) = (c1 : Int) := by omega
      clear hst
      go_wp2_with fail
      go_roundw
      case rel => first | exact ⟨k + 1, by omega, by go_num, by rw [HC1.out], S1⟩ | ((repeat apply Exists.intro); exact ⟨⟨k + 1, by omega, by go_num, by rw [HC1.out], S1⟩, rfl⟩)
      case measure => simp [intOf]; omega
    · obtain rfl : k = 3 := by omega
      have HCQ : Hid (cntL L 3 = q) := Lib.hid (by rw [HALL.out, HQ.out])
      rw [HCQ.out]
      obtain ⟨k0, k1, k2⟩ := blkP (S1.out.blk 1 rfl)
      have hq0 : (0 : Int) < (q : Int) := by omega
      go_wp2_with fail
      refine (CL.out _).mono ?_
      rintro e w3 ⟨v, rfl, hO, hb⟩
      obtain ⟨a1, c1, rfl, hr, -⟩ := hO.rd2 HQ.out
      have S2 := Lib.hid (S1.out.step hb)
      clear hO hr hb S1
      go_wp2_with fail
      go_ret
      exact ⟨rfl, HB0.out.trans (S2.out.1.mono HB0.out.size)⟩

set_option maxRecDepth 100000 in
set_option maxHeartbeats 8000000 in
theorem ltRows_walk (w : World) (a : Int) (ha : -9223372036854775808 ≤ a ∧ a ≤ 9223372036854775807) (b : Int) (hb : -9223372036854775808 ≤ b ∧ b ≤ 9223372036854775807) (c : Int) (hc : -9223372036854775808 ≤ c ∧ c ≤ 9223372036854775807)
    (sd : Int) (hsd : 0 ≤ sd ∧ sd ≤ 18446744073709551615) (id0 : Int) (hid : -9223372036854775808 ≤ id0 ∧ id0 ≤ 9223372036854775807) :
    Calls Try.prog 16 #[.int .i64 a, .int .i64 b, .int .i64 c, .int .u64 sd, .int .i64 id0] w fun e w' => e = .returned (.bool true) ∧ Below w.heap.size w w' := by
  have CP := Lib.hid fun w => play_params a b c w ha hb hc
  have hok : okP (1 + a % 16) (1 + b % 4) (1 + c % 24) = true := okP_yes (by omega)
  unfold parV at CP
  generalize (1 : Int) + a % 16 = K at *
  generalize (1 : Int) + b % 4 = H at *
  generalize (1 : Int) + c % 24 = S at *
  have CW := Lib.hid fun w => keep_within id0 65536 w hid (by omega) (by omega)
  have q1 := Int.emod_nonneg id0 (show (65536 : Int) ≠ 0 by omega)
  have q2 := Int.emod_lt_of_pos id0 (show (0 : Int) < 65536 by omega)
  generalize id0 % 65536 = d0 at *
  obtain ⟨d, rfl⟩ := Int.eq_ofNat_of_zero_le q1
  have hs0 : 0 ≤ sd % 4294967296 := by omega
  have hs1 : sd % 4294967296 < 4294967296 := by omega
  generalize hse : sd % 4294967296 = s at *
  have hsw : IntKind.u32.wrap sd = s := by rw [IntKind.wrap_u32]; exact hse
  obtain ⟨n, hn1, hn2, hn3, hn4⟩ := ok_cols hok
  have CC := Lib.hid fun w => pre_cols K H S w
  have CL := Lib.hid fun w => lt_cols_yes K H S s d w hok (by omega) (by omega) hs0 hs1
  have CR := Lib.hid fun w => lt_row_yes K H S s d w hok (by omega) (by omega) hs0 hs1
  rw [hn1] at CC
  rw [hn2] at CL CR
  rw [Int.toNat_natCast] at CR
  obtain ⟨e1, he1⟩ : ∃ e1, e1 = -1 - (d : Int) := ⟨_, rfl⟩
  obtain ⟨e2, he2⟩ : ∃ e2, e2 = 65536 + (d : Int) := ⟨_, rfl⟩
  have CNR := Lib.hid fun w => lt_row_no K H S s e1 w (fun h => by have := h.2.1; omega)
  have CNC := Lib.hid fun w => lt_cols_no K H S s e2 w (fun h => by have := h.2.2; omega)
  have he1w : -1 - (d : Int) = e1 := he1.symm
  have he2w : 65536 + (d : Int) = e2 := he2.symm
  have he1k : IntKind.i64.wrap e1 = e1 := by rw [IntKind.wrap_i64]; omega
  have he2k : IntKind.i64.wrap e2 = e2 := by rw [IntKind.wrap_i64]; omega
  obtain ⟨l1, l2, l3⟩ := ltL_in (n := n) (by omega) (by omega) (nxt (ltS s d))
  have l4 := ltL_len n (nxt (ltS s d))
  unfold parV at CC CL CR CNR CNC
  generalize ltL (n : Int) (nxt (ltS s d)) = L at *
  have hn64 : n ≤ 64 := by omega
  have HG := Lib.hid fun k (hk : k < n) => onL_get (n := n) (L := L) hk
  have HLN := Lib.hid (onL_len n L)
  generalize onL n L = R at *
  obtain ⟨q, hq⟩ : ∃ q, L.length = q := ⟨_, rfl⟩
  have HQ := Lib.hid hq
  rw [hq] at l1 l4
  have HL2 := Lib.hid l2
  have HL3 := Lib.hid l3
  clear hq l2 l3 hok hn1 hn2 q1 q2 hs0 hs1 ha hb hc hid hsd he1 he2
  have hnn : ((n : Int) != (n : Int)) = false := by simp
  have hq1 : ¬ (q : Int) < 1 := by omega
  go_enter Try.func16, Try.ntmps16
  go_wp2_with fail
  refine (CP.out _).mono ?_
  rintro e w1 ⟨rfl, hb⟩
  have HB1 := Lib.hid hb
  clear hb CP
  go_wp2_with fail
  refine (CW.out _).mono ?_
  rintro e w2 ⟨rfl, rfl⟩
  clear CW
  have HX2 := Lib.hid (Blk.new w1 61 #[.int .i64 K, .int .i64 H, .int .i64 S])
  have HB2 := Lib.hid (HB1.out.alloc HB1.out.size (.cells #[.int .i64 K, .int .i64 H, .int .i64 S] 61))
  clear HB1
  go_wp2_with fail
  generalize w1.alloc (.cells #[.int .i64 K, .int .i64 H, .int .i64 S] 61) = w2 at *
  generalize w1.heap.size = P at *
  have S0 : Hid (Sx w2 w2 [eBlk P 61 #[.int .i64 K, .int .i64 H, .int .i64 S]]) := Lib.hid ((Sx.nil w2).add (eBlk P 61 #[.int .i64 K, .int .i64 H, .int .i64 S]) HX2.out)
  obtain ⟨k0, k1, k2⟩ := blkP HX2.out
  clear HX2
  go_region_held3 (fun w' => w'.cell? ⟨P, 0, none⟩ = some (.int .i64 K) ∧ w'.cell? ⟨P, 1, none⟩ = some (.int .i64 H) ∧ w'.cell? ⟨P, 2, none⟩ = some (.int .i64 S)) (go_keep) (first
    | (go_at_call 44
       (try rw [hsw])
       refine (CL.out _).mono ?_
       rintro e wA ⟨v, rfl, hO, hb⟩
       obtain ⟨aL, cL, rfl, hr, -⟩ := hO.rd2 HQ.out
       have S1 := Lib.hid ((S0.out.drew.step hb).add (eRd aL q (cellsI L)) hr)
       obtain ⟨n0, n1, n2⟩ := blkP (S1.out.blk 1 rfl)
       clear hO hb hr)
    | (go_at_call 47
       (try rw [hsw])
       refine (CR.out _).mono ?_
       rintro e w3 ⟨g, n', rfl, hK, rfl, hb⟩
       have S2 := Lib.hid ((S1.out.step hb).add (eBlk g 5 (rowY R)) hK)
       obtain ⟨n0, n1, n2⟩ := blkP (S2.out.blk 2 rfl)
       clear hK hb))
  -- [row, cols, p]
  clear CL CR S1 S0 k0 k1 k2
  go_wp2_with fail
  refine (CC.out _).mono ?_
  rintro e w4 ⟨rfl, hb⟩
  have S3 := Lib.hid (S2.out.step hb)
  clear hb CC S2 n0 n1 n2
  go_wp2_with fail
  refine (keep_rises L q _ aL cL w4 (S3.out.rd 1 rfl) HQ.out (by omega) HL3.out (fun y hy => by have := HL2.out y hy; omega)).mono ?_
  rintro e w5 ⟨rfl, j5, rfl⟩
  have S4 := Lib.hid (S3.out.drewN j5)
  clear S3
  generalize w4.drewN j5 = w5 at *
  go_wp2_with fail
  go_loopw [49] (fun i wr => ∃ k : Nat, k ≤ n ∧ i = .int .i64 k ∧ Hid (Sx w2 wr [eBlk g 5 (rowY R), eRd aL q (cellsI L), eBlk P 61 #[.int .i64 K, .int .i64 H, .int .i64 S]])) (fun i _ => n - (intOf i).toNat)
  case atStart => exact ⟨0, by omega, rfl, S4⟩
  case round =>
    clear S4
    obtain ⟨k, hk, rfl, S4⟩ := hrel
    by_cases hkn : k < n
    · have hknI : (k : Int) < (n : Int) := by omega
      have hcell := (S4.out.blk 0 rfl).cell k
      rw [rowY_at (by rw [HLN.out]; exact hkn), HG.out k hkn] at hcell
      have CM := Lib.hid (keep_memberD L k q _ aL cL wr (S4.out.rd 1 rfl) HQ.out (by omega) (fun y hy => by have := HL2.out y hy; omega) (by omega))
      by_cases hm : k ∈ L
      · rw [if_pos hm] at hcell
        rw [decide_eq_true hm] at CM
        have hcell : wr.cell? ⟨g, k, none⟩ = some (.int .u8 1) := hcell
        clear hm
        go_wp2_with fail
        refine CM.out.mono ?_
        rintro e w6 ⟨rfl, j6, rfl⟩
        have S5 := Lib.hid (S4.out.drewN j6)
        clear S4 CM
        go_wp2_with fail
        go_roundw
        case rel => first | exact ⟨k + 1, by omega, by go_num, S5⟩ | ((repeat apply Exists.intro); exact ⟨⟨k + 1, by omega, by go_num, S5⟩, rfl⟩)
        case measure => simp [intOf]; omega
      · rw [if_neg hm] at hcell
        rw [decide_eq_false hm] at CM
        have hcell : wr.cell? ⟨g, k, none⟩ = some (.int .u8 0) := hcell
        clear hm
        go_wp2_with fail
        refine CM.out.mono ?_
        rintro e w6 ⟨rfl, j6, rfl⟩
        have S5 := Lib.hid (S4.out.drewN j6)
        clear S4 CM
        go_wp2_with fail
        go_roundw
        case rel => first | exact ⟨k + 1, by omega, by go_num, S5⟩ | ((repeat apply Exists.intro); exact ⟨⟨k + 1, by omega, by go_num, S5⟩, rfl⟩)
        case measure => simp [intOf]; omega
    · obtain rfl : k = n := by omega
      obtain ⟨k0, k1, k2⟩ := blkP (S4.out.blk 2 rfl)
      go_wp2_with fail
      refine (CNR.out _).mono ?_
      rintro e w6 ⟨rfl, hb⟩
      have S5 := Lib.hid (S4.out.step hb)
      clear hb S4 k0 k1 k2
      obtain ⟨k0, k1, k2⟩ := blkP (S5.out.blk 2 rfl)
      go_wp2_with fail
      refine (CNC.out _).mono ?_
      rintro e w7 ⟨rfl, hb⟩
      have S6 := Lib.hid (S5.out.step hb)
      clear hb S5
      go_wp2_with fail
      refine (wakes09 _).mono ?_
      rintro e w8 ⟨rfl, hb⟩
      have S7 := Lib.hid (S6.out.step hb)
      clear hb S6
      go_wp2_with fail
      go_ret
      exact ⟨rfl, HB2.out.trans (S7.out.1.mono HB2.out.size)⟩
end Go.Proofs.Ytiaoegdpofpneaa
