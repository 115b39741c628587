/- law09: a row hangs on the seed's and the ID's bits alone (LtTurned). -/
import Derived.Test.YtiaoegdpofpneaaLtC
import Derived.Deep.RegionHeld3
namespace Go.Proofs.Ytiaoegdpofpneaa
open Go.RowKit
set_option linter.unusedVariables false

theorem mixI_mod (o : Int) : o % 4294967296 * 2654435761 % 4294967296 = mixI o := by unfold mixI; rw [IntKind.wrap_u32]

set_option maxRecDepth 100000 in
set_option maxHeartbeats 8000000 in
theorem ltTurned_walk (w : World) (a : Int) (ha : -9223372036854775808 ≤ a ∧ a ≤ 9223372036854775807) (b : Int) (hb : -9223372036854775808 ≤ b ∧ b ≤ 9223372036854775807) (c : Int) (hc : -9223372036854775808 ≤ c ∧ c ≤ 9223372036854775807)
    (sd : Int) (hsd : 0 ≤ sd ∧ sd ≤ 18446744073709551615) (id0 : Int) (hid : -9223372036854775808 ≤ id0 ∧ id0 ≤ 9223372036854775807) (ot0 : Int) (hot : -9223372036854775808 ≤ ot0 ∧ ot0 ≤ 9223372036854775807) :
    Calls Try.prog 18 #[.int .i64 a, .int .i64 b, .int .i64 c, .int .u64 sd, .int .i64 id0, .int .i64 ot0] w fun e w' => e = .returned (.bool true) ∧ Below w.heap.size w w' := by
  have CP := Lib.hid fun w => play_params a b c w ha hb hc
  have hok : okP (1 + a % 16) (1 + b % 4) (1 + c % 24) = true := okP_yes (by omega)
  have hK : 1 ≤ (1 + a % 16 : Int) ∧ (1 + a % 16 : Int) ≤ 16 := by omega
  have hH : 1 ≤ (1 + b % 4 : Int) ∧ (1 + b % 4 : Int) ≤ 4 := by omega
  unfold parV at CP
  generalize (1 : Int) + a % 16 = K at *
  generalize (1 : Int) + b % 4 = H at *
  generalize (1 : Int) + c % 24 = S at *
  have CW := Lib.hid fun w => keep_within id0 65536 w hid (by omega) (by omega)
  have q1 := Int.emod_nonneg id0 (show (65536 : Int) ≠ 0 by omega)
  have q2 := Int.emod_lt_of_pos id0 (show (0 : Int) < 65536 by omega)
  generalize id0 % 65536 = d0 at *
  obtain ⟨d, rfl⟩ := Int.eq_ofNat_of_zero_le q1
  have CW2 := Lib.hid fun w => keep_within ot0 65536 w hot (by omega) (by omega)
  have p1 := Int.emod_nonneg ot0 (show (65536 : Int) ≠ 0 by omega)
  have p2 := Int.emod_lt_of_pos ot0 (show (0 : Int) < 65536 by omega)
  generalize ot0 % 65536 = o0 at *
  obtain ⟨o, rfl⟩ := Int.eq_ofNat_of_zero_le p1
  have hs0 : 0 ≤ sd % 4294967296 := by omega
  have hs1 : sd % 4294967296 < 4294967296 := by omega
  generalize hse : sd % 4294967296 = s at *
  have hb1 := ltS_bd (s := s) d hs0 hs1
  have hb2 := ltS_bd (s := ltS s d) o hb1.1 hb1.2
  have htn : ltS (ltS (ltS s d) o) o = ltS s d := ltS_turn hs0 hs1
  obtain ⟨n, hn1, hn2, hn3, hn4⟩ := ok_cols hok
  have CR := Lib.hid fun w => lt_row_yes K H S s d w hok (by omega) (by omega) hs0 hs1
  have CT := Lib.hid fun w => lt_row_yes K H S (ltS (ltS s d) o) o w hok (by omega) (by omega) hb2.1 hb2.2
  rw [htn] at CT
  rw [hn2, Int.toNat_natCast] at CR CT
  have HLN := Lib.hid (onL_len n (ltL n (nxt (ltS s d))))
  unfold parV at CR CT
  have i1 : bits .xor .u32 s ((d : Int) % 4294967296 * 2654435761 % 4294967296) = ltS s d := by rw [mixI_mod]; rfl
  have i2 : bits .xor .u32 (ltS s d) ((o : Int) % 4294967296 * 2654435761 % 4294967296) = ltS (ltS s d) o := by rw [mixI_mod]; rfl
  generalize ltS (ltS s d) o = t at *
  generalize onL n (ltL (n : Int) (nxt (ltS s d))) = R at *
  generalize ltS s d = s1 at *
  have hKn : IntKind.i64.wrap (K + H) = (n : Int) := by rw [IntKind.wrap_i64]; omega
  have hnw : IntKind.i64.wrap (n : Int) = (n : Int) := by rw [IntKind.wrap_i64]; omega
  have hn64 : n ≤ 64 := by omega
  clear hok hn1 hn3 hn4 q1 q2 p1 p2 hs0 hs1 ha hb hc hid hot hsd hb1 hb2 htn hK hH
  go_enter Try.func18, Try.ntmps18
  go_wp2_with fail
  refine (CP.out _).mono ?_
  rintro e w1 ⟨rfl, hb⟩
  have HB1 := Lib.hid hb
  have HX2 := Lib.hid (Blk.new w1 61 #[.int .i64 K, .int .i64 H, .int .i64 S])
  have HB2 := Lib.hid (HB1.out.alloc HB1.out.size (.cells #[.int .i64 K, .int .i64 H, .int .i64 S] 61))
  clear hb CP HB1
  go_wp2_with fail
  refine (CW.out _).mono ?_
  rintro e w2 ⟨rfl, rfl⟩
  clear CW
  go_wp2_with fail
  refine (CW2.out _).mono ?_
  rintro e w2 ⟨rfl, rfl⟩
  clear CW2
  go_wp2_with fail
  generalize w1.alloc (.cells #[.int .i64 K, .int .i64 H, .int .i64 S] 61) = w2 at *
  generalize w1.heap.size = P at *
  have S0 : Hid (Sx w2 w2 [eBlk P 61 #[.int .i64 K, .int .i64 H, .int .i64 S]]) := Lib.hid ((Sx.nil w2).add (eBlk P 61 #[.int .i64 K, .int .i64 H, .int .i64 S]) HX2.out)
  obtain ⟨k0, k1, k2⟩ := blkP HX2.out
  clear HX2
  go_region_held3 (fun w' => w'.cell? ⟨P, 0, none⟩ = some (.int .i64 K) ∧ w'.cell? ⟨P, 1, none⟩ = some (.int .i64 H) ∧ w'.cell? ⟨P, 2, none⟩ = some (.int .i64 S)) (go_keep) (first
    | (go_at_call_of 47 t
       refine (CT.out _).mono ?_
       rintro e wB ⟨g2, n2', rfl, hK, hn2, hb⟩
       have S2 := Lib.hid ((S1.out.step hb).add (eBlk g2 5 (rowY R)) hK)
       obtain ⟨n0, n1, n2⟩ := blkP (S2.out.blk 2 rfl)
       subst hn2
       clear hK hb)
    | (go_at_call 47
       have S3x := S3
       refine (CR.out _).mono ?_
       rintro e wD ⟨g3, n3', rfl, hK, hn3, hb⟩
       have S4 := Lib.hid (S3x.out.step hb)
       obtain ⟨n0, n1, n2⟩ := blkP (S4.out.blk 2 rfl)
       subst hn3
       clear hK hb S3x)
    | (go_at_call 47
       refine (CR.out _).mono ?_
       rintro e wA ⟨g1, n1', rfl, hK, hn1, hb⟩
       have S1 := Lib.hid ((S0.out.drew.step hb).add (eBlk g1 5 (rowY R)) hK)
       obtain ⟨n0, n1, n2⟩ := blkP (S1.out.blk 1 rfl)
       subst hn1
       clear hK hb)
    | (go_at_call 46
       refine (same_Y R (some ⟨g1, 0, none⟩) (some ⟨g2, 0, none⟩) n n n wB (by have := rd_blkY (S2.out.blk 1 rfl); rwa [HLN.out] at this) (by have := rd_blkY (S2.out.blk 0 rfl); rwa [HLN.out] at this) (by omega)).mono ?_
       rintro e wC ⟨rfl, j3, rfl⟩
       have S3 := Lib.hid (S2.out.drewN j3)
       have n0 := n0
       have n1 := n1
       have n2 := n2)
    | (go_at_call 49
       refine (wakes09 _).mono ?_
       rintro e wG ⟨rfl, hb⟩
       have S5 := Lib.hid (S4.out.step hb)
       obtain ⟨n0, n1, n2⟩ := blkP (S5.out.blk 2 rfl)
       clear hb))
  go_wp2_with fail
  go_ret
  exact ⟨rfl, HB2.out.trans (S5.out.1.mono HB2.out.size)⟩
end Go.Proofs.Ytiaoegdpofpneaa
