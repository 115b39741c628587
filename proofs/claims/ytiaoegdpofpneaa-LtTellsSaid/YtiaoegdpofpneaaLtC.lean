/- law09: a symbol's length plays no part (LtSize). -/
import Derived.Test.YtiaoegdpofpneaaLtB
import Derived.Deep.RegionHeld3
namespace Go.Proofs.Ytiaoegdpofpneaa
open Go.RowKit
set_option linter.unusedVariables false

theorem same_Y (Z : List Nat) (a b : Option Addr) (n c d : Nat) (w : World) (hx : Rd w w.heap.size a n (cellsY Z)) (hy : Rd w w.heap.size b n (cellsY Z)) (hn : n ≤ 1000000) :
    Calls Try.prog 46 #[.slice a n c, .slice b n d] w fun e w' => e = .returned (.bool true) ∧ ∃ j, w' = w.drewN j := by
  have e : cellsY Z = (Z.map fun x : Nat => (x : Int)).map (Value.int .u8) := by simp [cellsY]
  rw [e] at hx hy
  have h := same_u8 _ _ a b n n c d w hx hy (by unfold maxLen; omega) (by unfold maxLen; omega)
  rw [decide_eq_true rfl] at h
  exact h

theorem mixI_eq (o : Nat) (ho : (o : Int) < 65536) : (o : Int) * 2654435761 % 4294967296 = mixI o := by
  unfold mixI
  rw [show (o : Int) % 4294967296 = o by omega, IntKind.wrap_u32]

set_option maxRecDepth 100000 in
set_option maxHeartbeats 8000000 in
theorem ltSize_walk (w : World) (a : Int) (ha : -9223372036854775808 ≤ a ∧ a ≤ 9223372036854775807) (b : Int) (hb : -9223372036854775808 ≤ b ∧ b ≤ 9223372036854775807) (c : Int) (hc : -9223372036854775808 ≤ c ∧ c ≤ 9223372036854775807) (dd : Int) (hd : -9223372036854775808 ≤ dd ∧ dd ≤ 9223372036854775807)
    (sd : Int) (hsd : 0 ≤ sd ∧ sd ≤ 18446744073709551615) (id0 : Int) (hid : -9223372036854775808 ≤ id0 ∧ id0 ≤ 9223372036854775807) :
    Calls Try.prog 17 #[.int .i64 a, .int .i64 b, .int .i64 c, .int .i64 dd, .int .u64 sd, .int .i64 id0] w fun e w' => e = .returned (.bool true) ∧ Below w.heap.size w w' := by
  have CP := Lib.hid fun w => play_params a b c w ha hb hc
  have CQ := Lib.hid fun w => play_params a b dd w ha hb hd
  have hok : okP (1 + a % 16) (1 + b % 4) (1 + c % 24) = true := okP_yes (by omega)
  have hok2 : okP (1 + a % 16) (1 + b % 4) (1 + dd % 24) = true := okP_yes (by omega)
  unfold parV at CP CQ
  generalize (1 : Int) + a % 16 = K at *
  generalize (1 : Int) + b % 4 = H at *
  generalize (1 : Int) + c % 24 = S at *
  generalize (1 : Int) + dd % 24 = T at *
  have CW := Lib.hid fun w => keep_within id0 65536 w hid (by omega) (by omega)
  have q1 := Int.emod_nonneg id0 (show (65536 : Int) ≠ 0 by omega)
  have q2 := Int.emod_lt_of_pos id0 (show (0 : Int) < 65536 by omega)
  generalize id0 % 65536 = d0 at *
  obtain ⟨d, rfl⟩ := Int.eq_ofNat_of_zero_le q1
  have hs0 : 0 ≤ sd % 4294967296 := by omega
  have hs1 : sd % 4294967296 < 4294967296 := by omega
  generalize hse : sd % 4294967296 = s at *
  have hsw : IntKind.u32.wrap sd = s := by rw [IntKind.wrap_u32]; exact hse
  have CL := Lib.hid fun w => lt_cols_yes K H S s d w hok (by omega) (by omega) hs0 hs1
  have CL2 := Lib.hid fun w => lt_cols_yes K H T s d w hok2 (by omega) (by omega) hs0 hs1
  have CA := Lib.hid fun w => ref_at_yes K H S s d w hok (by omega) (by omega) hs0 hs1
  have l4 := ltL_len (K + H) (nxt (ltS s d))
  unfold parV at CL CL2 CA
  generalize ltL (K + H) (nxt (ltS s d)) = L at *
  obtain ⟨q, hq⟩ : ∃ q, L.length = q := ⟨_, rfl⟩
  have HQ := Lib.hid hq
  rw [hq] at l4
  clear hq hok hok2 q1 q2 hs0 hs1 ha hb hc hd hid hsd
  generalize hGG : w.heap.size = G at *
  have HGG := Lib.hid hGG
  clear hGG
  go_enter Try.func17, Try.ntmps17
  go_wp2_with fail
  refine (CP.out _).mono ?_
  rintro e w1 ⟨rfl, hb⟩
  have HB1 : Hid (Below G w w1) := Lib.hid (by rw [← HGG.out]; exact hb)
  clear hb CP
  go_wp2_with fail
  refine (CQ.out _).mono ?_
  rintro e w2 ⟨rfl, hb⟩
  have hG1 : G ≤ w1.heap.size := by have := HB1.out.size; have := HGG.out; omega
  have HB2 := Lib.hid (HB1.out.trans (hb.mono hG1))
  have hG2 : G ≤ w2.heap.size := Nat.le_trans hG1 hb.size
  clear hb CQ HB1 hG1
  have hw3 : ((w2.alloc (.cells #[.int .i64 K, .int .i64 H, .int .i64 S] 61)).alloc (.cells #[.int .i64 K, .int .i64 H, .int .i64 T] 61)).heap.size = w2.heap.size + 2 := by simp
  have HP3 := Lib.hid ((Blk.new w2 61 #[.int .i64 K, .int .i64 H, .int .i64 S]).alloc (.cells #[.int .i64 K, .int .i64 H, .int .i64 T] 61))
  have HQ3 : Hid (Blk ((w2.alloc (.cells #[.int .i64 K, .int .i64 H, .int .i64 S] 61)).alloc (.cells #[.int .i64 K, .int .i64 H, .int .i64 T] 61)) (w2.heap.size + 1) 61 #[.int .i64 K, .int .i64 H, .int .i64 T]) := Lib.hid (by
    have := Blk.new (w2.alloc (.cells #[.int .i64 K, .int .i64 H, .int .i64 S] 61)) 61 #[.int .i64 K, .int .i64 H, .int .i64 T]
    rwa [show (w2.alloc (.cells #[.int .i64 K, .int .i64 H, .int .i64 S] 61)).heap.size = w2.heap.size + 1 by simp] at this)
  have HB3 := Lib.hid ((HB2.out.alloc hG2 (.cells #[.int .i64 K, .int .i64 H, .int .i64 S] 61)).alloc (Nat.le_trans hG2 (by simp)) (.cells #[.int .i64 K, .int .i64 H, .int .i64 T] 61))
  go_wp2_with fail
  refine (CW.out _).mono ?_
  rintro e w3 ⟨rfl, rfl⟩
  clear CW HB2
  have hP3 : ((w2.alloc (.cells #[.int .i64 K, .int .i64 H, .int .i64 S] 61)).alloc (.cells #[.int .i64 K, .int .i64 H, .int .i64 T] 61)).cell? ⟨w2.heap.size, 0, none⟩ = some (.int .i64 K) := HP3.out.cell 0
  have hP4 : ((w2.alloc (.cells #[.int .i64 K, .int .i64 H, .int .i64 S] 61)).alloc (.cells #[.int .i64 K, .int .i64 H, .int .i64 T] 61)).cell? ⟨w2.heap.size, 1, none⟩ = some (.int .i64 H) := HP3.out.cell 1
  have hP5 : ((w2.alloc (.cells #[.int .i64 K, .int .i64 H, .int .i64 S] 61)).alloc (.cells #[.int .i64 K, .int .i64 H, .int .i64 T] 61)).cell? ⟨w2.heap.size, 2, none⟩ = some (.int .i64 S) := HP3.out.cell 2
  generalize (w2.alloc (.cells #[.int .i64 K, .int .i64 H, .int .i64 S] 61)).alloc (.cells #[.int .i64 K, .int .i64 H, .int .i64 T] 61) = w3 at *
  generalize w2.heap.size = P at *
  go_wp2_with fail
  refine (CL.out _).mono ?_
  rintro e w4 ⟨v, rfl, hO, hb⟩
  obtain ⟨aL, cL, rfl⟩ := hO.lenA
  rw [HQ.out] at hO ⊢
  have HO3 := Lib.hid hO
  have hG3 : G ≤ w3.heap.size := by omega
  have HB4 := Lib.hid (HB3.out.trans (hb.mono hG3))
  have HP4 := Lib.hid (HP3.out.below hb HP3.out.lt)
  have HQ4 := Lib.hid (HQ3.out.below hb HQ3.out.lt)
  generalize w3.heap.size = C at *
  clear hO hb HB3 HP3 HQ3 hP3 hP4 hP5
  go_wp2_with fail
  go_loopw [34] (fun i wr => ∃ (k : Nat) (L' : List Nat), k ≤ q ∧ i = .int .i64 k ∧ L'.length = q ∧ Hid (OwnI wr C (.slice aL q cL) L') ∧ Hid (Blk wr P 61 #[.int .i64 K, .int .i64 H, .int .i64 S]) ∧ Hid (Blk wr (P + 1) 61 #[.int .i64 K, .int .i64 H, .int .i64 T]) ∧ Hid (Below G w wr)) (fun i _ => q - (intOf i).toNat)
  case atStart => exact ⟨0, L, by omega, rfl, HQ.out, HO3, HP4, HQ4, HB4⟩
  case round =>
    clear HO3 HB4 HP4 HQ4
    obtain ⟨k, L', hk, rfl, hL', HO, HPB, HQB, HB⟩ := hrel
    have HL' := Lib.hid hL'
    clear hL'
    have hGr : G ≤ wr.heap.size := by have := HB.out.size; have := HGG.out; omega
    by_cases hkq : k < q
    · have hkqI : (k : Int) < (q : Int) := by omega
      obtain ⟨g, rfl, hg1, hg2⟩ := HO.out.formA HL'.out (by omega)
      obtain ⟨hcx, hfx⟩ := HO.out.cellA HL'.out hkq
      have HO2 : Hid (OwnI (wr.setCell ⟨g, k, none⟩ (.int .i64 0)) C (.slice (some ⟨g, 0, none⟩) q cL) (L'.set k 0)) := Lib.hid (HO.out.storedA HL'.out k 0)
      have HB2 : Hid (Below G w (wr.setCell ⟨g, k, none⟩ (.int .i64 0))) := Lib.hid (HB.out.setCell (p := ⟨g, k, none⟩) (by show G ≤ g; omega) _)
      have HLS : Hid ((L'.set k 0).length = q) := Lib.hid (by rw [List.length_set]; exact HL'.out)
      have HPB2 : Hid (Blk (wr.setCell ⟨g, k, none⟩ (.int .i64 0)) P 61 #[.int .i64 K, .int .i64 H, .int .i64 S]) := Lib.hid (HPB.out.far (p := ⟨g, k, none⟩) (by show P ≠ g; omega) _)
      have HQB2 : Hid (Blk (wr.setCell ⟨g, k, none⟩ (.int .i64 0)) (P + 1) 61 #[.int .i64 K, .int .i64 H, .int .i64 T]) := Lib.hid (HQB.out.far (p := ⟨g, k, none⟩) (by show P + 1 ≠ g; omega) _)
      clear HO HB HPB HQB
      generalize L'.getD k 0 = y at *
      go_wp2_with fail
      go_roundw
      case rel => first | exact ⟨k + 1, _, by omega, by go_num, HLS.out, HO2, HPB2, HQB2, HB2⟩ | ((repeat apply Exists.intro); exact ⟨⟨k + 1, _, by omega, by go_num, HLS.out, HO2, HPB2, HQB2, HB2⟩, rfl⟩)
      case measure => simp [intOf]; omega
    · obtain rfl : k = q := by omega
      have S0 : Hid (Sx wr wr [eBlk P 61 #[.int .i64 K, .int .i64 H, .int .i64 S], eBlk (P + 1) 61 #[.int .i64 K, .int .i64 H, .int .i64 T]]) := Lib.hid (((Sx.nil wr).add (eBlk (P + 1) 61 #[.int .i64 K, .int .i64 H, .int .i64 T]) HQB.out).add (eBlk P 61 #[.int .i64 K, .int .i64 H, .int .i64 S]) HPB.out)
      obtain ⟨k0, k1, k2⟩ := blkP HPB.out
      obtain ⟨k3, k4, k5⟩ := blkP HQB.out
      clear HO HPB HQB
      go_wp2_with fail
      go_region_held3 (fun w' => w'.cell? ⟨P, 0, none⟩ = some (.int .i64 K) ∧ w'.cell? ⟨P, 1, none⟩ = some (.int .i64 H) ∧ w'.cell? ⟨P, 2, none⟩ = some (.int .i64 S) ∧ w'.cell? ⟨P + 1, 0, none⟩ = some (.int .i64 K) ∧ w'.cell? ⟨P + 1, 1, none⟩ = some (.int .i64 H) ∧ w'.cell? ⟨P + 1, 2, none⟩ = some (.int .i64 T)) (go_keep) (first
        | (go_at_call_of 44 T
           (try rw [hsw])
           refine (CL2.out _).mono ?_
           rintro e wB ⟨v, rfl, hO, hb⟩
           obtain ⟨a2, c2, rfl, hr, -⟩ := hO.rd2 HQ.out
           have S2 := Lib.hid ((S1.out.step hb).add (eRd a2 k (cellsI L)) hr)
           obtain ⟨n0, n1, n2⟩ := blkP (S2.out.blk 2 rfl)
           obtain ⟨n3, n4, n5⟩ := blkP (S2.out.blk 3 rfl)
           clear hO hb hr)
        | (go_at_call 44
           have S3x := S3
           (try rw [hsw])
           refine (CL.out _).mono ?_
           rintro e wD ⟨v, rfl, hO, hb⟩
           obtain ⟨a3, c3, rfl, hr, -⟩ := hO.rd2 HQ.out
           have S4 := Lib.hid ((S3x.out.step hb).add (eRd a3 k (cellsI L)) hr)
           obtain ⟨n0, n1, n2⟩ := blkP (S4.out.blk 3 rfl)
           obtain ⟨n3, n4, n5⟩ := blkP (S4.out.blk 4 rfl)
           clear hO hb hr S3x)
        | (go_at_call 44
           (try rw [hsw])
           refine (CL.out _).mono ?_
           rintro e wA ⟨v, rfl, hO, hb⟩
           obtain ⟨a1, c1, rfl, hr, -⟩ := hO.rd2 HQ.out
           have S1 := Lib.hid ((S0.out.drew.step hb).add (eRd a1 k (cellsI L)) hr)
           obtain ⟨n0, n1, n2⟩ := blkP (S1.out.blk 1 rfl)
           obtain ⟨n3, n4, n5⟩ := blkP (S1.out.blk 2 rfl)
           clear hO hb hr)
        | (go_at_call 32
           have S5x := S5
           refine (same_I L a3 a4 k c3 c4 wE (S5.out.rd 1 rfl) (S5.out.rd 0 rfl) (by omega)).mono ?_
           rintro e wF ⟨rfl, j6, rfl⟩
           have S6 := Lib.hid (S5x.out.drewN j6)
           have n0 := n0
           have n1 := n1
           have n2 := n2
           have n3 := n3
           have n4 := n4
           have n5 := n5
           clear S5x)
        | (go_at_call 32
           refine (same_I L a1 a2 k c1 c2 wB (S2.out.rd 1 rfl) (S2.out.rd 0 rfl) (by omega)).mono ?_
           rintro e wC ⟨rfl, j3, rfl⟩
           have S3 := Lib.hid (S2.out.drewN j3)
           have n0 := n0
           have n1 := n1
           have n2 := n2
           have n3 := n3
           have n4 := n4
           have n5 := n5)
        | (go_at_call 45
           (try rw [hsw])
           refine (CA.out _).mono ?_
           rintro e wE ⟨v, rfl, hO, hb⟩
           obtain ⟨a4, c4, rfl, hr, -⟩ := hO.rd2 HQ.out
           have S5 := Lib.hid ((S4.out.step hb).add (eRd a4 k (cellsI L)) hr)
           obtain ⟨n0, n1, n2⟩ := blkP (S5.out.blk 4 rfl)
           obtain ⟨n3, n4, n5⟩ := blkP (S5.out.blk 5 rfl)
           clear hO hb hr)
        | (go_at_call 49
           refine (wakes09 _).mono ?_
           rintro e wG ⟨rfl, hb⟩
           have S7 := Lib.hid (S6.out.step hb)
           obtain ⟨n0, n1, n2⟩ := blkP (S7.out.blk 4 rfl)
           obtain ⟨n3, n4, n5⟩ := blkP (S7.out.blk 5 rfl)
           clear hb))
      go_wp2_with fail
      go_ret
      exact ⟨rfl, HB.out.trans (S7.out.1.mono hGr)⟩

end Go.Proofs.Ytiaoegdpofpneaa
