/- The walk of wellspringlaw06.TableTells. -/
import Derived.Test.YtiaoegdpofpneaaLaw06a
namespace Go.Proofs.Ytiaoegdpofpneaa
open Go.RowKit
set_option linter.unusedVariables false

def intsOf (l : List Nat) : List Int := l.map fun x : Nat => (x : Int)
theorem cellsI_ints (l : List Nat) : cellsI l = (intsOf l).map (Value.int .i64) := by simp [cellsI, intsOf]
theorem two_get (n p : Int) {k : Nat} (h : k < 2) : ∃ v : Int, (v = n ∨ v = p) ∧ (#[Value.int .i64 n, .int .i64 p] : Array Value)[k]? = some (.int .i64 v) := by
  match k, h with
  | 0, _ => exact ⟨n, .inl rfl, rfl⟩
  | 1, _ => exact ⟨p, .inr rfl, rfl⟩
theorem drawS_bd {xs : List Nat} {s : Int} (h : 0 ≤ s ∧ s < 18446744073709551616) : 0 ≤ drawS xs s ∧ drawS xs s < 18446744073709551616 := by
  unfold drawS bst
  split
  · exact h
  · split
    · exact h
    · exact nxt_bd s

set_option maxRecDepth 100000 in
set_option maxHeartbeats 8000000 in
theorem tableTells_walk (w : World) (l0 : Int) (hl : -9223372036854775808 ≤ l0 ∧ l0 ≤ 9223372036854775807) (x : Int) (hx : -9223372036854775808 ≤ x ∧ x ≤ 9223372036854775807) (sd : Int) (hsd : 0 ≤ sd ∧ sd ≤ 18446744073709551615) (n0 : Int) (hn0 : -9223372036854775808 ≤ n0 ∧ n0 ≤ 9223372036854775807) :
    Calls Try.prog 9 #[.int .i64 l0, .int .i64 x, .int .u64 sd, .int .i64 n0] w fun e w' => e = .returned (.bool true) ∧ Below w.heap.size w w' := by
  have m1 := Int.emod_nonneg l0 (show (64 : Int) ≠ 0 by omega)
  have m2 := Int.emod_lt_of_pos l0 (show (0 : Int) < 64 by omega)
  have hq : ∀ w : World, Calls Try.prog 25 #[.int .i64 l0, .int .i64 64] w fun e w' => e = .returned (.int .i64 (l0 % 64)) ∧ w = w' := fun w => keep_within l0 64 w hl (by omega) (by omega)
  have n1 := Int.emod_nonneg n0 (show (30 : Int) ≠ 0 by omega)
  have n2 := Int.emod_lt_of_pos n0 (show (0 : Int) < 30 by omega)
  have hqn : ∀ w : World, Calls Try.prog 25 #[.int .i64 n0, .int .i64 30] w fun e w' => e = .returned (.int .i64 (n0 % 30)) ∧ w = w' := fun w => keep_within n0 30 w hn0 (by omega) (by omega)
  generalize l0 % 64 = p at *
  generalize n0 % 30 = N at *
  have hs0 : 0 ≤ sd % 4294967296 ∧ sd % 4294967296 ≤ 4294967295 := by omega
  have HN := Lib.hid fun w => draw_new (sd % 4294967296) w hs0.1 hs0.2
  generalize hse : sd % 4294967296 = s0 at *
  have hbd : Hid (∀ v, (v = l0 ∨ v = 1 + p) → -9223372036854775808 ≤ v ∧ v ≤ 9223372036854775807) := Lib.hid (by omega)
  obtain ⟨N, rfl⟩ := Int.eq_ofNat_of_zero_le n1
  have HQ := Lib.hid hq
  have HQN := Lib.hid hqn
  clear hq hqn
  go_enter Try.func9, Try.ntmps9
  go_wp2_with fail
  refine (HQ.out _).mono ?_
  rintro e w1 ⟨rfl, rfl⟩
  go_wp2_with fail
  generalize hG0 : w.heap.size = G0 at *
  have HG0 := Lib.hid hG0
  go_loopw [10, 23] (fun _ i wr => ∃ k : Nat, k ≤ 2 ∧ i = .int .i64 k ∧ Hid (Blk wr G0 3 #[.int .i64 l0, .int .i64 (1 + p)]) ∧ Hid (Below G0 w wr)) (fun _ i _ => 2 - (intOf i).toNat)
  case atStart => subst hG0; exact ⟨0, by omega, rfl, Lib.hid (Blk.new _ _ _), Lib.hid ((Below.refl _ _).alloc (Nat.le_refl _) _)⟩
  case round =>
    clear hG0
    obtain ⟨k, hk, rfl, HK, HB⟩ := hrel
    by_cases hlt : k < 2
    · obtain ⟨v, hv, hget⟩ := two_get l0 (1 + p) hlt
      have hc := (HK.out.cell k).trans hget
      have hvb := hbd.out v hv
      have HT := Lib.hid fun w => sol_table v hvb w
      have HRT := Lib.hid fun w => ref_table v hvb w
      have hL := tabI_len v
      have HSM := Lib.hid (tab_small v)
      have HDT := Lib.hid (draw_tab v)
      have HGT := Lib.hid (deg_tabI v x)
      have hdb : degP (tabI v) x ≤ 64 := by
        unfold degP; split
        · omega
        · have := gtF_le (tabI v) x (tabI v).length 0; omega
      generalize tabI v = xs at *
      obtain ⟨L, hLe⟩ : ∃ L, xs.length = L := ⟨_, rfl⟩
      have HL := Lib.hid hLe
      rw [hLe] at hL
      clear hLe hget
      have hlt' : (k : Int) < 2 := by omega
      go_wp2_with fail
      refine (HT.out _).mono ?_
      rintro e w1 ⟨v1, rfl, ho1, hb1⟩
      obtain ⟨a1, c1, rfl, hr1⟩ := ho1.rd
      rw [HL.out] at hr1 ⊢
      have HR1 := Lib.hid hr1
      have hB1 := HB.out.trans (hb1.mono (by have := HB.out.size; have := HG0.out; omega))
      have hK1 := HK.out.below hb1 HK.out.lt
      have HB1 := Lib.hid hB1
      have HK1 := Lib.hid hK1
      clear ho1 hr1 hb1 hB1 hK1 HB HK
      go_wp2_with fail
      refine (HRT.out _).mono ?_
      rintro e w2 ⟨v2, rfl, ho2, hb2⟩
      obtain ⟨a2, c2, rfl, hr2⟩ := ho2.rd
      rw [HL.out] at hr2 ⊢
      have hR1' := (HR1.out.below hb2 (Nat.le_refl _)).more hb2.size
      have HR2 := Lib.hid hr2
      have HR1' := Lib.hid hR1'
      have hB2 := HB1.out.trans (hb2.mono (by have := HB1.out.size; have := HG0.out; omega))
      have hK2 := HK1.out.below hb2 HK1.out.lt
      have HB2 := Lib.hid hB2
      have HK2 := Lib.hid hK2
      clear ho2 hr2 hb2 hB2 hK2 HB1 HK1 HR1 hR1'
      go_wp2_with fail
      have hsame := same_i64 (intsOf xs) (intsOf xs) a1 a2 L L c1 c2 w2 (by rw [← cellsI_ints]; exact HR1'.out) (by rw [← cellsI_ints]; exact HR2.out) (by unfold maxLen; omega) (by unfold maxLen; omega)
      rw [decide_eq_true rfl] at hsame
      refine hsame.mono ?_
      rintro e w3 ⟨rfl, j, rfl⟩
      have HR1w : Hid (Rd (w2.drewN j) w2.heap.size a1 L (cellsI xs)) := Lib.hid HR1'.out
      have HR2w : Hid (Rd (w2.drewN j) w2.heap.size a2 L (cellsI xs)) := Lib.hid HR2.out
      have HB2w : Hid (Below G0 w (w2.drewN j)) := Lib.hid (below_drewN HB2.out j)
      have HK2w : Hid (Blk (w2.drewN j) G0 3 #[.int .i64 l0, .int .i64 (1 + p)]) := Lib.hid HK2.out
      have hG2 : G0 < w2.heap.size := HK2.out.lt
      have hsz : (w2.drewN j).heap.size = w2.heap.size := rfl
      clear hsame HR1' HR2 HB2 HK2
      generalize w2.drewN j = w3 at *
      generalize w2.heap.size = g at *
      go_wp2_with fail
      refine (HN.out _).mono ?_
      rintro e w4 ⟨rfl, rfl⟩
      go_wp2_with fail
      have hA0 : At ((w3.alloc (.cells #[.int .u64 s0] 74)).alloc (.cells #[.int .u64 s0] 34)) ⟨g, 0, none⟩ (.int .u64 s0) := by
        have := (At.new w3 (.int .u64 s0) 74).alloc (.cells #[.int .u64 s0] 34)
        rwa [hsz] at this
      have hA1 : At ((w3.alloc (.cells #[.int .u64 s0] 74)).alloc (.cells #[.int .u64 s0] 34)) ⟨g + 1, 0, none⟩ (.int .u64 s0) := by
        have := At.new (w3.alloc (.cells #[.int .u64 s0] 74)) (.int .u64 s0) 34
        simpa [hsz] using this
      have hb5 : Below g w3 ((w3.alloc (.cells #[.int .u64 s0] 74)).alloc (.cells #[.int .u64 s0] 34)) := by
        have := ((Below.refl w3.heap.size w3).alloc (Nat.le_refl _) (.cells #[.int .u64 s0] 74)).alloc (by simp) (.cells #[.int .u64 s0] 34)
        rwa [hsz] at this
      have hs5 : ((w3.alloc (.cells #[.int .u64 s0] 74)).alloc (.cells #[.int .u64 s0] 34)).heap.size = g + 2 := by simp [hsz]
      have HR1 := Lib.hid (HR1w.out.below hb5 (Nat.le_refl _))
      have HR2 := Lib.hid (HR2w.out.below hb5 (Nat.le_refl _))
      have HB5 := Lib.hid (HB2w.out.trans (hb5.mono (by omega)))
      have HK5 := Lib.hid (HK2w.out.below hb5 hG2)
      have HA0 := Lib.hid hA0
      have HA1 := Lib.hid hA1
      clear hA0 hA1 hb5 HR1w HR2w HB2w HK2w
      generalize ((w3.alloc (.cells #[.int .u64 s0] 74)).alloc (.cells #[.int .u64 s0] 34)) = w5 at *
      refine (sol_degree xs g a1 L c1 x w5 HR1.out HL.out (by omega) HSM.out hx).mono ?_
      rintro e w6 ⟨rfl, rfl⟩
      go_wp2_with fail
      refine (ref_degree xs g a2 L c2 x w5 HR2.out HL.out (by omega) HSM.out hx).mono ?_
      rintro e w6 ⟨rfl, rfl⟩
      rw [HGT.out] at *
      generalize degR xs x = dg at *
      have hdd : ((dg : Int) != (dg : Int)) = false := by simp
      go_wp2_with fail
      have hx2 : Rd w5 w5.heap.size a2 L ((intsOf xs).map (Value.int .i64)) := by rw [← cellsI_ints, hs5]; exact HR2.out.more (by omega)
      refine (keep_spare_i64 (intsOf xs) a2 L c2 71 w5 hx2 (by omega)).mono ?_
      rintro e w6 ⟨gi, rfl, hgi, hbi, hb6⟩
      rw [hs5] at hgi hb6
      have HAI := Lib.hid (HA0.out.below hb6 (by simp))
      have HAI1 := Lib.hid (HA1.out.below hb6 (by simp))
      have HR26 := Lib.hid (HR2.out.below hb6 (by omega))
      have HB6 := Lib.hid (HB5.out.trans (hb6.mono (by omega)))
      have HK6 := Lib.hid (HK5.out.below hb6 (by omega))
      have HBI := Lib.hid hbi
      clear HA0 HA1 HR1 HR2 HB5 HK5 hbi hx2
      have hsz6 : g + 2 ≤ w6.heap.size := by have := hb6.size; omega
      clear hb6
      go_wp2_with fail
      go_loopw [16] (fun i wr => ∃ (j : Nat) (s : Int), j ≤ N ∧ i = .int .i64 j ∧ (0 ≤ s ∧ s < 18446744073709551616) ∧ Hid (At wr ⟨g, 0, none⟩ (.int .u64 s)) ∧ Hid (At wr ⟨g + 1, 0, none⟩ (.int .u64 s)) ∧ Hid (Rd wr g a2 L (cellsI xs)) ∧
        Hid (Blk wr gi 3 (spareL .i64 (intsOf xs) 71 2).toArray) ∧ Hid (Blk wr G0 3 #[.int .i64 l0, .int .i64 (1 + p)]) ∧ Hid (Below G0 w wr)) (fun i _ => N - (intOf i).toNat)
      case atStart => exact ⟨0, s0, by omega, rfl, by omega, HAI, HAI1, HR26, HBI, HK6, HB6⟩
      case round =>
        clear HAI HAI1 HR26 HBI HK6 HB6 hsz6
        obtain ⟨i, s, hi, rfl, hs, HAI, HAI1, HR2, HBI, HK, HB⟩ := hrel
        have hrin := rd_spare HBI.out
        rw [show (intsOf xs).length = L by rw [← HL.out]; simp [intsOf], ← cellsI_ints] at hrin
        by_cases hlt2 : i < N
        · have HRI := Lib.hid hrin
          clear hrin
          have hlt2' : (i : Int) < (N : Int) := by omega
          go_wp2_with fail
          refine (HQN.out _).mono ?_
          rintro e w7 ⟨rfl, rfl⟩
          go_wp2_with fail
          refine (sol_draw xs wr.heap.size (some ⟨gi, 0, none⟩) L (L + 2) s ⟨g, 0, none⟩ wr HRI.out HL.out (by omega) HSM.out HAI.out.1 HAI.out.2 (.inr ⟨gi, 0, rfl, by simp; omega⟩)).mono ?_
          rintro e w7 ⟨rfl, rfl⟩
          rw [HDT.out]
          go_wp2_with fail
          have ha1 := HAI1.out.far (q := ⟨g, 0, none⟩) (by simp) (.int .u64 (drawS xs s))
          refine (ref_drawDegree xs g a2 L c2 s ⟨g + 1, 0, none⟩ _ (HR2.out.set (Nat.le_refl _) _) HL.out (by omega) HSM.out ha1.1 ha1.2 (.inl (by simp))).mono ?_
          rintro e w7 ⟨rfl, rfl⟩
          generalize drawR xs s = dr at *
          have hdr : ((dr : Int) != (dr : Int)) = false := by simp
          have hA0' : Hid (At ((wr.setCell ⟨g, 0, none⟩ (.int .u64 (drawS xs s))).setCell ⟨g + 1, 0, none⟩ (.int .u64 (drawS xs s))) ⟨g, 0, none⟩ (.int .u64 (drawS xs s))) := Lib.hid ((HAI.out.put _).far (by simp) _)
          have hA1' : Hid (At ((wr.setCell ⟨g, 0, none⟩ (.int .u64 (drawS xs s))).setCell ⟨g + 1, 0, none⟩ (.int .u64 (drawS xs s))) ⟨g + 1, 0, none⟩ (.int .u64 (drawS xs s))) := Lib.hid (ha1.put _)
          have hR' := Lib.hid ((HR2.out.set (p := ⟨g, 0, none⟩) (Nat.le_refl _) (.int .u64 (drawS xs s))).set (p := ⟨g + 1, 0, none⟩) (by simp) (.int .u64 (drawS xs s)))
          have hI' := Lib.hid ((HBI.out.far (p := ⟨g, 0, none⟩) (by simp; omega) (.int .u64 (drawS xs s))).far (p := ⟨g + 1, 0, none⟩) (by simp; omega) (.int .u64 (drawS xs s)))
          have hK' := Lib.hid ((HK.out.far (p := ⟨g, 0, none⟩) (by simp; omega) (.int .u64 (drawS xs s))).far (p := ⟨g + 1, 0, none⟩) (by simp; omega) (.int .u64 (drawS xs s)))
          have hB' := Lib.hid ((HB.out.setCell (p := ⟨g, 0, none⟩) (by simp; omega) (.int .u64 (drawS xs s))).setCell (p := ⟨g + 1, 0, none⟩) (by simp; omega) (.int .u64 (drawS xs s)))
          have hs' := drawS_bd (xs := xs) hs
          clear ha1 HAI HAI1 HR2 HBI HK HB HRI
          generalize ((wr.setCell ⟨g, 0, none⟩ (.int .u64 (drawS xs s))).setCell ⟨g + 1, 0, none⟩ (.int .u64 (drawS xs s))) = w8 at *
          generalize drawS xs s = s' at *
          go_wp2_with fail
          go_roundw
          case rel => exact ⟨i + 1, s', by omega, by go_num, hs', hA0', hA1', hR', hI', hK', hB'⟩
          case measure => simp [intOf]; omega
        · obtain rfl : i = N := by omega
          clear hrin
          have hlt2' : ¬ (i : Int) < (i : Int) := by omega
          go_wp2_with fail
          refine (HQN.out _).mono ?_
          rintro e w7 ⟨rfl, rfl⟩
          go_wp2_with fail
          refine (draw_next s _ wr HAI.out.1 HAI.out.2).mono ?_
          rintro e w7 ⟨rfl, rfl⟩
          go_wp2_with fail
          have ha1 := HAI1.out.far (q := ⟨g, 0, none⟩) (by simp) (.int .u64 (nxt s))
          refine (rdraw_next s _ _ ha1.1 ha1.2).mono ?_
          rintro e w7 ⟨rfl, rfl⟩
          generalize outOf s = oo at *
          have hoo : (oo != oo) = false := by simp
          have hR' := (HR2.out.set (p := ⟨g, 0, none⟩) (Nat.le_refl _) (.int .u64 (nxt s))).set (p := ⟨g + 1, 0, none⟩) (by simp) (.int .u64 (nxt s))
          have hI' := (HBI.out.far (p := ⟨g, 0, none⟩) (by simp; omega) (.int .u64 (nxt s))).far (p := ⟨g + 1, 0, none⟩) (by simp; omega) (.int .u64 (nxt s))
          have hK' := Lib.hid ((HK.out.far (p := ⟨g, 0, none⟩) (by simp; omega) (.int .u64 (nxt s))).far (p := ⟨g + 1, 0, none⟩) (by simp; omega) (.int .u64 (nxt s)))
          have hB' := Lib.hid ((HB.out.setCell (p := ⟨g, 0, none⟩) (by simp; omega) (.int .u64 (nxt s))).setCell (p := ⟨g + 1, 0, none⟩) (by simp; omega) (.int .u64 (nxt s)))
          clear ha1 HAI HAI1 HR2 HBI HK HB
          generalize ((wr.setCell ⟨g, 0, none⟩ (.int .u64 (nxt s))).setCell ⟨g + 1, 0, none⟩ (.int .u64 (nxt s))) = w8 at *
          have hgw : g ≤ w8.heap.size := by have := hI'.lt; omega
          have hkept := keep_kept_i64 (intsOf xs) gi a2 L c2 71 w8 hI' (by rw [← HL.out]; simp [intsOf]) (by rw [← cellsI_ints]; exact hR'.more hgw) (by omega)
          have HKT := Lib.hid hkept
          clear hkept hR' hI'
          go_wp2_with fail
          refine HKT.out.mono ?_
          rintro e w9 ⟨rfl, j9, rfl⟩
          go_wp2_with fail
          go_roundw
          case rel => exact ⟨k + 1, by omega, by go_num, Lib.hid hK'.out, Lib.hid (below_drewN hB'.out j9)⟩
          case measure => simp [intOf]; omega
    · obtain rfl : k = 2 := by omega
      go_wp2_with fail
      refine (wakes06 _).mono ?_
      rintro e w2 ⟨rfl, hb2⟩
      go_wp2_with fail
      go_ret
      exact ⟨rfl, by rw [HG0.out]; exact HB.out.trans (hb2.mono (by have := HB.out.size; have := HG0.out; omega))⟩
end Go.Proofs.Ytiaoegdpofpneaa
