/- law07: the walk of SomeDraws. -/
import Derived.Test.YtiaoegdpofpneaaChoD
namespace Go.Proofs.Ytiaoegdpofpneaa
open Go.RowKit
set_option linter.unusedVariables false

theorem swapL_self {l : List Nat} {i : Nat} (h : i < l.length) : swapL l i i = l := by
  unfold swapL
  rw [getD_at h, List.set_getElem_self, List.set_getElem_self]
theorem shufL_nil (n : Nat) (s : Int) {k : Nat} (h : k ≤ n) : shufL true n s k = List.range n := by
  induction k with
  | zero => rfl
  | succ k ih =>
    rw [shufL, ih (by omega)]
    show swapL _ k (k + 0) = _
    rw [Nat.add_zero]
    exact swapL_self (by rw [List.length_range]; omega)
theorem chosen_nil {n : Nat} {s : Int} {k : Nat} (h : k ≤ n) : chosen true n s k = List.range k := by
  unfold chosen
  rw [shufL_nil n s h, List.take_range, Nat.min_eq_left h]
  exact (srt_sort (List.Perm.refl _) (List.pairwise_lt_range.imp Nat.le_of_lt)).symm
def nxtK (s : Int) : Nat → Int | 0 => s | k + 1 => nxt (nxtK s k)
theorem shufS_nxt {n : Nat} {s : Int} {k : Nat} (h : k ≤ n) : shufS false n s k = nxtK s k := by
  induction k with
  | zero => rfl
  | succ k ih =>
    rw [shufS, ih (by omega)]
    show bst _ _ = _
    rw [bst_pos (by omega)]
    rfl
theorem own_far {w : World} {base e n : Nat} {v : Value} {xs : List Value} (h : w.ownsRow base e 1 v n xs) {p : Addr} (hp : p.block < base) (u : Value) : (w.setCell p u).ownsRow base e 1 v n xs := by
  refine ⟨h.1, ?_⟩
  rcases h.2 with h2 | ⟨g, cap, cur, h1, h2, h3, r⟩
  · exact .inl h2
  · exact .inr ⟨g, cap, cur, h1, h2, (heap_setCell_other w p g u (by omega)).trans h3, r⟩
theorem some_nil (w : World) : Calls Try.prog 38 #[.pointer none, .int .i64 5, .int .i64 3] w fun e w' => ∃ v, e = .returned v ∧ OwnI w' w.heap.size v [0, 1, 2] ∧ Below w.heap.size w w' := by
  refine (cho_some none 0 5 3 w (by omega) (by omega) (.inl rfl)).mono fun e w' ⟨v, h1, h2, h3⟩ => ?_
  rw [show (none : Option Addr).isNone = true from rfl, chosen_nil (by omega)] at h2
  exact ⟨v, h1, h2, h3⟩
/-- Three numbers held against the literal. -/
theorem same_three (w : World) (C : Nat) (v : Value) (h : OwnI w C v [0, 1, 2]) : ∃ a c, v = .slice a 3 c ∧ Calls Try.prog 32 #[.slice a 3 c, .slice (some ⟨w.heap.size, 0, none⟩) 3 3] (w.alloc (.cells #[.int .i64 0, .int .i64 1, .int .i64 2] 3)) fun e w' => e = .returned (.bool true) ∧ ∃ j, w' = (w.alloc (.cells #[.int .i64 0, .int .i64 1, .int .i64 2] 3)).drewN j := by
  obtain ⟨a, c, rfl, hr⟩ := h.rd
  refine ⟨a, c, rfl, ?_⟩
  have hr2 := hr.below ((Below.refl w.heap.size w).alloc (Nat.le_refl _) (.cells #[.int .i64 0, .int .i64 1, .int .i64 2] 3)) (Nat.le_refl _)
  have hr3 : Rd (w.alloc (.cells #[.int .i64 0, .int .i64 1, .int .i64 2] 3)) (w.alloc (.cells #[.int .i64 0, .int .i64 1, .int .i64 2] 3)).heap.size a 3 ([0, 1, 2].map (Value.int .i64)) := hr2.more (by simp)
  have hl3 : Rd (w.alloc (.cells #[.int .i64 0, .int .i64 1, .int .i64 2] 3)) (w.alloc (.cells #[.int .i64 0, .int .i64 1, .int .i64 2] 3)).heap.size (some ⟨w.heap.size, 0, none⟩) 3 ([0, 1, 2].map (Value.int .i64)) := by
    refine ⟨rfl, fun _ => ⟨w.heap.size, 0, rfl, by simp, fun i u hu => ?_⟩⟩
    rw [Nat.zero_add, (Blk.new w 3 #[.int .i64 0, .int .i64 1, .int .i64 2]).cell i]
    simpa using hu
  have CE := same_i64 [0, 1, 2] [0, 1, 2] a (some ⟨w.heap.size, 0, none⟩) 3 3 c 3 _ hr3 hl3 (by unfold maxLen; omega) (by unfold maxLen; omega)
  rw [decide_eq_true rfl] at CE
  exact CE

set_option maxRecDepth 100000 in
set_option maxHeartbeats 4000000 in
theorem someDraws_walk (w : World) (sd : Int) (hsd : 0 ≤ sd ∧ sd ≤ 18446744073709551615) (n0 : Int) (hn0 : -9223372036854775808 ≤ n0 ∧ n0 ≤ 9223372036854775807) (k0 : Int) (hk0 : -9223372036854775808 ≤ k0 ∧ k0 ≤ 9223372036854775807) :
    Calls Try.prog 14 #[.int .u64 sd, .int .i64 n0, .int .i64 k0] w fun e w' => e = .returned (.bool true) ∧ Below w.heap.size w w' := by
  have hs0 : 0 ≤ sd % 4294967296 ∧ sd % 4294967296 ≤ 4294967295 := by omega
  have HDN := Lib.hid fun w => draw_new (sd % 4294967296) w hs0.1 hs0.2
  generalize hse : sd % 4294967296 = s0 at *
  by_cases hmay : 0 ≤ n0 ∧ n0 ≤ 64 ∧ 0 ≤ k0 ∧ k0 ≤ n0
  · obtain ⟨q1, q2, q3, q4⟩ := hmay
    obtain ⟨n, rfl⟩ := Int.eq_ofNat_of_zero_le q1
    obtain ⟨k, rfl⟩ := Int.eq_ofNat_of_zero_le q3
    have hn64 : n ≤ 64 := by omega
    have hkn : k ≤ n := by omega
    have HSK := Lib.hid (shufS_nxt (s := s0) hkn)
    have HL1 := Lib.hid (chosen_len (nl := false) (s := s0) hkn)
    clear hn0 hk0 hsd hs0
    go_enter Try.func14, Try.ntmps14
    go_wp2_with fail
    refine (HDN.out _).mono ?_
    rintro e w1 ⟨rfl, rfl⟩
    go_wp2_with fail
    refine (HDN.out _).mono ?_
    rintro e w1 ⟨rfl, rfl⟩
    have hA0 : At ((w.alloc (.cells #[.int .u64 s0] 74)).alloc (.cells #[.int .u64 s0] 74)) ⟨w.heap.size, 0, none⟩ (.int .u64 s0) := (At.new w _ _).alloc _
    have hA1 : At ((w.alloc (.cells #[.int .u64 s0] 74)).alloc (.cells #[.int .u64 s0] 74)) ⟨w.heap.size + 1, 0, none⟩ (.int .u64 s0) := by
      have := At.new (w.alloc (.cells #[.int .u64 s0] 74)) (.int .u64 s0) 74
      simpa using this
    have HB0 := Lib.hid (((Below.refl w.heap.size w).alloc (Nat.le_refl _) (.cells #[.int .u64 s0] 74)).alloc (by simp) (.cells #[.int .u64 s0] 74))
    go_wp2_with fail
    generalize (w.alloc (.cells #[.int .u64 s0] 74)).alloc (.cells #[.int .u64 s0] 74) = w2 at *
    generalize hG : w.heap.size = G at *
    have HG := Lib.hid hG
    refine (cho_some (some ⟨G, 0, none⟩) s0 n k w2 hn64 hkn (.inr ⟨G, 0, rfl, hA0⟩)).mono ?_
    rintro e w3 ⟨v, rfl, ho, hb⟩
    rw [show (some ⟨G, 0, none⟩ : Option Addr).isNone = false from rfl] at ho hb
    rw [HSK.out] at hb
    have hD : At w3 ⟨G, 0, none⟩ (.int .u64 (nxtK s0 k)) := At.below (hA0.put (.int .u64 (nxtK s0 k))) hb hA0.lt
    have hC : At w3 ⟨G + 1, 0, none⟩ (.int .u64 s0) := At.below (hA1.far (q := ⟨G, 0, none⟩) (by simp) (.int .u64 (nxtK s0 k))) hb hA1.lt
    have hB3 : Below G w w3 := (HB0.out.setCell (p := ⟨G, 0, none⟩) (Nat.le_refl _) (.int .u64 (nxtK s0 k))).trans (hb.mono (by have := HB0.out.size; rw [HG.out] at this; exact this))
    obtain ⟨a, c, rfl, _⟩ := ho.rd
    rw [HL1.out]
    have HD := Lib.hid hD
    have HC := Lib.hid hC
    have HB := Lib.hid hB3
    clear hD hC hB3 ho hb hA0 hA1 HB0 hG
    go_wp2_with fail
    go_loopw [11] (fun i wr => ∃ m : Nat, m ≤ k ∧ i = .int .i64 m ∧ Hid (At wr ⟨G, 0, none⟩ (.int .u64 (nxtK s0 k))) ∧ Hid (At wr ⟨G + 1, 0, none⟩ (.int .u64 (nxtK s0 m))) ∧ Hid (Below G w wr)) (fun i _ => k - (intOf i).toNat)
    case atStart => exact ⟨0, by omega, rfl, HD, HC, HB⟩
    case round =>
      clear HD HC HB
      obtain ⟨m, hm, rfl, HD, HC, HB⟩ := hrel
      by_cases hlt : m < k
      · have hlt' : (m : Int) < (k : Int) := by omega
        have CN := Lib.hid (draw_next (nxtK s0 m) ⟨G + 1, 0, none⟩ wr HC.out.1 HC.out.2)
        have HD2 := Lib.hid (HD.out.far (q := ⟨G + 1, 0, none⟩) (by simp) (.int .u64 (nxt (nxtK s0 m))))
        have HC2 : Hid (At (wr.setCell ⟨G + 1, 0, none⟩ (.int .u64 (nxt (nxtK s0 m)))) ⟨G + 1, 0, none⟩ (.int .u64 (nxtK s0 (m + 1)))) := Lib.hid (HC.out.put _)
        have HB2 := Lib.hid (HB.out.setCell (p := ⟨G + 1, 0, none⟩) (by simp) (.int .u64 (nxt (nxtK s0 m))))
        clear HD HC HB
        generalize nxtK s0 m = sm at *
        go_wp2_with fail
        refine CN.out.mono ?_
        rintro e w4 ⟨rfl, rfl⟩
        go_wp2_with fail
        go_roundw
        case rel => exact ⟨m + 1, by omega, by go_num, HD2, HC2, HB2⟩
        case measure => simp [intOf]; omega
      · obtain rfl : m = k := by omega
        have HGW : Hid (G + 2 ≤ wr.heap.size) := Lib.hid (by have := HC.out.lt; simp at this; omega)
        go_wp2_with fail
        refine (some_nil wr).mono ?_
        rintro e w5 ⟨v5, rfl, ho5, hb5⟩
        have hD5 := At.below HD.out hb5 HD.out.lt
        have hC5 := At.below HC.out hb5 HC.out.lt
        have hB5 := HB.out.trans (hb5.mono (by have := HGW.out; omega))
        have CN1 := Lib.hid (draw_next (nxtK s0 m) ⟨G, 0, none⟩ w5 hD5.1 hD5.2)
        have hC6 := hC5.far (q := ⟨G, 0, none⟩) (by simp) (.int .u64 (nxt (nxtK s0 m)))
        have CN2 := Lib.hid (draw_next (nxtK s0 m) ⟨G + 1, 0, none⟩ _ hC6.1 hC6.2)
        have hB7 := (hB5.setCell (p := ⟨G, 0, none⟩) (Nat.le_refl _) (.int .u64 (nxt (nxtK s0 m)))).setCell (p := ⟨G + 1, 0, none⟩) (by simp) (.int .u64 (nxt (nxtK s0 m)))
        have hO7 := own_far (own_far ho5 (p := ⟨G, 0, none⟩) (by have := HGW.out; simp; omega) (.int .u64 (nxt (nxtK s0 m)))) (p := ⟨G + 1, 0, none⟩) (by have := HGW.out; simp; omega) (.int .u64 (nxt (nxtK s0 m)))
        obtain ⟨a5, c5, rfl, hs5⟩ := same_three _ _ _ hO7
        have HS5 := Lib.hid hs5
        have HB7 := Lib.hid (hB7.alloc (by have := hB7.size; rw [HG.out] at this; exact this) (.cells #[.int .i64 0, .int .i64 1, .int .i64 2] 3))
        clear hD5 hC5 hB5 hC6 hB7 hO7 hs5 ho5 hb5 HD HC HB
        generalize nxtK s0 m = st at *
        go_wp2_with fail
        refine CN1.out.mono ?_
        rintro e w6 ⟨rfl, rfl⟩
        go_wp2_with fail
        refine CN2.out.mono ?_
        rintro e w7 ⟨rfl, rfl⟩
        generalize outOf st = oo at *
        generalize ((w5.setCell ⟨G, 0, none⟩ (.int .u64 (nxt st))).setCell ⟨G + 1, 0, none⟩ (.int .u64 (nxt st))) = w7 at *
        go_wp2_with fail
        refine HS5.out.mono ?_
        rintro e w8 ⟨rfl, j, rfl⟩
        have HB8 := Lib.hid (below_drewN HB7.out j)
        go_wp2_with fail
        refine (wakes07 _).mono ?_
        rintro e w9 ⟨rfl, hb9⟩
        have HB9 := Lib.hid (HB8.out.trans (hb9.mono (by have := HB8.out.size; rw [HG.out] at this; exact this)))
        clear hb9
        go_wp2_with fail
        go_ret
        exact ⟨rfl, by rw [HG.out]; exact HB9.out⟩
  · have CU := Lib.hid fun p w => cho_some_un p n0 k0 w hmay
    clear hsd hs0
    go_enter Try.func14, Try.ntmps14
    go_wp2_with fail
    refine (HDN.out _).mono ?_
    rintro e w1 ⟨rfl, rfl⟩
    go_wp2_with fail
    refine (HDN.out _).mono ?_
    rintro e w1 ⟨rfl, rfl⟩
    go_wp2_with fail
    refine (CU.out _ _).mono ?_
    rintro e w1 ⟨rfl, rfl⟩
    go_wp2_with fail
    all_goals
      have hA0 : At ((w.alloc (.cells #[.int .u64 s0] 74)).alloc (.cells #[.int .u64 s0] 74)) ⟨w.heap.size, 0, none⟩ (.int .u64 s0) := (At.new w _ _).alloc _
      have hA1 : At ((w.alloc (.cells #[.int .u64 s0] 74)).alloc (.cells #[.int .u64 s0] 74)) ⟨w.heap.size + 1, 0, none⟩ (.int .u64 s0) := by
        have := At.new (w.alloc (.cells #[.int .u64 s0] 74)) (.int .u64 s0) 74
        simpa using this
      have hB0 := ((Below.refl w.heap.size w).alloc (Nat.le_refl _) (.cells #[.int .u64 s0] 74)).alloc (by simp) (.cells #[.int .u64 s0] 74)
      generalize (w.alloc (.cells #[.int .u64 s0] 74)).alloc (.cells #[.int .u64 s0] 74) = w2 at *
      generalize hG : w.heap.size = G at *
      have HG := Lib.hid hG
      have HD := Lib.hid hA0
      have HC := Lib.hid hA1
      have HB := Lib.hid hB0
      clear hA0 hA1 hB0 hG CU
      go_loopw [11] (fun i wr => i = .int .i64 0 ∧ Hid (At wr ⟨G, 0, none⟩ (.int .u64 s0)) ∧ Hid (At wr ⟨G + 1, 0, none⟩ (.int .u64 s0)) ∧ Hid (Below G w wr)) (fun _ _ => 0)
      case atStart => exact ⟨rfl, HD, HC, HB⟩
      case round =>
        clear HD HC HB
        obtain ⟨rfl, HD, HC, HB⟩ := hrel
        by_cases hk00 : 0 < k0
        all_goals first | (exfalso; omega) | skip
        all_goals
          have HGW : Hid (G + 2 ≤ wr.heap.size) := Lib.hid (by have := HC.out.lt; simp at this; omega)
          go_wp2_with fail
          refine (some_nil wr).mono ?_
          rintro e w5 ⟨v5, rfl, ho5, hb5⟩
          have hD5 := At.below HD.out hb5 HD.out.lt
          have hC5 := At.below HC.out hb5 HC.out.lt
          have hB5 := HB.out.trans (hb5.mono (by have := HGW.out; omega))
          have CN1 := Lib.hid (draw_next (s0) ⟨G, 0, none⟩ w5 hD5.1 hD5.2)
          have hC6 := hC5.far (q := ⟨G, 0, none⟩) (by simp) (.int .u64 (nxt (s0)))
          have CN2 := Lib.hid (draw_next (s0) ⟨G + 1, 0, none⟩ _ hC6.1 hC6.2)
          have hB7 := (hB5.setCell (p := ⟨G, 0, none⟩) (Nat.le_refl _) (.int .u64 (nxt (s0)))).setCell (p := ⟨G + 1, 0, none⟩) (by simp) (.int .u64 (nxt (s0)))
          have hO7 := own_far (own_far ho5 (p := ⟨G, 0, none⟩) (by have := HGW.out; simp; omega) (.int .u64 (nxt (s0)))) (p := ⟨G + 1, 0, none⟩) (by have := HGW.out; simp; omega) (.int .u64 (nxt (s0)))
          obtain ⟨a5, c5, rfl, hs5⟩ := same_three _ _ _ hO7
          have HS5 := Lib.hid hs5
          have HB7 := Lib.hid (hB7.alloc (by have := hB7.size; rw [HG.out] at this; exact this) (.cells #[.int .i64 0, .int .i64 1, .int .i64 2] 3))
          clear hD5 hC5 hB5 hC6 hB7 hO7 hs5 ho5 hb5 HD HC HB
          generalize hst : s0 = st at *
          go_wp2_with fail
          refine CN1.out.mono ?_
          rintro e w6 ⟨rfl, rfl⟩
          go_wp2_with fail
          refine CN2.out.mono ?_
          rintro e w7 ⟨rfl, rfl⟩
          generalize outOf st = oo at *
          generalize ((w5.setCell ⟨G, 0, none⟩ (.int .u64 (nxt st))).setCell ⟨G + 1, 0, none⟩ (.int .u64 (nxt st))) = w7 at *
          go_wp2_with fail
          refine HS5.out.mono ?_
          rintro e w8 ⟨rfl, j, rfl⟩
          have HB8 := Lib.hid (below_drewN HB7.out j)
          go_wp2_with fail
          refine (wakes07 _).mono ?_
          rintro e w9 ⟨rfl, hb9⟩
          have HB9 := Lib.hid (HB8.out.trans (hb9.mono (by have := HB8.out.size; rw [HG.out] at this; exact this)))
          clear hb9
          go_wp2_with fail
          go_ret
          exact ⟨rfl, by rw [HG.out]; exact HB9.out⟩
end Go.Proofs.Ytiaoegdpofpneaa
