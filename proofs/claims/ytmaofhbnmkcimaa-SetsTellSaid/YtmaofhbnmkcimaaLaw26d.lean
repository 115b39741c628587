/- The walk of wellspringlaw26.SetsTell. -/
import Derived.Test.YtmaofhbnmkcimaaSetsH
import Derived.Test.YtmaofhbnmkcimaaLaw26a
import Derived.Deep.RegionHeld3
namespace Go.Proofs.Ytmaofhbnmkcimaa
open Go.RowKit
set_option linter.unusedVariables false

theorem undrew {w w' : World} (h : Below w.drew.heap.size w.drew w') : Below w.heap.size w w' := ⟨h.os, h.tape, h.output, h.size, h.block⟩
theorem three_pairs (a b c d e f : Int) {k : Nat} (h : k < 3) : ∃ x y : Int, ((x = a ∧ y = b) ∨ (x = c ∧ y = d) ∨ (x = e ∧ y = f)) ∧
    (#[Value.int .i64 a, .int .i64 b, .int .i64 c, .int .i64 d, .int .i64 e, .int .i64 f] : Array Value)[k * 2]? = some (.int .i64 x) ∧ (#[Value.int .i64 a, .int .i64 b, .int .i64 c, .int .i64 d, .int .i64 e, .int .i64 f] : Array Value)[k * 2 + 1]? = some (.int .i64 y) := by
  match k, h with
  | 0, _ => exact ⟨a, b, .inl ⟨rfl, rfl⟩, rfl, rfl⟩
  | 1, _ => exact ⟨c, d, .inr (.inl ⟨rfl, rfl⟩), rfl, rfl⟩
  | 2, _ => exact ⟨e, f, .inr (.inr ⟨rfl, rfl⟩), rfl, rfl⟩

set_option maxRecDepth 100000 in
set_option maxHeartbeats 4000000 in
theorem setsTell_walk (w : World) (n0 : Int) (hn : -9223372036854775808 ≤ n0 ∧ n0 ≤ 9223372036854775807) (t0 : Int) (ht : -9223372036854775808 ≤ t0 ∧ t0 ≤ 9223372036854775807)
    (m0 : Int) (hm : -9223372036854775808 ≤ m0 ∧ m0 ≤ 9223372036854775807) (k0 : Int) (hk0 : -9223372036854775808 ≤ k0 ∧ k0 ≤ 9223372036854775807) :
    Calls Try.prog 8 #[.int .i64 n0, .int .i64 t0, .int .i64 m0, .int .i64 k0] w fun e w' => e = .returned (.bool true) ∧ Below w.heap.size w w' := by
  have b1 := And.intro (Int.emod_nonneg n0 (show (70 : Int) ≠ 0 by omega)) (Int.emod_lt_of_pos n0 (show (0 : Int) < 70 by omega))
  have b2 := And.intro (Int.emod_nonneg t0 (show (6 : Int) ≠ 0 by omega)) (Int.emod_lt_of_pos t0 (show (0 : Int) < 6 by omega))
  have b3 := And.intro (Int.emod_nonneg m0 (show (12 : Int) ≠ 0 by omega)) (Int.emod_lt_of_pos m0 (show (0 : Int) < 12 by omega))
  have b4 := And.intro (Int.emod_nonneg k0 (show (13 : Int) ≠ 0 by omega)) (Int.emod_lt_of_pos k0 (show (0 : Int) < 13 by omega))
  have c1 := fun w => keep_within n0 70 w hn (by omega) (by omega)
  have c2 := fun w => keep_within t0 6 w ht (by omega) (by omega)
  have c3 := fun w => keep_within m0 12 w hm (by omega) (by omega)
  have c4 := fun w => keep_within k0 13 w hk0 (by omega) (by omega)
  generalize n0 % 70 = p1 at *
  generalize t0 % 6 = p2 at *
  generalize m0 % 12 = p3 at *
  generalize k0 % 13 = p4 at *
  have bds : Hid (∀ x y, ((x = n0 ∧ y = t0) ∨ (x = p1 ∧ y = p2 - 1) ∨ (x = p3 ∧ y = p4)) → (-9223372036854775808 ≤ x ∧ x ≤ 9223372036854775807) ∧ (-9223372036854775808 ≤ y ∧ y ≤ 9223372036854775807)) := Lib.hid (by omega)
  have C1 := Lib.hid c1
  have C2 := Lib.hid c2
  have C3 := Lib.hid c3
  have C4 := Lib.hid c4
  clear c1 c2 c3 c4
  go_enter Try.func8, Try.ntmps8
  go_wp2_with fail
  refine (C1.out _).mono ?_
  rintro e w1 ⟨rfl, rfl⟩
  go_wp2_with fail
  refine (C2.out _).mono ?_
  rintro e w1 ⟨rfl, rfl⟩
  go_wp2_with fail
  refine (C3.out _).mono ?_
  rintro e w1 ⟨rfl, rfl⟩
  go_wp2_with fail
  refine (C4.out _).mono ?_
  rintro e w1 ⟨rfl, rfl⟩
  go_wp2_with fail
  generalize hG : w.heap.size = G at *
  have HG := Lib.hid hG
  go_loopw [31] (fun i wr => ∃ k : Nat, k ≤ 3 ∧ i = .int .i64 k ∧ Hid (Blk wr G 40 #[.int .i64 n0, .int .i64 t0, .int .i64 p1, .int .i64 (p2 - 1), .int .i64 p3, .int .i64 p4]) ∧ Hid (Below G w wr)) (fun i _ => 3 - (intOf i).toNat)
  case atStart => subst hG; exact ⟨0, by omega, rfl, Lib.hid (Blk.new _ _ _), Lib.hid ((Below.refl _ _).alloc (Nat.le_refl _) _)⟩
  case round =>
    clear hG
    obtain ⟨k, hk, rfl, HK, HB⟩ := hrel
    by_cases hlt : k < 3
    · obtain ⟨x, y, hxy, g0, g1⟩ := three_pairs n0 t0 p1 (p2 - 1) p3 p4 hlt
      have c0 := (HK.out.cell (k * 2)).trans g0
      have c1 := (HK.out.cell (k * 2 + 1)).trans g1
      have hb := bds.out x y hxy
      have hlt' : (k : Int) < 3 := by omega
      clear g0 g1 hxy
      go_wp2_with fail
      have hGr := HK.out.lt
      have hK1 := HK.out.alloc (.cells #[.int .i64 x, .int .i64 y] 40)
      have hX1 := Blk.new wr 40 #[.int .i64 x, .int .i64 y]
      have hB1 := HB.out.alloc (by have := HB.out.size; have := HG.out; omega) (.cells #[.int .i64 x, .int .i64 y] 40)
      clear HK HB c0 c1
      generalize wr.heap.size = g at *
      generalize wr.alloc (.cells #[.int .i64 x, .int .i64 y] 40) = w1 at *
      have cx := hX1.cell 0
      have cy := hX1.cell 1
      simp at cx cy
      have HK1 := Lib.hid hK1
      have HX1 := Lib.hid hX1
      have HB1 := Lib.hid hB1
      have CC := Lib.hid fun w => sets_count x y hb.1 hb.2 w
      have CR := Lib.hid fun w => ref_count x y hb.1 hb.2 w
      have CA := Lib.hid fun w => sets_allI x y hb.1 hb.2 w
      have CF := Lib.hid fun w => ref_allI x y hb.1 hb.2 w
      have HLL := Lib.hid (allL_len x y)
      clear hK1 hX1 hB1
      generalize cntI x y = cn at *
      have hcn : ((cn : Int) != (cn : Int)) = false := by simp
      go_region_held3 (fun w' => w'.cell? ⟨g, 0, none⟩ = some (.int .i64 x) ∧ w'.cell? ⟨g, 1, none⟩ = some (.int .i64 y)) (go_keep)
        (first
        | (go_at_call 20; refine (CC.out _).mono ?_; rintro e w2 ⟨rfl, rfl⟩)
        | (go_at_call 21; refine (CR.out _).mono ?_; rintro e w2 ⟨rfl, hb2⟩
           have k0 := (hb2.cell (p := ⟨g, 0, none⟩) HX1.out.lt).trans cx
           have k1 := (hb2.cell (p := ⟨g, 1, none⟩) HX1.out.lt).trans cy))
      have hb2' := undrew hb2
      have HK2 := Lib.hid (HK1.out.below hb2' HK1.out.lt)
      have HX2 := Lib.hid (HX1.out.below hb2' HX1.out.lt)
      have HB2 := Lib.hid (HB1.out.trans (hb2'.mono (by have := HK1.out.lt; omega)))
      clear hb2 hb2' HK1 HX1 HB1 cx cy
      go_wp2_with fail
      have hA := CA.out w2
      unfold AllOk at hA
      refine hA.mono ?_
      rintro e w3 ⟨v1, rfl, ho1, hb3⟩
      have hbF := CF.out w3
      unfold AllOk at hbF
      have hlm : ∀ l ∈ allL x y, l.length ≤ 4096 := fun l hl => by
        rcases all_cases x y with ⟨_, _, h, _⟩ | ⟨N, T, _, _, hN, hT, _, _, _, ⟨_, _, h⟩ | ⟨_, _, h, _⟩⟩
        · rw [h] at hl; simp at hl
        · rw [h] at hl; simp at hl
        · rw [h] at hl; rw [fromL_len N T 0 l hl]; omega
      obtain ⟨a1, c1, rfl, hr1⟩ := rdl_of_out ho1
      have HR1 := Lib.hid hr1
      have HFF := Lib.hid hbF
      have HLM := Lib.hid hlm
      have HK3 := Lib.hid (HK2.out.below hb3 HK2.out.lt)
      have HX3 := Lib.hid (HX2.out.below hb3 HX2.out.lt)
      have HB3 := Lib.hid (HB2.out.trans (hb3.mono (by have := HK2.out.lt; omega)))
      clear hr1 hbF hlm ho1 hb3 HK2 HX2 HB2 hA
      generalize hLe : allL x y = L at *
      generalize allE x y = ee at *
      have hee : (ee != ee) = false := by simp
      have cx := HX3.out.cell 0
      have cy := HX3.out.cell 1
      simp at cx cy
      clear hLe
      generalize hn : L.length = n at *
      have HN := Lib.hid hn
      clear hn
      go_wp2_with fail
      refine HFF.out.mono ?_
      rintro e w4 ⟨v2, rfl, ho2, hb4⟩
      obtain ⟨a2, c2, rfl, hr2⟩ := rdl_of_out ho2
      rw [HN.out]
      have hR1 := (HR1.out.below hb4 (Nat.le_refl _)).more hb4.size
      have HKR := Lib.hid (keep_rows L w4.heap.size a1 a2 n c1 c2 w4 HN.out HLL.out HLM.out hR1 hr2 (Nat.le_refl _))
      have HK4 := Lib.hid (HK3.out.below hb4 HK3.out.lt)
      have HB4 := Lib.hid (HB3.out.trans (hb4.mono (by have := HK3.out.lt; omega)))
      clear hR1 hr2 ho2 hb4 HK3 HX3 HB3 cx cy HR1
      go_wp2_with fail
      refine HKR.out.mono ?_
      rintro e w5 ⟨rfl, j, rfl⟩
      go_wp2_with fail
      go_roundw
      case rel => first | exact ⟨k + 1, by omega, by go_num, Lib.hid HK4.out, Lib.hid (below_drewN HB4.out j)⟩ | ((repeat apply Exists.intro); exact ⟨⟨k + 1, by omega, by go_num, Lib.hid HK4.out, Lib.hid (below_drewN HB4.out j)⟩, rfl⟩)
      case measure => simp [intOf]; omega
    · obtain rfl : k = 3 := by omega
      go_wp2_with fail
      refine (wakes26 _).mono ?_
      rintro e w2 ⟨rfl, hb2⟩
      go_wp2_with fail
      go_ret
      exact ⟨rfl, by rw [HG.out]; exact HB.out.trans (hb2.mono (by have := HB.out.size; have := HG.out; omega))⟩
end Go.Proofs.Ytmaofhbnmkcimaa
