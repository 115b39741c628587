/- The walk of wellspringlaw24.PlaneTells. -/
import Derived.Test.YtmaofhbnmkcimaaLaw24a
import Derived.Test.YtmaofhbnmkcimaaPlaneC
import Derived.Deep.RegionWith
import Derived.Deep.RegionHeld3
namespace Go.Proofs.Ytmaofhbnmkcimaa
open Go.RowKit
set_option linter.unusedVariables false

theorem undrew {w w' : World} (h : Below w.drew.heap.size w.drew w') : Below w.heap.size w w' := ⟨h.os, h.tape, h.output, h.size, h.block⟩
theorem atN_32 (n : Int) : (atN n).1.natAbs ≤ 32 ∧ (atN n).2.natAbs ≤ 32 := by
  unfold atN
  split
  · exact it_32 (by omega)
  · exact ⟨by decide, by decide⟩
theorem farI_bd {x y u v : Int} (h1 : x.natAbs ≤ 32) (h2 : y.natAbs ≤ 32) (h3 : u.natAbs ≤ 32) (h4 : v.natAbs ≤ 32) : (farI x y u v).natAbs < 9007199254740992 := by
  have q1 := sq_abs (x := x - u) (by omega)
  have q2 := sq_abs (x := y - v) (by omega)
  unfold farI; omega
theorem three_get (n p q : Int) {k : Nat} (h : k < 3) : ∃ v : Int, (v = n ∨ v = p ∨ v = q) ∧ (#[Value.int .i64 n, .int .i64 p, .int .i64 q] : Array Value)[k]? = some (.int .i64 v) := by
  match k, h with
  | 0, _ => exact ⟨n, .inl rfl, rfl⟩
  | 1, _ => exact ⟨p, .inr (.inl rfl), rfl⟩
  | 2, _ => exact ⟨q, .inr (.inr rfl), rfl⟩

set_option maxRecDepth 100000 in
set_option maxHeartbeats 4000000 in
theorem planeTells_walk (w : World) (n0 : Int) (hn : -9223372036854775808 ≤ n0 ∧ n0 ≤ 9223372036854775807) (m0 : Int) (hm : -9223372036854775808 ≤ m0 ∧ m0 ≤ 9223372036854775807) :
    Calls Try.prog 5 #[.int .i64 n0, .int .i64 m0] w fun e w' => e = .returned (.bool true) ∧ Below w.heap.size w w' := by
  have b1 := And.intro (Int.emod_nonneg n0 (show (4096 : Int) ≠ 0 by omega)) (Int.emod_lt_of_pos n0 (show (0 : Int) < 4096 by omega))
  have b2 := And.intro (Int.emod_nonneg n0 (show (64 : Int) ≠ 0 by omega)) (Int.emod_lt_of_pos n0 (show (0 : Int) < 64 by omega))
  have b3 := And.intro (Int.emod_nonneg m0 (show (4096 : Int) ≠ 0 by omega)) (Int.emod_lt_of_pos m0 (show (0 : Int) < 4096 by omega))
  have c1 := fun w => keep_within n0 4096 w hn (by omega) (by omega)
  have c2 := fun w => keep_within n0 64 w hn (by omega) (by omega)
  have c3 := fun w => keep_within m0 4096 w hm (by omega) (by omega)
  generalize n0 % 4096 = p at *
  generalize n0 % 64 = q at *
  generalize m0 % 4096 = s at *
  have C1 := Lib.hid c1
  have C2 := Lib.hid c2
  have C3 := Lib.hid c3
  have CA := Lib.hid fun w => plane_at s (by omega) w
  have CR := Lib.hid fun w => ref_at s (by omega) w
  have d2 := atN_32 s
  clear c1 c2 c3
  generalize (atN s).1 = x2 at *
  generalize (atN s).2 = y2 at *
  have bds : ∀ v, (v = n0 ∨ v = p ∨ v = q) → -9223372036854775808 ≤ v ∧ v ≤ 9223372036854775807 := by omega
  have BDS := Lib.hid bds
  have D2 := Lib.hid d2
  clear bds b1 b2 b3 d2
  go_enter Try.func5, Try.ntmps5
  go_wp2_with fail
  refine (C1.out _).mono ?_
  rintro e w1 ⟨rfl, rfl⟩
  go_wp2_with fail
  refine (C2.out _).mono ?_
  rintro e w1 ⟨rfl, rfl⟩
  go_wp2_with fail
  go_loopw [6, 18] (fun _ i wr => ∃ k : Nat, k ≤ 3 ∧ i = .int .i64 k ∧ Hid (Blk wr w.heap.size 3 #[.int .i64 n0, .int .i64 p, .int .i64 q]) ∧ Hid (Below w.heap.size w wr)) (fun _ i _ => 3 - (intOf i).toNat)
  case atStart => exact ⟨0, by omega, rfl, Lib.hid (Blk.new _ _ _), Lib.hid ((Below.refl _ _).alloc (Nat.le_refl _) _)⟩
  case round =>
    obtain ⟨k, hk, rfl, HK, HB⟩ := hrel
    by_cases hlt : k < 3
    · obtain ⟨v, hv, hget⟩ := three_get n0 p q hlt
      have hc := (HK.out.cell k).trans hget
      have cV := fun w => plane_at v (BDS.out v hv) w
      have cW := fun w => ref_at v (BDS.out v hv) w
      have d1 := atN_32 v
      generalize (atN v).1 = x1 at *
      generalize (atN v).2 = y1 at *
      have CV := Lib.hid cV
      have CW := Lib.hid cW
      clear cV cW hget
      have hlt' : (k : Int) < 3 := by omega
      go_wp2_with fail
      refine (CV.out _).mono ?_
      rintro e w1 ⟨ar, ai, rfl, hz, hb1⟩
      have HZ := Lib.hid hz
      have HB1 := Lib.hid hb1
      clear hz hb1
      go_wp2_with fail
      refine (CW.out _).mono ?_
      rintro e w2 ⟨rfl, hb2⟩
      have HB2 := Lib.hid hb2
      clear hb2
      go_wp2_with fail
      refine (C3.out _).mono ?_
      rintro e w3 ⟨rfl, rfl⟩
      go_wp2_with fail
      refine (CA.out _).mono ?_
      rintro e w3 ⟨br, bi, rfl, hz, hb3⟩
      have HZ2 := Lib.hid hz
      have hs2 : w2.heap.size < w3.heap.size := by have := hb3.size; simp at this; omega
      have hk8 : Blk w3 w2.heap.size 33 #[.int .i64 x1, .int .i64 y1] := (Blk.new w2 _ _).below hb3 (by simp)
      have hB3 : Hid (Below w.heap.size w w3) := by
        have z1 := HB.out.trans (HB1.out.mono HB.out.size)
        have z2 := z1.trans (HB2.out.mono z1.size)
        have z3 := z2.alloc z2.size (.cells #[.int .i64 x1, .int .i64 y1] 33)
        exact z3.trans (hb3.mono z3.size)
      have hs1 : w.heap.size < w2.heap.size := by
        have := HB1.out.size
        have := HB2.out.size
        have := HK.out.lt
        omega
      have hK3 : Hid (Blk w3 w.heap.size 3 #[.int .i64 n0, .int .i64 p, .int .i64 q]) := by
        have z1 := HK.out.below HB1.out HK.out.lt
        have z2 := z1.below HB2.out z1.lt
        exact (z2.alloc _).below hb3 (by simp; omega)
      have HK8 := Lib.hid hk8
      clear hz hb3 hk8 HB1 HB2 HB HK
      generalize hg8 : w2.heap.size = g8 at *
      go_wp2_with fail
      refine (C3.out _).mono ?_
      rintro e w4 ⟨rfl, rfl⟩
      go_wp2_with fail
      refine (CR.out _).mono ?_
      rintro e w4 ⟨rfl, hb4⟩
      have HK8' := Lib.hid ((HK8.out.below hb4 HK8.out.lt).alloc (.cells #[.int .i64 x2, .int .i64 y2] 33))
      have HKn := Lib.hid (Blk.new w4 33 #[.int .i64 x2, .int .i64 y2])
      have HK4 := Lib.hid ((hK3.out.below hb4 hK3.out.lt).alloc (.cells #[.int .i64 x2, .int .i64 y2] 33))
      have HB4 := Lib.hid ((hB3.out.trans (hb4.mono hB3.out.size)).alloc (by have := hB3.out.size; have := hb4.size; omega) (.cells #[.int .i64 x2, .int .i64 y2] 33))
      have hs4 : g8 < w4.heap.size := by have := hb4.size; omega
      clear hb4 HK8 hK3 hB3
      go_wp2_with fail
      generalize w4.heap.size = g10 at *
      generalize w4.alloc (.cells #[.int .i64 x2, .int .i64 y2] 33) = w5 at *
      have c80 := HK8'.out.cell 0
      have c81 := HK8'.out.cell 1
      have c100 := HKn.out.cell 0
      have c101 := HKn.out.cell 1
      simp at c80 c81 c100 c101
      have fx := fz_ofInt x1 (by omega)
      have fy := fz_ofInt y1 (by omega)
      have hD2 := D2.out
      have ff := fz_ofInt (farI x1 y1 x2 y2) (farI_bd d1.1 d1.2 hD2.1 hD2.2)
      have cf := fun w => plane_far ar ai br bi x1 y1 x2 y2 HZ.out HZ2.out (by omega) (by omega) w
      have crf := fun w => ref_far x1 y1 x2 y2 (by omega) (by omega) w
      generalize farI x1 y1 x2 y2 = fr at *
      generalize hzx : floatOfInt .f64 x1 = zx at *
      generalize hzy : floatOfInt .f64 y1 = zy at *
      generalize hzf : floatOfInt .f64 fr = zf at *
      have hq1 := cz_eq HZ.out (And.intro fx fy : Cz zx zy x1 y1)
      rw [decide_eq_true ⟨rfl, rfl⟩] at hq1
      have hq2 : Hid (∀ r, Fz r fr → (FloatKind.f64.format.order r zf != some .eq) = false) := Lib.hid fun r hr => by rw [bne, fz_eq hr ff, decide_eq_true rfl]; rfl
      have CF := Lib.hid cf
      have CRF := Lib.hid crf
      clear fx fy ff cf crf hD2 d1
      go_region_held3 (fun w' => w'.cell? ⟨g8, 0, none⟩ = some (.int .i64 x1) ∧ w'.cell? ⟨g8, 1, none⟩ = some (.int .i64 y1) ∧ w'.cell? ⟨g10, 0, none⟩ = some (.int .i64 x2) ∧ w'.cell? ⟨g10, 1, none⟩ = some (.int .i64 y2)) (go_keep)
        (first
        | (go_at_call 17; refine (CF.out _).mono ?_; rintro e w6 ⟨r, rfl, hz, rfl⟩; have hq3 := hq2.out r hz; clear hz)
        | (go_at_call 18; refine (CRF.out _).mono ?_; rintro e w6 ⟨rfl, hb6⟩
           have k0 := (hb6.cell (p := ⟨g8, 0, none⟩) HK8'.out.lt).trans c80
           have k1 := (hb6.cell (p := ⟨g8, 1, none⟩) HK8'.out.lt).trans c81
           have k2 := (hb6.cell (p := ⟨g10, 0, none⟩) HKn.out.lt).trans c100
           have k3 := (hb6.cell (p := ⟨g10, 1, none⟩) HKn.out.lt).trans c101))
      go_wp2_with fail
      go_roundw
      case rel => exact ⟨k + 1, by omega, by go_num, Lib.hid (Blk.below (w := w5) HK4.out (undrew hb6) HK4.out.lt), Lib.hid (HB4.out.trans ((undrew hb6).mono HB4.out.size))⟩
      case measure => simp [intOf]; omega
    · obtain rfl : k = 3 := by omega
      go_wp2_with fail
      refine (wakes24 _).mono ?_
      rintro e w2 ⟨rfl, hb2⟩
      go_wp2_with fail
      go_ret
      exact ⟨rfl, HB.out.trans (hb2.mono HB.out.size)⟩
end Go.Proofs.Ytmaofhbnmkcimaa
