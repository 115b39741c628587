/- The package plane: Far; the document's At and Far. -/
import Derived.Test.YtmaofhbnmkcimaaSpiralB
import Derived.Test.YtmaofhbnmkcimaaKeep
namespace Go.Proofs.Ytmaofhbnmkcimaa
open Go.RowKit
set_option linter.unusedVariables false

def farI (x y u v : Int) : Int := (x - u) * (x - u) + (y - v) * (y - v)
theorem sq_abs {x : Int} (h : x.natAbs ≤ 10000) : 0 ≤ x * x ∧ x * x ≤ 100000000 := by
  have h1 : 0 ≤ x * x := by
    rcases Int.le_total 0 x with h | h
    · exact Int.mul_nonneg h h
    · exact Int.mul_nonneg_of_nonpos_of_nonpos h h
  refine ⟨h1, ?_⟩
  have h2 : (x * x).natAbs ≤ 10000 * 10000 := by rw [Int.natAbs_mul]; exact Nat.mul_le_mul h h
  omega

set_option maxRecDepth 100000 in
set_option maxHeartbeats 1000000 in
theorem plane_far (ar ai br bi : Nat) (x y u v : Int) (h1 : Cz ar ai x y) (h2 : Cz br bi u v) (hx : (x - u).natAbs ≤ 10000) (hy : (y - v).natAbs ≤ 10000) (w : World) :
    Calls Try.prog 17 #[.complex .f64 ar ai, .complex .f64 br bi] w fun e w' => ∃ r, e = .returned (.float .f64 r) ∧ Fz r (farI x y u v) ∧ w = w' := by
  have q1 := sq_abs hx
  have q2 := sq_abs hy
  obtain ⟨dr, di, e1, hd1, hd2⟩ := cz_sub h1 h2 (by omega) (by omega)
  obtain ⟨r1, e2, f2⟩ := fz_mul hd1 hd1 (by omega)
  obtain ⟨r2, e3, f3⟩ := fz_mul hd2 hd2 (by omega)
  obtain ⟨r3, e4, f4⟩ := fz_add f2 f3 (by omega)
  have o1 := fun t w => run_complex_sum (P := Try.prog) w .sub (Or.inr rfl) t .f64 _ _ _ _ _ _ e1
  have o2 := fun t w => run_float_arith (P := Try.prog) w .mul t .f64 _ _ _ e2
  have o3 := fun t w => run_float_arith (P := Try.prog) w .mul t .f64 _ _ _ e3
  have o4 := fun t w => run_float_arith (P := Try.prog) w .add t .f64 _ _ _ e4
  have F := Lib.hid f4
  clear h1 h2 hd1 hd2 f2 f3 f4 e1 e2 e3 e4 q1 q2
  go_enter Try.func17, Try.ntmps17
  go_wp2_with (simp only [o1, o2, o3, o4])
  go_ret
  exact ⟨_, rfl, F.out, rfl⟩

theorem blk_new' (w : World) (t : TypeId) (cs : Array Value) {g : Nat} (h : g = w.heap.size) : Blk (w.alloc (.cells cs t)) g t cs := by subst h; exact Blk.new w t cs
theorem it_pos (k : Nat) : 1 ≤ (Sp.it k).left ∧ 1 ≤ (Sp.it k).leg := by
  induction k with
  | zero => decide
  | succ k ih =>
    simp only [Sp.it, Sp.on]
    split
    · exact ⟨by show 1 ≤ (Sp.it k).left - 1; omega, ih.2⟩
    · have : 1 ≤ (Sp.it k).leg' := by unfold Sp.leg'; split <;> omega
      exact ⟨this, this⟩

set_option maxRecDepth 100000 in
set_option maxHeartbeats 2000000 in
theorem ref_at (n : Int) (hn : -9223372036854775808 ≤ n ∧ n ≤ 9223372036854775807) (w : World) :
    Calls Try.prog 16 #[.int .i64 n] w fun e w' => e = .returned (.agg #[.int .i64 (atN n).1, .int .i64 (atN n).2]) ∧ Below w.heap.size w w' := by
  by_cases hin : 0 ≤ n ∧ n < 4096
  · have ha : atN n = ((Sp.it n.toNat).x, (Sp.it n.toNat).y) := if_pos hin
    rw [ha]
    clear ha
    obtain ⟨m, rfl⟩ := Int.eq_ofNat_of_zero_le hin.1
    rw [Int.toNat_natCast]
    have hm : m < 4096 := by omega
    have hm2 : ¬ (4095 : Int) < m := by omega
    clear hn hin
    go_enter Try.func16, Try.ntmps16
    go_wp2_with fail
    go_loopw [4, 5, 6, 7, 8, 9] (fun dx dy run left turns i wr => ∃ k t : Nat, k ≤ m ∧ t ≤ k ∧ i = .int .i64 k ∧ turns = .int .i64 t ∧ dx = .int .i64 (Sp.it k).dx ∧ dy = .int .i64 (Sp.it k).dy ∧ run = .int .i64 (Sp.it k).leg ∧ left = .int .i64 (Sp.it k).left ∧ Hid ((t % 2 = 1) ↔ (Sp.it k).sec = true) ∧
      Hid (Blk wr w.heap.size 33 #[.int .i64 0, .int .i64 0]) ∧ Hid (Blk wr (w.heap.size + 1) 33 #[.int .i64 (Sp.it k).x, .int .i64 (Sp.it k).y]) ∧ Hid (Below w.heap.size w wr)) (fun _ _ _ _ _ i _ => m - (intOf i).toNat)
    case atStart =>
      refine ⟨0, 0, by omega, by omega, rfl, rfl, rfl, rfl, rfl, rfl, Lib.hid (by decide), Lib.hid ?_, Lib.hid ?_, Lib.hid ?_⟩
      · exact (Blk.new w _ _).alloc _
      · exact blk_new' _ _ _ (by simp)
      · exact ((Below.refl _ _).alloc (Nat.le_refl _) _).alloc (by simp) _
    case round =>
      obtain ⟨k, t, hk, ht, rfl, rfl, rfl, rfl, rfl, rfl, HS, HB0, HB1, HB⟩ := hrel
      by_cases hlt : k < m
      · have hsm := it_small (k := k) (by omega)
        have hps := it_pos k
        have hE : Sp.it (k + 1) = (Sp.it k).on := rfl
        have hkk : ¬ k = m := by omega
        generalize Sp.it k = s at *
        obtain ⟨x, y, dx, dy, left, leg, sec⟩ := s
        obtain ⟨q1, q2, q3, q4, q5, q6⟩ := hsm
        simp only at q1 q2 q3 q4 q5 q6 hps
        have c0 := HB1.out.cell 0
        have c1 := HB1.out.cell 1
        have f0 := HB1.out.frozen 0
        have f1 := HB1.out.frozen 1
        simp at c0 c1
        have HQ := Lib.hid hps
        clear hps
        by_cases hl : left = 1
        · subst hl
          cases sec
          · have ht2 : ((t : Int) + 1) % 2 = 1 := by have := HS.out; simp at this; omega
            have ht3 : (((t : Int) + 1) % 2 == 0) = false := by rw [ht2]; rfl
            have HE : Hid (Sp.it (k + 1) = ⟨x + dx, y + dy, -dy, dx, leg, leg, true⟩) := Lib.hid (by rw [hE]; simp [Sp.on, Sp.leg'])
            clear hE
            go_wp2_with fail
            go_roundw
            case rel =>
              refine ⟨k + 1, t + 1, by omega, by omega, by go_num, by go_num, by rw [HE.out], by rw [HE.out], by rw [HE.out], by rw [HE.out], Lib.hid (by rw [HE.out]; have := HS.out; simp at this ⊢; omega), Lib.hid ?_, Lib.hid ?_, Lib.hid ?_⟩
              · exact (HB0.out.far (by simp) _).far (by simp) _
              · rw [HE.out]; exact (HB1.out.set 0 _).set 1 _
              · exact (HB.out.setCell (by simp) _).setCell (by simp) _
            case measure => simp [intOf]; omega
          · have ht2 : ((t : Int) + 1) % 2 = 0 := by have := HS.out; simp at this; omega
            have ht3 : (((t : Int) + 1) % 2 == 0) = true := by rw [ht2]; rfl
            have HE : Hid (Sp.it (k + 1) = ⟨x + dx, y + dy, -dy, dx, leg + 1, leg + 1, false⟩) := Lib.hid (by rw [hE]; simp [Sp.on, Sp.leg'])
            clear hE
            go_wp2_with fail
            go_roundw
            case rel =>
              refine ⟨k + 1, t + 1, by omega, by omega, by go_num, by go_num, by rw [HE.out], by rw [HE.out], by rw [HE.out], by rw [HE.out], Lib.hid (by rw [HE.out]; have := HS.out; simp at this ⊢; omega), Lib.hid ?_, Lib.hid ?_, Lib.hid ?_⟩
              · exact (HB0.out.far (by simp) _).far (by simp) _
              · rw [HE.out]; exact (HB1.out.set 0 _).set 1 _
              · exact (HB.out.setCell (by simp) _).setCell (by simp) _
            case measure => simp [intOf]; omega
        · have hl2 : 2 ≤ left := by have := HQ.out; omega
          have hl3 : (left - 1 == 0) = false := by rw [beq_eq_false_iff_ne]; omega
          have HE : Hid (Sp.it (k + 1) = ⟨x + dx, y + dy, dx, dy, left - 1, leg, sec⟩) := Lib.hid (by rw [hE, Sp.on, if_pos (by show 0 < left - 1; omega)])
          clear hE
          go_wp2_with fail
          go_roundw
          case rel =>
            refine ⟨k + 1, t, by omega, by omega, by go_num, by go_num, by rw [HE.out], by rw [HE.out], by rw [HE.out], by rw [HE.out], Lib.hid (by rw [HE.out]; have := HS.out; simp at this ⊢; omega), Lib.hid ?_, Lib.hid ?_, Lib.hid ?_⟩
            · exact (HB0.out.far (by simp) _).far (by simp) _
            · rw [HE.out]; exact (HB1.out.set 0 _).set 1 _
            · exact (HB.out.setCell (by simp) _).setCell (by simp) _
          case measure => simp [intOf]; omega
      · obtain rfl : k = m := by omega
        have l0 := HB0.out.cell 0
        have l1 := HB0.out.cell 1
        have f0 := HB0.out.frozen 0
        have f1 := HB0.out.frozen 1
        have c0 := HB1.out.cell 0
        have c1 := HB1.out.cell 1
        simp at c0 c1 l0 l1
        go_wp2_with fail
        have hblk : Blk ((wr.setCell ⟨w.heap.size, 0, none⟩ (.int .i64 (Sp.it k).x)).setCell ⟨w.heap.size, 1, none⟩ (.int .i64 (Sp.it k).y)) w.heap.size 33 #[.int .i64 (Sp.it k).x, .int .i64 (Sp.it k).y] := (HB0.out.set 0 _).set 1 _
        refine bodyPost_ret (results_cell_row rfl _ _ w.heap.size 33 _ (0, 0) _ rfl hblk Try.underlying33 rfl (by kernel_rfl)) rfl ?_
        exact ⟨rfl, (HB.out.setCell (by simp) _).setCell (by simp) _⟩
  · have ha : atN n = (0, 0) := if_neg hin
    rw [ha]
    clear ha
    go_enter Try.func16, Try.ntmps16
    by_cases h0 : n < 0
    · go_wp2_with fail
      refine bodyPost_ret (results_cell_row rfl _ _ w.heap.size 33 _ (0, 0) _ rfl ((Blk.new w 33 #[.int .i64 0, .int .i64 0]).alloc _) Try.underlying33 rfl (by kernel_rfl)) rfl ?_
      exact ⟨rfl, ((Below.refl _ _).alloc (Nat.le_refl _) _).alloc (by simp) _⟩
    · have h1 : 4095 < n := by omega
      go_wp2_with fail
      refine bodyPost_ret (results_cell_row rfl _ _ w.heap.size 33 _ (0, 0) _ rfl ((Blk.new w 33 #[.int .i64 0, .int .i64 0]).alloc _) Try.underlying33 rfl (by kernel_rfl)) rfl ?_
      exact ⟨rfl, ((Below.refl _ _).alloc (Nat.le_refl _) _).alloc (by simp) _⟩

set_option maxRecDepth 100000 in
set_option maxHeartbeats 1000000 in
theorem ref_far (x y u v : Int) (hx : (x - u).natAbs ≤ 10000) (hy : (y - v).natAbs ≤ 10000) (w : World) :
    Calls Try.prog 18 #[.agg #[.int .i64 x, .int .i64 y], .agg #[.int .i64 u, .int .i64 v]] w fun e w' => e = .returned (.int .i64 (farI x y u v)) ∧ Below w.heap.size w w' := by
  have q1 := sq_abs hx
  have q2 := sq_abs hy
  have he : farI x y u v = (x - u) * (x - u) + (y - v) * (y - v) := rfl
  rw [he]
  clear he
  have w1 : -9223372036854775808 ≤ (x - u) * (x - u) ∧ (x - u) * (x - u) ≤ 9223372036854775807 := by omega
  have w2 : -9223372036854775808 ≤ (y - v) * (y - v) ∧ (y - v) * (y - v) ≤ 9223372036854775807 := by omega
  go_enter Try.func18, Try.ntmps18
  go_wp2_with fail
  go_ret
  exact ⟨rfl, ((Below.refl _ _).alloc (Nat.le_refl _) _).alloc (by simp) _⟩
end Go.Proofs.Ytmaofhbnmkcimaa
