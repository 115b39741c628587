/- Contracts of the package gf. -/
import Derived.Test.YtfbhbjhfebkpfaaKit
import Derived.Test.YtfbhbjhfebkpfaaGfMath
import Derived.ScopeJumps
import Derived.WalkMore
import Derived.Deep.MidRow
namespace Go.Proofs.Ytfbhbjhfebkpfaa
open Go.RowKit
set_option linter.unusedVariables false

theorem and128 (x : Nat) (h : x < 256) : bits .and .u8 (x : Int) 128 = if 128 ≤ x then 128 else 0 := by
  have h1 := u8_and_nat x 128 h (by omega)
  have h2 : ∀ x, x < 256 → x &&& 128 = if 128 ≤ x then 128 else 0 := by decide +kernel
  rw [h2 x h] at h1
  split <;> simp_all
theorem and1 (x : Nat) (h : x < 256) : bits .and .u8 (x : Int) 1 = ((x % 2 : Nat) : Int) := by
  have h1 := u8_and_nat x 1 h (by omega)
  rw [Nat.and_one_is_mod] at h1
  exact h1
theorem ret_u8 {a b : Nat} (h : a = b) : Ending.returned (.int .u8 (a : Int)) = .returned (.int .u8 (b : Int)) := by rw [h]

set_option maxRecDepth 100000 in
set_option maxHeartbeats 1000000 in
theorem gf_times (a : Nat) (ha : a < 256) (w : World) :
    Calls Try.prog 95 #[.int .u8 a, .int .u8 3] w fun e w' => e = .returned (.int .u8 (m3 a : Nat)) ∧ w = w' := by
  go_enter Try.func95, Try.ntmps95
  go_wp2
  refine wp_goto_loop 0 (fun n a' w' => ∃ (x b out : Nat) (u6 u7 u8 u9 u10 u11 u12 u13 u14 u15 u16 u17 u18 u19 u20 u21 u22 u23 u24 u25 : Value), (b < n ∧ b < 256 ∧ x < 256 ∧ out < 256 ∧ gmF n out x b = m3 a ∧ w = w') ∧
      a' = { tmps := #[.int .u8 x, .int .u8 b, undef, undef, .int .u8 0, .int .u8 out, u6, u7, u8, u9, u10, u11, u12, u13, u14, u15, u16, u17, u18, u19, u20, u21, u22, u23, u24, u25], defers := [] }) 4 rfl ?_ ?_
  · have h4 : gmF 4 0 a 3 = m3 a := by simp [gmF, m3]
    have H4 := Lib.hid h4
    clear h4
    go_wp2
    exact ⟨a, 3, 0, _, _, _, _, _, _, _, _, _, _, _, _, _, _, _, _, _, _, _, _, ⟨by omega, by omega, ha, by omega, H4.out, by first | rfl | trivial⟩, rfl⟩
  · rintro n a' w' ⟨x, b, out, u6, u7, u8, u9, u10, u11, u12, u13, u14, u15, u16, u17, u18, u19, u20, u21, u22, u23, u24, u25, ⟨hb, hbb, hx, ho, hg, rfl⟩, rfl⟩
    obtain ⟨m, rfl⟩ : ∃ m, n = m + 1 := ⟨n - 1, by omega⟩
    by_cases hb0 : b = 0
    · subst hb0
      have hr : out = m3 a := by simpa [gmF] using hg
      have HR := Lib.hid hr
      clear hg hr
      go_wp2
      simp only [Exit.jump]
      go_ret
      exact ⟨ret_u8 HR.out, rfl⟩
    · have hbz : ((b : Int) == 0) = false := by simpa using hb0
      have h1 : gmF m (if b % 2 = 1 then out ^^^ x else out) (xt x) (b / 2) = m3 a := by
        have := hg
        rw [gmF, if_neg hb0] at this
        exact this
      have H1 := Lib.hid h1
      clear hg h1
      have e1 := and1 b (by omega)
      have e2 := and128 x hx
      have e3 := u8_xor_nat out x ho hx
      have hox := xor_lt ho hx
      have hxl := xt_lt hx
      by_cases hp : b % 2 = 1 <;> by_cases hq : 128 ≤ x
      · have e4 := u8_xor_nat (2 * x % 256) 27 (Nat.mod_lt _ (by omega)) (by omega)
        have hxt : 2 * x % 256 ^^^ 27 = xt x := by unfold xt; rw [if_pos hq]
        rw [if_pos hq] at e2
        rw [show ((2 * x % 256 : Nat) : Int) = (x : Int) * 2 % 256 by omega, hxt] at e4
        have e4' : bits .xor .u8 ((x : Int) * 2 % 256) 27 = ((xt x : Nat) : Int) := e4
        clear hxt e4
        rw [hp] at e1
        rw [if_pos hp] at H1
        generalize xt x = y at *
        generalize out ^^^ x = out' at *
        go_wp2
        go_step3
        exact ⟨rfl, m, by omega, y, b / 2, out', _, _, _, _, _, _, _, _, _, _, _, _, _, _, _, _, _, _, _, _, ⟨by omega, by omega, hxl, hox, H1.out, rfl⟩, rfl⟩
      · have hxt : 2 * x = xt x := by unfold xt; rw [if_neg hq]
        rw [if_neg hq] at e2
        have e4' : (x : Int) * 2 = ((xt x : Nat) : Int) := by rw [← hxt]; omega
        clear hxt
        rw [hp] at e1
        rw [if_pos hp] at H1
        generalize xt x = y at *
        generalize out ^^^ x = out' at *
        go_wp2
        go_step3
        exact ⟨rfl, m, by omega, y, b / 2, out', _, _, _, _, _, _, _, _, _, _, _, _, _, _, _, _, _, _, _, _, ⟨by omega, by omega, hxl, hox, H1.out, rfl⟩, rfl⟩
      · have e4 := u8_xor_nat (2 * x % 256) 27 (Nat.mod_lt _ (by omega)) (by omega)
        have hxt : 2 * x % 256 ^^^ 27 = xt x := by unfold xt; rw [if_pos hq]
        rw [if_pos hq] at e2
        rw [show ((2 * x % 256 : Nat) : Int) = (x : Int) * 2 % 256 by omega, hxt] at e4
        have e4' : bits .xor .u8 ((x : Int) * 2 % 256) 27 = ((xt x : Nat) : Int) := e4
        clear hxt e4
        have hp' : b % 2 = 0 := by omega
        rw [hp'] at e1
        rw [if_neg hp] at H1
        generalize xt x = y at *
        go_wp2
        go_step3
        exact ⟨rfl, m, by omega, y, b / 2, out, _, _, _, _, _, _, _, _, _, _, _, _, _, _, _, _, _, _, _, _, ⟨by omega, by omega, hxl, ho, H1.out, rfl⟩, rfl⟩
      · have hxt : 2 * x = xt x := by unfold xt; rw [if_neg hq]
        rw [if_neg hq] at e2
        have e4' : (x : Int) * 2 = ((xt x : Nat) : Int) := by rw [← hxt]; omega
        clear hxt
        have hp' : b % 2 = 0 := by omega
        rw [hp'] at e1
        rw [if_neg hp] at H1
        generalize xt x = y at *
        go_wp2
        go_step3
        exact ⟨rfl, m, by omega, y, b / 2, out, _, _, _, _, _, _, _, _, _, _, _, _, _, _, _, _, _, _, _, _, ⟨by omega, by omega, hxl, ho, H1.out, rfl⟩, rfl⟩

/-- The array of powers, k of them laid. -/
def pwRow (k : Nat) : Array Value := ((List.range 255).map fun i => Value.int .u8 ((if i < k then ex i else 0 : Nat) : Int)).toArray
theorem pwRow_size (k : Nat) : (pwRow k).size = 255 := by simp [pwRow]
theorem pwRow_zero : pwRow 0 = Try.zeroCells95 := by kernel_rfl
theorem pwRow_get (k i : Nat) (h : i < 255) : (pwRow k)[i]? = some (Value.int .u8 ((if i < k then ex i else 0 : Nat) : Int)) := by
  simp [pwRow, h]
theorem pwRow_set (k : Nat) (h : k < 255) : (pwRow k).setIfInBounds k (.int .u8 (ex k)) = pwRow (k + 1) := by
  apply Array.ext_getElem?
  intro i
  rw [Array.getElem?_setIfInBounds]
  by_cases hi : i < 255
  · rw [pwRow_get _ _ hi, pwRow_get _ _ hi]
    by_cases hk : k = i
    · subst hk
      simp [pwRow_size, h]
    · have : (i < k + 1) = (i < k) := by simp only [eq_iff_iff]; omega
      simp [hk, this]
  · rw [if_neg (by omega), Array.getElem?_eq_none (by rw [pwRow_size]; omega), Array.getElem?_eq_none (by rw [pwRow_size]; omega)]

set_option maxRecDepth 100000 in
set_option maxHeartbeats 1000000 in
theorem gf_powers (w : World) :
    Calls Try.prog 81 #[] w fun e w' => e = .returned (.agg (pwRow 255)) ∧ Below w.heap.size w w' := by
  go_enter Try.func81, Try.ntmps81
  go_wp2_with fail
  rw [← pwRow_zero]
  have h0 := Blk.new w 95 (pwRow 0)
  have hb0 : Below w.heap.size w (w.alloc (.cells (pwRow 0) 95)) := (Below.refl _ _).alloc (Nat.le_refl _) _
  generalize w.alloc (.cells (pwRow 0) 95) = w0 at *
  have H0 := Lib.hid h0
  clear h0
  go_loopw [1, 3] (fun x i wr => ∃ k : Nat, k ≤ 255 ∧ i = .int .i64 k ∧ x = .int .u8 (ex k : Nat) ∧ Hid (Blk wr w.heap.size 95 (pwRow k)) ∧ Below w.heap.size w wr) (fun _ i _ => 255 - (intOf i).toNat)
  case atStart => exact ⟨0, by omega, rfl, rfl, H0, hb0⟩
  case round =>
    obtain ⟨k, hk, rfl, rfl, HB, hb⟩ := hrel
    by_cases hlt : k < 255
    · have hc := (HB.out.cell k).trans (pwRow_get k k hlt)
      have hf := HB.out.frozen k
      have HS := Lib.hid (pwRow_set k hlt)
      have hx := (ex_bd k).2
      go_wp2_with fail
      refine (gf_times (ex k) hx _).mono ?_
      rintro e w1 ⟨rfl, rfl⟩
      go_wp2_with fail
      go_roundw
      case rel => exact ⟨k + 1, by omega, by go_num, rfl, by have := HB.out.set k (.int .u8 (ex k : Nat)); rw [HS.out] at this; exact this, hb.setCell (by simp) _⟩
      case measure => simp [intOf]; omega
    · obtain rfl : k = 255 := by omega
      go_wp2_with (first
        | (refine wpList_load_row rfl 95 _ rfl w.heap.size rfl 95 (pwRow 255) (0, 0) _ HB.out Try.underlying95 rfl (by kernel_rfl) ?_)
        | (refine wpList_store_row rfl 95 _ _ rfl w.heap.size (pwRow 255) rfl rfl 95 (pwRow 255) HB.out (by kernel_rfl) rfl (by kernel_rfl) ?_))
      exact bodyPost_ret (results_cell_row rfl _ _ w.heap.size 95 (pwRow 255) (0, 0) _ rfl (HB.out.row _) Try.underlying95 rfl (by kernel_rfl)) rfl ⟨rfl, below_setRow' hb (Nat.le_refl _) _⟩

/-- The array of logarithms, those of k powers laid. -/
def lgRow (k : Nat) : Array Value := ((List.range 256).map fun a => Value.int .i64 ((if a ≠ 0 ∧ lg a < k then lg a else 0 : Nat) : Int)).toArray
theorem lgRow_size (k : Nat) : (lgRow k).size = 256 := by simp [lgRow]
theorem lgRow_zero : lgRow 0 = Try.zeroCells97 := by kernel_rfl
theorem lgRow_get (k i : Nat) (h : i < 256) : (lgRow k)[i]? = some (Value.int .i64 ((if i ≠ 0 ∧ lg i < k then lg i else 0 : Nat) : Int)) := by
  simp [lgRow, h]
theorem lgRow_set (k : Nat) (h : k < 255) : (lgRow k).setIfInBounds (ex k) (.int .i64 k) = lgRow (k + 1) := by
  have hx := ex_bd' h
  have hl := lg_ex h
  apply Array.ext_getElem?
  intro i
  rw [Array.getElem?_setIfInBounds]
  by_cases hi : i < 256
  · rw [lgRow_get _ _ hi, lgRow_get _ _ hi]
    by_cases hk : ex k = i
    · subst hk
      rw [if_pos rfl, if_pos (by rw [lgRow_size]; exact hi), if_pos ⟨by omega, by omega⟩, hl]
    · rw [if_neg hk]
      have : (i ≠ 0 ∧ lg i < k + 1) = (i ≠ 0 ∧ lg i < k) := by
        simp only [eq_iff_iff]
        constructor
        · rintro ⟨h1, h2⟩
          refine ⟨h1, ?_⟩
          rcases Nat.lt_or_ge (lg i) k with h3 | h3
          · exact h3
          · have : lg i = k := by omega
            exact absurd (by rw [← this]; exact ex_lg (by omega) hi) hk
        · rintro ⟨h1, h2⟩; exact ⟨h1, by omega⟩
      simp only [this]
  · rw [if_neg (by omega), Array.getElem?_eq_none (by rw [lgRow_size]; omega), Array.getElem?_eq_none (by rw [lgRow_size]; omega)]

set_option maxRecDepth 100000 in
set_option maxHeartbeats 1000000 in
theorem gf_logs (w : World) :
    Calls Try.prog 82 #[.agg (pwRow 255)] w fun e w' => e = .returned (.agg (lgRow 255)) ∧ Below w.heap.size w w' := by
  have hidx : ∀ (k : Nat), k < 255 → ∀ w : World, (Instr.index 95 (.agg (pwRow 255)) (.int .i64 k)).run Try.prog w = .ok (.int .u8 (ex k : Nat)) w := fun k hk w => by
    have h1 := pwRow_get 255 k hk
    rw [if_pos hk] at h1
    exact run_index_ints 95 5 255 _ _ _ k _ Try.underlying95 Try.underlying5 (by kernel_rfl) hk h1
  have HI := Lib.hid hidx
  clear hidx
  go_enter Try.func82, Try.ntmps82
  go_wp2_with (refine wpList_load_row rfl 95 _ rfl w.heap.size rfl 95 (pwRow 255) (0, 0) _ ?hb Try.underlying95 rfl (by kernel_rfl) ?_)
  case hb => exact (Blk.new w 95 (pwRow 255)).alloc _
  rw [← lgRow_zero]
  have hb0 : Below w.heap.size w ((w.alloc (.cells (pwRow 255) 95)).alloc (.cells (lgRow 0) 97)) := ((Below.refl _ _).alloc (Nat.le_refl _) _).alloc (by simp) _
  have H0 : Hid (Blk ((w.alloc (.cells (pwRow 255) 95)).alloc (.cells (lgRow 0) 97)) (w.heap.size + 1) 97 (lgRow 0)) := by
    have := Blk.new (w.alloc (.cells (pwRow 255) 95)) 97 (lgRow 0)
    rw [show (w.alloc (.cells (pwRow 255) 95)).heap.size = w.heap.size + 1 by simp] at this
    exact this
  generalize (w.alloc (.cells (pwRow 255) 95)).alloc (.cells (lgRow 0) 97) = w0 at *
  go_loopw [6] (fun i wr => ∃ k : Nat, k ≤ 255 ∧ i = .int .i64 k ∧ Hid (Blk wr (w.heap.size + 1) 97 (lgRow k)) ∧ Below w.heap.size w wr) (fun i _ => 255 - (intOf i).toNat)
  case atStart => exact ⟨0, by omega, rfl, H0, hb0⟩
  case round =>
    obtain ⟨k, hk, rfl, HB, hb⟩ := hrel
    by_cases hlt : k < 255
    · have hx := (ex_bd k).2
      have hc := (HB.out.cell (ex k)).trans (lgRow_get k (ex k) hx)
      have hf := HB.out.frozen (ex k)
      have HS := Lib.hid (lgRow_set k hlt)
      have hi := HI.out k hlt
      generalize hy : ex k = y at *
      have HY := Lib.hid hy
      clear hy
      go_wp2_with fail
      go_roundw
      case rel => exact ⟨k + 1, by omega, by go_num, by have := HB.out.set y (.int .i64 (k : Nat)); rw [HS.out] at this; exact this, hb.setCell (by simp) _⟩
      case measure => simp [intOf]; omega
    · obtain rfl : k = 255 := by omega
      go_wp2_with (first
        | (refine wpList_load_row rfl 97 _ rfl (w.heap.size + 1) rfl 97 (lgRow 255) (0, 0) _ HB.out Try.underlying97 rfl (by kernel_rfl) ?_)
        | (refine wpList_store_row rfl 97 _ _ rfl (w.heap.size + 1) (lgRow 255) rfl rfl 97 (lgRow 255) HB.out (by kernel_rfl) rfl (by kernel_rfl) ?_))
      exact bodyPost_ret (results_cell_row rfl _ _ (w.heap.size + 1) 97 (lgRow 255) (0, 0) _ rfl (HB.out.row _) Try.underlying97 rfl (by kernel_rfl)) rfl ⟨rfl, below_setRow' hb (by omega) _⟩

end Go.Proofs.Ytfbhbjhfebkpfaa
