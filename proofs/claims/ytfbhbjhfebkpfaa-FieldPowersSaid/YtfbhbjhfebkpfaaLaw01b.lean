/- The walk of wellspringlaw01.FieldPowers. -/
import Derived.Test.YtfbhbjhfebkpfaaLaw01a
import Derived.Test.YtfbhbjhfebkpfaaKeep
namespace Go.Proofs.Ytfbhbjhfebkpfaa
open Go.RowKit
set_option linter.unusedVariables false

theorem exI_nat (n : Nat) : exI (n : Int) = ex n := by
  unfold exI
  rw [ex_mod n]
  congr 1
theorem fm_exI (a b : Int) : fm (exI a) (exI b) = exI (a + b) := by
  unfold exI
  rw [fm_ex, ex_mod]
  refine congrArg ex ?_
  have h1 := Int.emod_nonneg a (show (255 : Int) ≠ 0 by omega)
  have h2 := Int.emod_nonneg b (show (255 : Int) ≠ 0 by omega)
  omega
theorem exI_neg (a : Int) : fm (exI a) (exI (-a)) = 1 := by
  rw [fm_exI, show a + -a = ((0 : Nat) : Int) by omega, exI_nat]; rfl
theorem exI_255 (a : Int) : exI (a + 255) = exI a := by
  unfold exI
  congr 2
  omega
theorem exI_bd (a : Int) : 0 < exI a ∧ exI a < 256 := ex_bd _
theorem exI_0 : exI 0 = 1 := rfl
theorem exI_1 : exI 1 = 3 := by decide +kernel

/-- Which bytes were had. -/
def hadRow (k : Nat) : Array Value := ((List.range 256).map fun a => Value.bool (decide (a ≠ 0 ∧ lg a < k))).toArray
theorem hadRow_size (k : Nat) : (hadRow k).size = 256 := by simp [hadRow]
theorem hadRow_zero : hadRow 0 = Try.zeroCells33 := by kernel_rfl
theorem hadRow_get (k i : Nat) (h : i < 256) : (hadRow k)[i]? = some (Value.bool (decide (i ≠ 0 ∧ lg i < k))) := by
  simp [hadRow, h]
theorem hadRow_set (k : Nat) (h : k < 255) : (hadRow k).setIfInBounds (ex k) (.bool true) = hadRow (k + 1) := by
  have hx := ex_bd' h
  have hl := lg_ex h
  apply Array.ext_getElem?
  intro i
  rw [Array.getElem?_setIfInBounds]
  by_cases hi : i < 256
  · rw [hadRow_get _ _ hi, hadRow_get _ _ hi]
    by_cases hk : ex k = i
    · subst hk
      rw [if_pos rfl, if_pos (by rw [hadRow_size]; exact hi), decide_eq_true ⟨by omega, by omega⟩]
    · rw [if_neg hk]
      have : (i ≠ 0 ∧ lg i < k + 1) ↔ (i ≠ 0 ∧ lg i < k) := by
        constructor
        · rintro ⟨h1, h2⟩
          refine ⟨h1, ?_⟩
          rcases Nat.lt_or_ge (lg i) k with h3 | h3
          · exact h3
          · have : lg i = k := by omega
            exact absurd (by rw [← this]; exact ex_lg (by omega) hi) hk
        · rintro ⟨h1, h2⟩; exact ⟨h1, by omega⟩
      simp only [this]
  · rw [if_neg (by omega), Array.getElem?_eq_none (by rw [hadRow_size]; omega), Array.getElem?_eq_none (by rw [hadRow_size]; omega)]

/-- What is known of the world in which the loop begins. -/
def HadStart (w0 w1 : World) (g : Nat) (k : Nat) (wr : World) : Prop :=
  Fld wr g ∧ g < w1.heap.size ∧ Blk wr w1.heap.size 33 (hadRow k) ∧ Below w0.heap.size w0 wr
theorem had_start {w0 w1 : World} {g : Nat} (n : Nat) (hF : Fld w1 g) (hb : Below w0.heap.size w0 w1) : HadStart w0 w1 g 0 ((w1.drewN n).alloc (Obj.cells Try.zeroCells33 33)) := by
  rw [← hadRow_zero]
  exact ⟨Blk.alloc (hF.drewN n) _, hF.lt, Blk.new (w1.drewN n) _ _, (below_drewN hb n).alloc hb.size _⟩
theorem HadStart.drewN {w0 w1 wr : World} {g k : Nat} (h : HadStart w0 w1 g k wr) (n : Nat) : HadStart w0 w1 g k (wr.drewN n) :=
  ⟨h.1.drewN n, h.2.1, h.2.2.1.drewN n, below_drewN h.2.2.2 n⟩
theorem HadStart.set {w0 w1 wr : World} {g k : Nat} (h : HadStart w0 w1 g k wr) (hk : k < 255) (hw : w0.heap.size ≤ w1.heap.size) : HadStart w0 w1 g (k + 1) (wr.setCell ⟨w1.heap.size, ex k, none⟩ (.bool true)) := by
  refine ⟨Blk.far h.1 (show g ≠ w1.heap.size by have := h.2.1; omega) _, h.2.1, ?_, h.2.2.2.setCell hw _⟩
  have := h.2.2.1.set (ex k) (.bool true)
  rw [hadRow_set k hk] at this
  exact this

set_option maxRecDepth 100000 in
set_option maxHeartbeats 4000000 in
theorem fieldPowers_walk (w : World) (m : Int) (hm : -9223372036854775808 ≤ m ∧ m ≤ 9223372036854775807) (n : Int) (hn : -9223372036854775808 ≤ n ∧ n ≤ 9223372036854775807) :
    Calls Try.prog 6 #[.int .i64 m, .int .i64 n] w fun e w' => e = .returned (.bool true) ∧ Below w.heap.size w w' := by
  go_enter Try.func6, Try.ntmps6
  go_wp2_with fail
  refine (gf_new _).mono ?_
  rintro e w1 ⟨g, rfl, hg, hF, hb1⟩
  have HF := Lib.hid hF
  have HB := Lib.hid hb1
  clear hF hb1
  go_wp2_with fail
  refine (keep_within m 100000 _ hm (by omega) (by omega)).mono ?_
  rintro e w2 ⟨rfl, rfl⟩
  have m1 := Int.emod_nonneg m (show (100000 : Int) ≠ 0 by omega)
  have m2 := Int.emod_lt_of_pos m (show (0 : Int) < 100000 by omega)
  generalize m % 100000 = a0 at *
  go_wp2_with fail
  refine (keep_within n 100000 _ hn (by omega) (by omega)).mono ?_
  rintro e w2 ⟨rfl, rfl⟩
  have n1 := Int.emod_nonneg n (show (100000 : Int) ≠ 0 by omega)
  have n2 := Int.emod_lt_of_pos n (show (0 : Int) < 100000 by omega)
  generalize n % 100000 = b0 at *
  obtain ⟨a, ha, ha1, ha2⟩ : ∃ a, a0 - 50000 = a ∧ -50000 ≤ a ∧ a < 50000 := ⟨_, rfl, by omega, by omega⟩
  obtain ⟨b, hb, hb1, hb2⟩ : ∃ b, b0 - 50000 = b ∧ -50000 ≤ b ∧ b < 50000 := ⟨_, rfl, by omega, by omega⟩
  have q1 := exI_bd a
  have q2 := exI_bd b
  have q3 := exI_bd (-a)
  have q4 := exI_bd (a + b)
  have q5 := exI_bd (a + 255)
  have e1 := fm_exI a b
  have e2 := exI_neg a
  have e3 := exI_255 a
  have e4 := exI_0
  have e5 := exI_1
  go_wp2_with (first
    | (go_at_call 31; (with_reducible refine (gf_exp g _ ?_ _ ?_).mono ?_); (omega); (exact HF.out); rintro e w' ⟨rfl, j, rfl⟩)
    | (go_at_call 26; (with_reducible refine (gf_mulI g _ _ _ ?_ ?_ ?_).mono ?_); (omega); (omega); (exact HF.out); rintro e w' ⟨rfl, j, rfl⟩))
  have HS := Lib.hid (fun n => had_start (w0 := w) n HF.out HB.out)
  have HZ : w.heap.size ≤ w1.heap.size := HB.out.size
  clear e1 e2 e3 e4 e5 HF HB
  go_loopw [9] (fun i wr => ∃ k : Nat, k ≤ 255 ∧ i = .int .i64 k ∧ Hid (HadStart w w1 g k wr)) (fun i _ => 255 - (intOf i).toNat)
  case atStart => exact ⟨0, by omega, rfl, HS.out _⟩
  case round =>
    clear HS
    obtain ⟨k, hk, rfl, HS⟩ := hrel
    by_cases hlt : k < 255
    · have hx := ex_bd' hlt
      have hI := exI_nat k
      have hl := lg_ex hlt
      have hx0 : ((ex k : Nat) : Int) ≠ 0 := by omega
      go_wp2_with fail
      refine (gf_exp g (k : Int) (by omega) _ HS.out.1).mono ?_
      rintro e w2 ⟨rfl, j, rfl⟩
      rw [hI]
      have HS2 := Lib.hid (HS.out.drewN j)
      generalize wr.drewN j = w2 at *
      clear hI HS
      go_wp2_with fail
      refine (gf_log g (ex k) hx.2 _ HS2.out.1).mono ?_
      rintro e w3 ⟨rfl, j2, rfl⟩
      rw [if_neg (by omega), decide_eq_true (by omega), hl]
      have HS3 := Lib.hid (HS2.out.drewN j2)
      generalize w2.drewN j2 = w3 at *
      clear HS2
      have hset := HS3.out.set hlt HZ
      have hc := (HS3.out.2.2.1.cell (ex k)).trans (hadRow_get k (ex k) hx.2)
      rw [hl, decide_eq_false (by omega)] at hc
      have hf := HS3.out.2.2.1.frozen (ex k)
      have hxb := hx.2
      have hxz : (((ex k : Nat) : Int) == 0) = false := by simpa using hx0
      clear HS3 hl hx0
      have HSET := Lib.hid hset
      clear hset
      generalize ex k = x at *
      go_wp2_with fail
      go_roundw
      case rel => exact ⟨k + 1, by omega, by go_num, HSET⟩
      case measure => simp [intOf]; omega
    · go_wp2_with fail
      refine (wakes01 _).mono ?_
      rintro e w2 ⟨rfl, hb2⟩
      go_wp2_with fail
      go_ret
      exact ⟨rfl, HS.out.2.2.2.trans (hb2.mono HS.out.2.2.2.size)⟩
end Go.Proofs.Ytfbhbjhfebkpfaa
