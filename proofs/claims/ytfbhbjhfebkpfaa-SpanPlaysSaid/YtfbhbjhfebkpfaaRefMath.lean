/- The document's product, bit by bit, is the field's product: plainly. -/
import Derived.Test.YtfbhbjhfebkpfaaGfMath
namespace Go.Proofs.Ytfbhbjhfebkpfaa

/-- The product of two polynomials, of the bits of b below k. -/
def pm (a b : Nat) : Nat → Nat
  | 0 => 0
  | k + 1 => if b / 2 ^ k % 2 = 1 then pm a b k ^^^ a * 2 ^ k else pm a b k
/-- One step of the division: bit i. -/
def rdS (p i : Nat) : Nat := if p / 2 ^ i % 2 = 1 then p ^^^ 283 * 2 ^ (i - 8) else p
/-- k steps, from bit 15 down. -/
def rd (p : Nat) : Nat → Nat
  | 0 => p
  | k + 1 => rdS (rd p k) (15 - k)

theorem bit_eq (p i : Nat) : (p / 2 ^ i % 2 = 1) ↔ p.testBit i = true := by
  rw [Nat.testBit_eq_decide_div_mod_eq]; simp
theorem rdS_xor (p q i : Nat) : rdS (p ^^^ q) i = rdS p i ^^^ rdS q i := by
  unfold rdS
  simp only [bit_eq, Nat.testBit_xor]
  generalize 283 * 2 ^ (i - 8) = m
  cases p.testBit i <;> cases q.testBit i
  · simp
  · simp [Nat.xor_assoc]
  · simp only [Bool.true_bne, Bool.not_false, if_true, Bool.false_eq_true, if_false]
    rw [Nat.xor_assoc, Nat.xor_assoc, Nat.xor_comm q m]
  · simp only [bne_self_eq_false, Bool.false_eq_true, if_false, if_true]
    rw [Nat.xor_assoc p m, ← Nat.xor_assoc m q m, Nat.xor_comm m q, Nat.xor_assoc q m m, Nat.xor_self, Nat.xor_zero]
theorem rd_xor (p q k : Nat) : rd (p ^^^ q) k = rd p k ^^^ rd q k := by
  induction k with
  | zero => rfl
  | succ k ih => simp only [rd, ih, rdS_xor]
theorem rd_zero (k : Nat) : rd 0 k = 0 := by
  induction k with
  | zero => rfl
  | succ k ih => rw [rd, ih]; simp [rdS]

def xtI (a : Nat) : Nat → Nat | 0 => a | k + 1 => xt (xtI a k)
def tabR : Bool := (List.range 8).all fun i => (List.range 256).all fun a => rd (a * 2 ^ i) 8 == xtI a i
theorem tabR_ok : tabR = true := by decide +kernel
theorem rd_shift {a i : Nat} (ha : a < 256) (hi : i < 8) : rd (a * 2 ^ i) 8 = xtI a i := by
  have h1 := List.all_eq_true.1 tabR_ok i (List.mem_range.2 hi)
  have h2 := List.all_eq_true.1 h1 a (List.mem_range.2 ha)
  simpa using h2

theorem fm_three {a : Nat} (ha : a < 256) : fm a 3 = m3 a := by
  by_cases h0 : a = 0
  · subst h0; rfl
  · obtain ⟨i, _, rfl⟩ := ex_of h0 ha
    exact fm_ex i 1
theorem fm_two {a : Nat} (ha : a < 256) : fm a 2 = xt a := by
  have h1 : fm a 2 = fm a (3 ^^^ 1) := rfl
  rw [h1, fm_xor ha (by decide) (by decide), fm_three ha, fm_one a ha]
  unfold m3
  rw [Nat.xor_comm a (xt a), Nat.xor_assoc, Nat.xor_self, Nat.xor_zero]
theorem pow_lt {i : Nat} (hi : i < 8) : 2 ^ i < 256 := Nat.pow_lt_pow_right (by decide) hi
theorem xtI_fm {a : Nat} (ha : a < 256) (i : Nat) (hi : i < 8) : xtI a i = fm a (2 ^ i) := by
  induction i with
  | zero => exact (fm_one a ha).symm
  | succ i ih =>
    rw [xtI, ih (by omega), ← fm_two (fm_bd _ _), fm_assoc _ _ _ ha (pow_lt (by omega)) (by decide), fm_two (pow_lt (by omega))]
    congr 1
    unfold xt
    have h1 : 2 ^ (i + 1) < 256 := pow_lt hi
    rw [Nat.pow_succ] at h1 ⊢
    rw [if_neg (by omega), Nat.mul_comm]

theorem mod_succ (b k : Nat) : b % 2 ^ (k + 1) = if b / 2 ^ k % 2 = 1 then (b % 2 ^ k) ^^^ 2 ^ k else b % 2 ^ k := by
  apply Nat.eq_of_testBit_eq
  intro i
  rw [Nat.testBit_mod_two_pow]
  by_cases hb : b / 2 ^ k % 2 = 1
  · rw [if_pos hb, Nat.testBit_xor, Nat.testBit_mod_two_pow, Nat.testBit_two_pow]
    have hb' := (bit_eq b k).1 hb
    by_cases h1 : i < k
    · simp [h1, show i < k + 1 by omega, show k ≠ i by omega]
    · by_cases h2 : i = k
      · subst h2; simp [hb']
      · simp [h1, show ¬ i < k + 1 by omega, show k ≠ i by omega]
  · rw [if_neg hb, Nat.testBit_mod_two_pow]
    have hb' : b.testBit k = false := by
      cases h : b.testBit k
      · rfl
      · exact absurd ((bit_eq b k).2 h) hb
    by_cases h1 : i < k
    · simp [h1, show i < k + 1 by omega]
    · by_cases h2 : i = k
      · subst h2; simp [hb']
      · simp [h1, show ¬ i < k + 1 by omega]

theorem rd_pm {a b : Nat} (ha : a < 256) (k : Nat) (hk : k ≤ 8) : rd (pm a b k) 8 = fm a (b % 2 ^ k) := by
  induction k with
  | zero => rw [pm, rd_zero, Nat.pow_zero, Nat.mod_one, fm_zero_right]
  | succ k ih =>
    have hl : b % 2 ^ k < 256 := Nat.lt_trans (Nat.mod_lt _ (Nat.two_pow_pos k)) (pow_lt (by omega))
    rw [pm, mod_succ]
    split
    · rw [rd_xor, ih (by omega), rd_shift ha (by omega), xtI_fm ha k (by omega), ← fm_xor ha hl (pow_lt (by omega))]
    · exact ih (by omega)
theorem rd_all {a b : Nat} (ha : a < 256) (hb : b < 256) : rd (pm a b 8) 8 = fm a b := by
  rw [rd_pm ha 8 (Nat.le_refl _), Nat.mod_eq_of_lt hb]

theorem pm_lt {a b : Nat} (ha : a < 256) (k : Nat) (hk : k ≤ 8) : pm a b k < 65536 := by
  induction k with
  | zero => simp [pm]
  | succ k ih =>
    rw [pm]
    split
    · refine Nat.xor_lt_two_pow (n := 16) (ih (by omega)) ?_
      have h1 : 2 ^ k < 256 := pow_lt (by omega)
      have h2 : a * 2 ^ k < 256 * 256 := Nat.mul_lt_mul'' ha h1
      omega
    · exact ih (by omega)
theorem rdS_lt {p i : Nat} (hp : p < 65536) (hi : i ≤ 15) : rdS p i < 65536 := by
  unfold rdS
  split
  · refine Nat.xor_lt_two_pow (n := 16) hp ?_
    have h1 : 2 ^ (i - 8) ≤ 2 ^ 7 := Nat.pow_le_pow_right (by decide) (by omega)
    omega
  · exact hp
theorem rd_lt {p : Nat} (hp : p < 65536) (k : Nat) (hk : k ≤ 8) : rd p k < 65536 := by
  induction k with
  | zero => exact hp
  | succ k ih => exact rdS_lt (ih (by omega)) (by omega)
end Go.Proofs.Ytfbhbjhfebkpfaa
