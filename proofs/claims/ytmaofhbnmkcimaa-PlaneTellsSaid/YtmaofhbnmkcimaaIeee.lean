/- Doubles that stand for whole numbers: sums, differences, products and comparisons are exact below 2^53. -/
import Derived.Laws.FloatArith
import Derived.Laws.ComplexArith
namespace Go.Proofs.Ytmaofhbnmkcimaa
open Go Ieee

theorem log2_shift (N P : Nat) (h : N ≠ 0) : (N * 2 ^ P).log2 = N.log2 + P := by
  have h1 := (Nat.log2_eq_iff (n := N * 2 ^ P) (k := N.log2 + P) (by have := Nat.pow_pos (n := P) (show 0 < 2 by omega); exact Nat.mul_ne_zero h (by omega))).2
  refine h1 ⟨?_, ?_⟩
  · rw [Nat.pow_add]; exact Nat.mul_le_mul_right _ (Nat.log2_self_le h)
  · rw [show N.log2 + P + 1 = (N.log2 + 1) + P by omega, Nat.pow_add]
    exact Nat.mul_lt_mul_of_pos_right Nat.lt_log2_self (Nat.pow_pos (by omega))

theorem cut_exact (s : Bool) (K d : Nat) (hK : K ≠ 0) : Toward.even.cut s (K * 2 ^ d) d = K := by
  have hl := log2_shift K d hK
  have hp := Nat.pow_pos (n := d) (show 0 < 2 by omega)
  have hg : (1 <<< min d ((K * 2 ^ d).log2 + 2) : Nat) = 2 ^ d := by
    rw [hl, Nat.min_eq_left (by omega), Nat.one_shiftLeft]
  unfold Toward.cut
  simp only [hg, Nat.mul_div_cancel _ hp, Nat.mul_mod_left]
  have h1 : decide (2 ^ d < 2 * 0) = false := decide_eq_false (by omega)
  have h2 : ((2 : Nat) ^ d == 2 * 0) = false := by rw [beq_eq_false_iff_ne]; omega
  rw [h1, h2]
  rfl

theorem read_zero (s : Bool) : double.read (double.word s 0) = .number s 0 (-1074) := by cases s <;> decide +kernel
theorem read_word (s : Bool) (a K : Nat) (ha : a ≤ 1074) (h1 : 4503599627370496 ≤ K) (h2 : K < 9007199254740992) :
    double.read (double.word s (a * 4503599627370496 + K)) = .number s K ((a : Int) - 1074) := by
  have hs : double.signWeight = 9223372036854775808 := by decide
  have hb : double.binade = 4503599627370496 := by decide
  have hi : double.infRung = 9218868437227405312 := by decide
  have hl : double.leastPlace = -1074 := by decide
  have e1 : double.word s (a * 4503599627370496 + K) / 9223372036854775808 % 2 = s.toNat := by
    unfold Format.word; rw [hs]; cases s <;> simp <;> omega
  have e2 : double.word s (a * 4503599627370496 + K) % 9223372036854775808 = a * 4503599627370496 + K := by
    unfold Format.word; rw [hs]; cases s <;> simp <;> omega
  unfold Format.read
  simp only [hs, hb, hi, hl, e1, e2]
  rw [if_neg (by omega), if_pos (by omega)]
  have e3 : (s.toNat == 1) = s := by cases s <;> rfl
  rw [e3, show 4503599627370496 + (a * 4503599627370496 + K) % 4503599627370496 = K by omega, show (a * 4503599627370496 + K) / 4503599627370496 - 1 = a by omega]
  congr 1
  all_goals omega

theorem read_nearest (s : Bool) (N P : Nat) (hN : N < 9007199254740992) :
    ∃ Q : Nat, double.read (double.nearest s (N * 2 ^ P) (-(P : Int))) = .number s (N * 2 ^ Q) (-(Q : Int)) := by
  by_cases h0 : N = 0
  · subst h0
    obtain ⟨Q, hQ⟩ : ∃ Q : Nat, Q = 1074 := ⟨_, rfl⟩
    refine ⟨Q, ?_⟩
    unfold Format.nearest
    rw [if_pos (Nat.zero_mul _), read_zero, Nat.zero_mul, hQ]
    rfl
  · have hp := Nat.pow_pos (n := P) (show 0 < 2 by omega)
    have hl := log2_shift N P h0
    have he : N.log2 ≤ 52 := by
      have := (Nat.log2_lt h0 (k := 53)).2 (by simpa using hN)
      omega
    have hm : N * 2 ^ P ≠ 0 := Nat.mul_ne_zero h0 (by omega)
    refine ⟨52 - N.log2, ?_⟩
    have hlo := Nat.log2_self_le h0
    have hhi := Nat.lt_log2_self (n := N)
    generalize N.log2 = e at *
    obtain ⟨q, hq⟩ : ∃ q, q = 52 - e := ⟨_, rfl⟩
    rw [← hq]
    have hK1 : 4503599627370496 ≤ N * 2 ^ q := by
      have : 2 ^ e * 2 ^ q ≤ N * 2 ^ q := Nat.mul_le_mul_right _ hlo
      rw [← Nat.pow_add, show e + q = 52 by omega] at this
      simpa using this
    have hK2 : N * 2 ^ q < 9007199254740992 := by
      have : N * 2 ^ q < 2 ^ (e + 1) * 2 ^ q := Nat.mul_lt_mul_of_pos_right hhi (Nat.pow_pos (by omega))
      rw [← Nat.pow_add, show e + 1 + q = 53 by omega] at this
      simpa using this
    have hb : double.binade = 4503599627370496 := by decide
    have hi : double.infRung = 9218868437227405312 := by decide
    have hlp : double.leastPlace = -1074 := by decide
    have hf : double.fractionBits = 52 := rfl
    unfold Format.nearest
    rw [if_neg hm]
    simp only [hl, hb, hi, hlp, hf]
    have hlast : max (-(P : Int) + ((e + P : Nat) : Int) - ((52 : Nat) : Int)) (-1074) = -(q : Int) := by omega
    rw [hlast]
    have hkept : Toward.even.cut s ((N * 2 ^ P) <<< (-(P : Int) - -(q : Int)).toNat) (-(q : Int) - -(P : Int)).toNat = N * 2 ^ q := by
      rcases Nat.le_total P q with h | h
      · rw [show (-(P : Int) - -(q : Int)).toNat = q - P by omega, show (-(q : Int) - -(P : Int)).toNat = 0 by omega, Nat.shiftLeft_eq, Nat.mul_assoc, ← Nat.pow_add, show P + (q - P) = q by omega]
        have := cut_exact s (N * 2 ^ q) 0 (by omega)
        simpa using this
      · rw [show (-(P : Int) - -(q : Int)).toNat = 0 by omega, show (-(q : Int) - -(P : Int)).toNat = P - q by omega, Nat.shiftLeft_zero, show N * 2 ^ P = (N * 2 ^ q) * 2 ^ (P - q) by rw [Nat.mul_assoc, ← Nat.pow_add, show q + (P - q) = P by omega]]
        exact cut_exact s (N * 2 ^ q) (P - q) (by omega)
    rw [hkept, show (-(q : Int) - -1074).toNat = 1074 - q by omega, Nat.min_eq_left (by omega), read_word s (1074 - q) _ (by omega) hK1 hK2]
    congr 1
    omega

/-- The double b stands for the whole number n. -/
def Fz (b : Nat) (n : Int) : Prop := ∃ (s : Bool) (N P : Nat), double.read b = .number s (N * 2 ^ P) (-(P : Int)) ∧ n = if s then -(N : Int) else N

theorem fz_write {s : Bool} {N P : Nat} (hN : N < 9007199254740992) : Fz (double.write (.number s (N * 2 ^ P) (-(P : Int)))) (if s then -(N : Int) else N) := by
  obtain ⟨Q, hQ⟩ := read_nearest s N P hN
  exact ⟨s, N, Q, hQ, rfl⟩
theorem fz_ofInt (n : Int) (h : n.natAbs < 9007199254740992) : Fz (floatOfInt .f64 n) n := by
  have h1 := fz_write (s := decide (n < 0)) (P := 0) h
  have e : (if (decide (n < 0)) = true then -((n.natAbs : Nat) : Int) else (n.natAbs : Int)) = n := by
    by_cases hn : n < 0
    · rw [if_pos (by simpa using hn)]; omega
    · rw [if_neg (by simpa using hn)]; omega
  rw [e] at h1
  rw [Nat.pow_zero, Nat.mul_one] at h1
  exact h1

theorem signed_eq (s : Bool) (N P M : Nat) (h : P ≤ M) : signed s (N * 2 ^ P) (M - P) = (if s then -(N : Int) else N) * 2 ^ M := by
  have e : (N * 2 ^ P) <<< (M - P) = N * 2 ^ M := by rw [Nat.shiftLeft_eq, Nat.mul_assoc, ← Nat.pow_add, show P + (M - P) = M by omega]
  unfold signed
  rw [e]
  cases s <;> simp [Int.neg_mul]
theorem natAbs_pow (n : Int) (M : Nat) : (n * 2 ^ M).natAbs = n.natAbs * 2 ^ M := by
  rw [Int.natAbs_mul, Int.natAbs_pow]; rfl
theorem pow_ne (M : Nat) : (2 : Int) ^ M ≠ 0 := by
  have : 0 < (2 : Int) ^ M := Int.pow_pos (by omega)
  omega
theorem sum_write {s t : Bool} {N P L Q : Nat} {a b : Int} (ha : a = if s then -(N : Int) else N) (hb : b = if t then -(L : Int) else L) (h : (a + b).natAbs < 9007199254740992) :
    ∃ r, (((Datum.number s (N * 2 ^ P) (-(P : Int))).sum (.number t (L * 2 ^ Q) (-(Q : Int)))).map double.write) = some r ∧ Fz r (a + b) := by
  obtain ⟨M, hM⟩ : ∃ M, M = max P Q := ⟨_, rfl⟩
  have hbase : min (-(P : Int)) (-(Q : Int)) = -(M : Int) := by omega
  have htot : signed s (N * 2 ^ P) (-(P : Int) - -(M : Int)).toNat + signed t (L * 2 ^ Q) (-(Q : Int) - -(M : Int)).toNat = (a + b) * 2 ^ M := by
    rw [show (-(P : Int) - -(M : Int)).toNat = M - P by omega, show (-(Q : Int) - -(M : Int)).toNat = M - Q by omega, signed_eq s N P M (by omega), signed_eq t L Q M (by omega), ← ha, ← hb, Int.add_mul]
  unfold Datum.sum
  simp only [hbase, htot, natAbs_pow, Option.map_some]
  refine ⟨_, rfl, ?_⟩
  have hw := fun z => fz_write (s := z) (P := M) h
  have h2 : 0 < (2 : Int) ^ M := Int.pow_pos (by omega)
  by_cases h0 : a + b = 0
  · have := hw (if (a + b) * 2 ^ M = 0 then s && t else decide ((a + b) * 2 ^ M < 0))
    have e : (if (if (a + b) * 2 ^ M = 0 then s && t else decide ((a + b) * 2 ^ M < 0)) = true then -(((a + b).natAbs : Nat) : Int) else ((a + b).natAbs : Int)) = a + b := by
      rw [h0]; simp
    rw [e] at this
    exact this
  · have hne : (a + b) * 2 ^ M ≠ 0 := Int.mul_ne_zero h0 (pow_ne M)
    rw [if_neg hne]
    have := hw (decide ((a + b) * 2 ^ M < 0))
    have hs : (a + b) * 2 ^ M < 0 ↔ a + b < 0 := by
      constructor
      · intro hlt
        rcases Int.lt_or_le (a + b) 0 with hh | hh
        · exact hh
        · have := Int.mul_nonneg hh (Int.le_of_lt h2); omega
      · intro hlt
        exact Int.mul_neg_of_neg_of_pos hlt h2
    have e : (if decide ((a + b) * 2 ^ M < 0) = true then -(((a + b).natAbs : Nat) : Int) else ((a + b).natAbs : Int)) = a + b := by
      by_cases hlt : a + b < 0
      · rw [if_pos (decide_eq_true (hs.2 hlt))]; omega
      · rw [if_neg (by rw [decide_eq_true_eq]; exact fun hh => hlt (hs.1 hh))]; omega
    rw [e] at this
    exact this
theorem fz_add {x y : Nat} {a b : Int} (hx : Fz x a) (hy : Fz y b) (h : (a + b).natAbs < 9007199254740992) : ∃ r, floatBits .add .f64 x y = some r ∧ Fz r (a + b) := by
  obtain ⟨s, N, P, h1, ha⟩ := hx
  obtain ⟨t, L, Q, h2, hb⟩ := hy
  show ∃ r, ((double.read x).sum (double.read y)).map double.write = some r ∧ _
  rw [h1, h2]
  exact sum_write ha hb h
theorem fz_sub {x y : Nat} {a b : Int} (hx : Fz x a) (hy : Fz y b) (h : (a - b).natAbs < 9007199254740992) : ∃ r, floatBits .sub .f64 x y = some r ∧ Fz r (a - b) := by
  obtain ⟨s, N, P, h1, ha⟩ := hx
  obtain ⟨t, L, Q, h2, hb⟩ := hy
  show ∃ r, ((double.read x).sum (double.read y).opposite).map double.write = some r ∧ _
  rw [h1, h2]
  rw [Int.sub_eq_add_neg] at h ⊢
  exact sum_write (t := !t) ha (by rw [hb]; cases t <;> simp) h
theorem fz_mul {x y : Nat} {a b : Int} (hx : Fz x a) (hy : Fz y b) (h : (a * b).natAbs < 9007199254740992) : ∃ r, floatBits .mul .f64 x y = some r ∧ Fz r (a * b) := by
  obtain ⟨s, N, P, h1, ha⟩ := hx
  obtain ⟨t, L, Q, h2, hb⟩ := hy
  show ∃ r, ((double.read x).product (double.read y)).map double.write = some r ∧ _
  rw [h1, h2]
  unfold Datum.product
  simp only [Option.map_some]
  refine ⟨_, rfl, ?_⟩
  have e1 : N * 2 ^ P * (L * 2 ^ Q) = (N * L) * 2 ^ (P + Q) := by rw [Nat.pow_add, Nat.mul_mul_mul_comm]
  have e2 : -(P : Int) + -(Q : Int) = -((P + Q : Nat) : Int) := by omega
  have hNL : N * L < 9007199254740992 := by
    have : (a * b).natAbs = N * L := by
      rw [Int.natAbs_mul, ha, hb]
      cases s <;> cases t <;> simp
    omega
  rw [e1, e2]
  have := fz_write (s := s ^^ t) (P := P + Q) hNL
  have e3 : (if (s ^^ t) = true then -((N * L : Nat) : Int) else ((N * L : Nat) : Int)) = a * b := by
    rw [ha, hb]
    cases s <;> cases t <;> simp [Int.neg_mul, Int.mul_neg]
  rw [e3] at this
  exact this
theorem fz_order {x y : Nat} {a b : Int} (hx : Fz x a) (hy : Fz y b) : FloatKind.f64.format.order x y = some (compare a b) := by
  obtain ⟨s, N, P, h1, ha⟩ := hx
  obtain ⟨t, L, Q, h2, hb⟩ := hy
  show (double.read x).order (double.read y) = _
  rw [h1, h2]
  obtain ⟨M, hM⟩ : ∃ M, M = max P Q := ⟨_, rfl⟩
  have hbase : min (-(P : Int)) (-(Q : Int)) = -(M : Int) := by omega
  unfold Datum.order
  simp only [hbase]
  rw [show (-(P : Int) - -(M : Int)).toNat = M - P by omega, show (-(Q : Int) - -(M : Int)).toNat = M - Q by omega, signed_eq s N P M (by omega), signed_eq t L Q M (by omega), ← ha, ← hb]
  have h2 : 0 < (2 : Int) ^ M := Int.pow_pos (by omega)
  congr 1
  rcases Int.lt_trichotomy a b with h | h | h
  · rw [Int.compare_eq_lt.2 h, Int.compare_eq_lt.2 (Int.mul_lt_mul_of_pos_right h h2)]
  · subst h; rw [Int.compare_eq_eq.2 rfl, Int.compare_eq_eq.2 rfl]
  · rw [Int.compare_eq_gt.2 h, Int.compare_eq_gt.2 (Int.mul_lt_mul_of_pos_right h h2)]
theorem fz_eq {x y : Nat} {a b : Int} (hx : Fz x a) (hy : Fz y b) : (FloatKind.f64.format.order x y == some .eq) = decide (a = b) := by
  rw [fz_order hx hy]
  rcases Int.lt_trichotomy a b with h | h | h
  · rw [Int.compare_eq_lt.2 h, decide_eq_false (by omega)]; rfl
  · rw [Int.compare_eq_eq.2 h, decide_eq_true h]; rfl
  · rw [Int.compare_eq_gt.2 h, decide_eq_false (by omega)]; rfl

theorem fz_zero : Fz 0 0 := by
  obtain ⟨Q, hQ⟩ : ∃ Q : Nat, Q = 1074 := ⟨_, rfl⟩
  refine ⟨false, 0, Q, ?_, rfl⟩
  rw [Nat.zero_mul, hQ]
  exact read_zero false
theorem fz_one : Fz 4607182418800017408 1 := ⟨false, 1, 52, by decide +kernel, rfl⟩
/-- A complex number's parts. -/
def Cz (r i : Nat) (x y : Int) : Prop := Fz r x ∧ Fz i y
theorem cz_add {a b c d : Nat} {x y u v : Int} (h1 : Cz a b x y) (h2 : Cz c d u v) (hx : (x + u).natAbs < 9007199254740992) (hy : (y + v).natAbs < 9007199254740992) :
    ∃ r i, cSumBits .add .f64 a b c d = some (r, i) ∧ Cz r i (x + u) (y + v) := by
  obtain ⟨r, e1, f1⟩ := fz_add h1.1 h2.1 hx
  obtain ⟨i, e2, f2⟩ := fz_add h1.2 h2.2 hy
  exact ⟨r, i, by unfold cSumBits; rw [e1, e2]; rfl, f1, f2⟩
theorem cz_sub {a b c d : Nat} {x y u v : Int} (h1 : Cz a b x y) (h2 : Cz c d u v) (hx : (x - u).natAbs < 9007199254740992) (hy : (y - v).natAbs < 9007199254740992) :
    ∃ r i, cSumBits .sub .f64 a b c d = some (r, i) ∧ Cz r i (x - u) (y - v) := by
  obtain ⟨r, e1, f1⟩ := fz_sub h1.1 h2.1 hx
  obtain ⟨i, e2, f2⟩ := fz_sub h1.2 h2.2 hy
  exact ⟨r, i, by unfold cSumBits; rw [e1, e2]; rfl, f1, f2⟩
/-- Times i. -/
theorem cz_turn {a b : Nat} {x y : Int} (h : Cz a b x y) (hx : x.natAbs < 9007199254740992) (hy : y.natAbs < 9007199254740992) :
    ∃ r i, cMulBits a b 0 4607182418800017408 = some (r, i) ∧ Cz r i (-y) x := by
  obtain ⟨ac, e1, f1⟩ := fz_mul h.1 fz_zero (by omega)
  obtain ⟨bd, e2, f2⟩ := fz_mul h.2 fz_one (by omega)
  obtain ⟨re, e3, f3⟩ := fz_sub f1 f2 (by omega)
  obtain ⟨ad, e4, f4⟩ := fz_mul h.1 fz_one (by omega)
  obtain ⟨bc, e5, f5⟩ := fz_mul h.2 fz_zero (by omega)
  obtain ⟨im, e6, f6⟩ := fz_add f4 f5 (by omega)
  refine ⟨re, im, ?_, ?_, ?_⟩
  · unfold cMulBits
    rw [e1, e2, Option.bind_some, Option.bind_some, e3, Option.bind_some, e4, e5, Option.bind_some, Option.bind_some, e6]
    rfl
  · rw [show x * 0 - y * 1 = -y by omega] at f3; exact f3
  · rw [show x * 1 + y * 0 = x by omega] at f6; exact f6
theorem cz_eq {a b c d : Nat} {x y u v : Int} (h1 : Cz a b x y) (h2 : Cz c d u v) :
    ((FloatKind.f64.format.order a c == some .eq) && (FloatKind.f64.format.order b d == some .eq)) = decide (x = u ∧ y = v) := by
  rw [fz_eq h1.1 h2.1, fz_eq h1.2 h2.2, Bool.decide_and]
end Go.Proofs.Ytmaofhbnmkcimaa
