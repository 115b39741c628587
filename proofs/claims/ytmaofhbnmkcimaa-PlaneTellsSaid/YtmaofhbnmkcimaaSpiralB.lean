/- The spiral, plainly: the places near 0 are met, each once. -/
import Derived.Test.YtmaofhbnmkcimaaSpiral
namespace Go.Proofs.Ytmaofhbnmkcimaa
set_option linter.unusedVariables false

theorem sq_step (r : Nat) (h : 0 < r) : (2 * r + 1) * (2 * r + 1) = (2 * r - 1) * (2 * r - 1) + 8 * r := by
  obtain ⟨q, rfl⟩ : ∃ q, r = q + 1 := ⟨r - 1, by omega⟩
  rw [show 2 * (q + 1) - 1 = 2 * q + 1 by omega]
  simp only [Nat.mul_add, Nat.add_mul]
  omega
theorem sq_mono {a b : Nat} (h : a ≤ b) : (2 * a + 1) * (2 * a + 1) ≤ (2 * b + 1) * (2 * b + 1) := Nat.mul_le_mul (by omega) (by omega)
theorem sq_31 {a : Nat} (h : a ≤ 31) : (2 * a + 1) * (2 * a + 1) ≤ 3969 := sq_mono h
theorem corner {r : Nat} (h : r ≤ 31) : (Sp.it ((2 * r + 1) * (2 * r + 1) - 1)).x = r ∧ (Sp.it ((2 * r + 1) * (2 * r + 1) - 1)).y = -(r : Int) := by
  rcases Nat.eq_zero_or_pos r with h0 | h0
  · subst h0; decide
  · have h2 := sq_step r h0
    have h3 := sq_31 h
    have := it_ring (j := 8 * r - 1) h0 (by omega) (by omega)
    rw [show (2 * r - 1) * (2 * r - 1) + (8 * r - 1) = (2 * r + 1) * (2 * r + 1) - 1 by omega] at this
    have e : ringXY r (8 * r - 1) = ((r : Int), -(r : Int)) := by
      unfold ringXY
      rw [if_neg (by omega), if_neg (by omega), if_neg (by omega)]
      congr 1
      omega
    rw [e] at this
    exact ⟨congrArg Prod.fst this, congrArg Prod.snd this⟩
theorem near_it {x y : Int} {R : Nat} (hR : R ≤ 31) (hx : x.natAbs ≤ R) (hy : y.natAbs ≤ R) : ∃ k, k < (2 * R + 1) * (2 * R + 1) ∧ (Sp.it k).x = x ∧ (Sp.it k).y = y := by
  obtain ⟨r, hr, hrR, hx1, hy1⟩ : ∃ r : Nat, (r = x.natAbs ∨ r = y.natAbs) ∧ r ≤ R ∧ x.natAbs ≤ r ∧ y.natAbs ≤ r := ⟨max x.natAbs y.natAbs, by omega, by omega, by omega, by omega⟩
  have hm := sq_mono hrR
  have h31 := sq_31 (a := r) (by omega)
  rcases Nat.eq_zero_or_pos r with h0 | h0
  · subst h0
    exact ⟨0, by omega, by have : x = 0 := by omega
                           subst this; rfl, by have : y = 0 := by omega
                                               subst this; rfl⟩
  · have h2 := sq_step r h0
    obtain ⟨j, hj, e⟩ : ∃ j, j < 8 * r ∧ ringXY r j = (x, y) := by
      by_cases c1 : x = r ∧ y ≠ -(r : Int)
      · refine ⟨(y + (r - 1)).toNat, by omega, ?_⟩
        unfold ringXY
        rw [if_pos (by omega)]
        congr 1
        · omega
        · omega
      · by_cases c2 : y = r
        · refine ⟨2 * r - 1 + (r - x).toNat, by omega, ?_⟩
          unfold ringXY
          rw [if_neg (by omega), if_pos (by omega)]
          congr 1
          · omega
          · omega
        · by_cases c3 : x = -(r : Int)
          · refine ⟨4 * r - 1 + (r - y).toNat, by omega, ?_⟩
            unfold ringXY
            rw [if_neg (by omega), if_neg (by omega), if_pos (by omega)]
            congr 1
            · omega
            · omega
          · refine ⟨6 * r - 1 + (x + r).toNat, by omega, ?_⟩
            unfold ringXY
            rw [if_neg (by omega), if_neg (by omega), if_neg (by omega)]
            congr 1
            · omega
            · omega
    have := it_ring h0 hj (by omega)
    rw [e] at this
    exact ⟨_, by omega, congrArg Prod.fst this, congrArg Prod.snd this⟩

def spF (x y : Int) (k : Nat) : Bool := decide ((Sp.it k).x = x ∧ (Sp.it k).y = y)
theorem spF_inj {x y : Int} {k j : Nat} (hk : k < 4096) (hj : j < 4096) (h1 : spF x y k = true) (h2 : spF x y j = true) : k = j := by
  have e1 := of_decide_eq_true h1
  have e2 := of_decide_eq_true h2
  have i1 := idx_it hk
  have i2 := idx_it hj
  rw [e1.1, e1.2] at i1
  rw [e2.1, e2.2] at i2
  omega
theorem fstK_some {f : Nat → Bool} : ∀ (j k m : Nat), fstK f k j = some m → f m = true ∧ k ≤ m ∧ m < k + j := by
  intro j
  induction j with
  | zero => intro k m h; simp [fstK] at h
  | succ j ih =>
    intro k m h
    rw [fstK] at h
    split at h
    · rename_i hf
      obtain rfl : k = m := by simpa using h
      exact ⟨hf, by omega, by omega⟩
    · have := ih (k + 1) m h
      exact ⟨this.1, by omega, by omega⟩
theorem fstK_none {f : Nat → Bool} : ∀ (j k m : Nat), fstK f k j = none → k ≤ m → m < k + j → f m = false := by
  intro j
  induction j with
  | zero => intro k m h; omega
  | succ j ih =>
    intro k m h h1 h2
    rw [fstK] at h
    split at h
    · simp at h
    · rename_i hf
      by_cases hm : m = k
      · subst hm; simpa using hf
      · exact ih (k + 1) m h (by omega) (by omega)
theorem fst_spF {x y : Int} {k : Nat} (hk : k < 4096) (h : spF x y k = true) : fstK (spF x y) 0 4096 = some k := by
  cases hf : fstK (spF x y) 0 4096 with
  | none => rw [fstK_none _ _ k hf (by omega) (by omega)] at h; simp at h
  | some m =>
    have := fstK_some _ _ _ hf
    rw [spF_inj hk (by omega) h this.1]
/-- What Spot answers for a whole place. -/
theorem spot_found {x y : Int} {k : Nat} (hk : k < 4096) (h1 : (Sp.it k).x = x) (h2 : (Sp.it k).y = y) : spotV (spF x y) = .tuple #[.int .i64 k, .bool true] := by
  unfold spotV
  rw [fst_spF hk (decide_eq_true ⟨h1, h2⟩)]
theorem spot_cases (x y : Int) : (∃ k, k < 4096 ∧ (Sp.it k).x = x ∧ (Sp.it k).y = y ∧ spotV (spF x y) = .tuple #[.int .i64 k, .bool true]) ∨ ((∀ k, k < 4096 → ¬ ((Sp.it k).x = x ∧ (Sp.it k).y = y)) ∧ spotV (spF x y) = .tuple #[.int .i64 0, .bool false]) := by
  cases hf : fstK (spF x y) 0 4096 with
  | none => exact .inr ⟨fun k hk => of_decide_eq_false (fstK_none _ _ k hf (by omega) (by omega)), by unfold spotV; rw [hf]⟩
  | some m =>
    have := fstK_some _ _ _ hf
    have h2 := of_decide_eq_true this.1
    exact .inl ⟨m, by omega, h2.1, h2.2, by unfold spotV; rw [hf]⟩
def chk32 : Nat → Sp → Bool | 0, _ => true | n + 1, s => decide (s.x.natAbs ≤ 32 ∧ s.y.natAbs ≤ 32) && chk32 n s.on
theorem chk32_ok : chk32 4096 Sp.start = true := by decide +kernel
theorem chk32_it (n : Nat) : ∀ (j k : Nat), k < n → chk32 n (Sp.it j) = true → (Sp.it (j + k)).x.natAbs ≤ 32 ∧ (Sp.it (j + k)).y.natAbs ≤ 32 := by
  induction n with
  | zero => intro j k hk; omega
  | succ n ih =>
    intro j k hk h
    rw [chk32, Bool.and_eq_true] at h
    cases k with
    | zero => exact of_decide_eq_true h.1
    | succ k =>
      have := ih (j + 1) k (by omega) h.2
      rwa [show j + 1 + k = j + (k + 1) by omega] at this
theorem it_32 {k : Nat} (h : k < 4096) : (Sp.it k).x.natAbs ≤ 32 ∧ (Sp.it k).y.natAbs ≤ 32 := by
  have := chk32_it 4096 0 k h chk32_ok
  rwa [Nat.zero_add] at this
theorem atN_nat {k : Nat} (h : k < 4096) : atN (k : Int) = ((Sp.it k).x, (Sp.it k).y) := by
  unfold atN
  rw [if_pos (by omega), Int.toNat_natCast]
end Go.Proofs.Ytmaofhbnmkcimaa
