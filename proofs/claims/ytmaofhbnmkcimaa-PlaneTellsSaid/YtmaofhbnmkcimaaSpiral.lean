/- The spiral, plainly: where one is behind k steps, and behind how many steps one is somewhere. -/
import Derived.Test.YtmaofhbnmkcimaaPlaneB
namespace Go.Proofs.Ytmaofhbnmkcimaa
set_option linter.unusedVariables false

/-- Ring r, j steps behind its beginning. -/
def ringXY (r j : Nat) : Int × Int :=
  if j < 2 * r then (r, -((r : Int) - 1) + j)
  else if j < 4 * r then ((r : Int) - (j - (2 * r - 1)), r)
  else if j < 6 * r then (-(r : Int), (r : Int) - (j - (4 * r - 1)))
  else (-(r : Int) + (j - (6 * r - 1)), -(r : Int))
/-- The number of a place. -/
def idxXY (x y : Int) : Int :=
  let r := max (max x (-x)) (max y (-y))
  if r = 0 then 0
  else if x = r ∧ y ≠ -r then (2 * r - 1) * (2 * r - 1) + (y + (r - 1))
  else if y = r then (2 * r - 1) * (2 * r - 1) + (2 * r - 1) + (r - x)
  else if x = -r then (2 * r - 1) * (2 * r - 1) + (4 * r - 1) + (r - y)
  else (2 * r - 1) * (2 * r - 1) + (6 * r - 1) + (x + r)
/-- One pass over the spiral: ring r, j steps in, number k. -/
def passR : Nat → Sp → Nat → Nat → Nat → Bool
  | 0, _, _, _, _ => true
  | n + 1, s, r, j, k => decide ((s.x, s.y) = ringXY r j) && decide (idxXY s.x s.y = k) &&
      (if j + 1 < 8 * r then passR n s.on r (j + 1) (k + 1) else passR n s.on (r + 1) 0 (k + 1))
theorem pass_ok : passR 4095 (Sp.it 1) 1 0 1 = true := by decide +kernel

theorem pass_idx (n : Nat) : ∀ (k r j i : Nat), i < n → passR n (Sp.it k) r j k = true → idxXY (Sp.it (k + i)).x (Sp.it (k + i)).y = (k + i : Nat) := by
  induction n with
  | zero => intro k r j i hi; omega
  | succ n ih =>
    intro k r j i hi h
    rw [passR, Bool.and_eq_true, Bool.and_eq_true] at h
    cases i with
    | zero => exact of_decide_eq_true h.1.2
    | succ i =>
      have h2 := h.2
      rw [show k + (i + 1) = k + 1 + i by omega]
      split at h2
      · exact ih (k + 1) _ _ i (by omega) h2
      · exact ih (k + 1) _ _ i (by omega) h2
theorem idx_it {k : Nat} (h : k < 4096) : idxXY (Sp.it k).x (Sp.it k).y = k := by
  cases k with
  | zero => decide
  | succ k =>
    have := pass_idx 4095 1 1 0 k (by omega) pass_ok
    rwa [show 1 + k = k + 1 by omega] at this
/-- The beginning of ring r. -/
theorem pass_ring (n : Nat) : ∀ (k r j m : Nat), passR n (Sp.it k) r j k = true → j < 8 * r → j + m < 8 * r → m < n → ((Sp.it (k + m)).x, (Sp.it (k + m)).y) = ringXY r (j + m) := by
  induction n with
  | zero => intro k r j m h h1 h2 h3; omega
  | succ n ih =>
    intro k r j m h h1 h2 h3
    rw [passR, Bool.and_eq_true, Bool.and_eq_true] at h
    cases m with
    | zero => exact of_decide_eq_true h.1.1
    | succ m =>
      have h4 := h.2
      rw [if_pos (by omega)] at h4
      have := ih (k + 1) r (j + 1) m h4 (by omega) (by omega) (by omega)
      rwa [show k + 1 + m = k + (m + 1) by omega, show j + 1 + m = j + (m + 1) by omega] at this
theorem pass_next (m : Nat) : ∀ (n k r j : Nat), passR (m + n) (Sp.it k) r j k = true → j + m = 8 * r → 0 < m → passR n (Sp.it (k + m)) (r + 1) 0 (k + m) = true := by
  induction m with
  | zero => intro n k r j _ _ h; omega
  | succ m ih =>
    intro n k r j h h1 _
    rw [show m + 1 + n = (m + n) + 1 by omega, passR, Bool.and_eq_true] at h
    have h4 := h.2
    rcases Nat.eq_zero_or_pos m with h0 | h0
    · subst h0
      rw [if_neg (by omega), Nat.zero_add] at h4
      exact h4
    · rw [if_pos (by omega)] at h4
      have := ih n (k + 1) r (j + 1) h4 (by omega) h0
      rwa [show k + 1 + m = k + (m + 1) by omega] at this
theorem pass_at (r : Nat) : ∀ n, 0 < r → n + (2 * r - 1) * (2 * r - 1) = 4096 → passR n (Sp.it ((2 * r - 1) * (2 * r - 1))) r 0 ((2 * r - 1) * (2 * r - 1)) = true := by
  induction r with
  | zero => intro n h; omega
  | succ r ih =>
    intro n _ hn
    rcases Nat.eq_zero_or_pos r with h0 | h0
    · subst h0
      have : n = 4095 := by omega
      subst this
      exact pass_ok
    · have e1 : (2 * (r + 1) - 1) * (2 * (r + 1) - 1) = (2 * r - 1) * (2 * r - 1) + 8 * r := by
        obtain ⟨q, rfl⟩ : ∃ q, r = q + 1 := ⟨r - 1, by omega⟩
        rw [show 2 * (q + 1 + 1) - 1 = 2 * q + 3 by omega, show 2 * (q + 1) - 1 = 2 * q + 1 by omega]
        simp only [Nat.mul_add, Nat.add_mul]
        omega
      rw [e1] at hn ⊢
      have := ih (8 * r + n) h0 (by omega)
      exact pass_next (8 * r) n _ r 0 this (by omega) (by omega)
theorem it_ring {r j : Nat} (h0 : 0 < r) (hj : j < 8 * r) (hk : (2 * r - 1) * (2 * r - 1) + j < 4096) : ((Sp.it ((2 * r - 1) * (2 * r - 1) + j)).x, (Sp.it ((2 * r - 1) * (2 * r - 1) + j)).y) = ringXY r j := by
  have h1 := pass_at r (4096 - (2 * r - 1) * (2 * r - 1)) h0 (by omega)
  have := pass_ring _ _ r 0 j h1 (by omega) (by omega) (by omega)
  rwa [Nat.zero_add] at this
end Go.Proofs.Ytmaofhbnmkcimaa
