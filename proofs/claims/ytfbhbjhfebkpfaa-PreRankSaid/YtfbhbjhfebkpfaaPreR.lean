/- The rows ahead: their rank; what each tells. -/
import Derived.Test.YtfbhbjhfebkpfaaLaw08b
import Derived.Test.YtfbhbjhfebkpfaaSpanN
namespace Go.Proofs.Ytfbhbjhfebkpfaa
open Go.RowKit
set_option linter.unusedVariables false

theorem rowJ_hi (n q h : Nat) : ∀ (j i : Nat), j ≤ i → (rowJ n q h j).getD i 0 = (eRow n q).getD i 0
  | 0, i, _ => rfl
  | j + 1, i, hi => by
    rw [rowJ, List.getD_eq_getElem?_getD, List.getElem?_set_ne (by omega), ← List.getD_eq_getElem?_getD]
    exact rowJ_hi n q h j i (by omega)
theorem rowJ_own {K H r : Nat} (hr : r < H) {i : Nat} (hi : i < H) : (rowJ (K + H) (K + r) r K).getD (K + i) 0 = if i = r then 1 else 0 := by
  rw [rowJ_hi _ _ _ _ _ (by omega), eRow_get]
  by_cases h : i = r
  · subst h; rw [if_pos ⟨rfl, by omega⟩, if_pos rfl]
  · rw [if_neg (by omega), if_neg h]
theorem ahead_rank (K H : Nat) : (rref (aheadR K H H)).length = H := by
  have h := rank_indep (aheadR_wf K H H) fun j hj => by
    rw [aheadR_len] at hj
    refine ⟨_, unit_vb (K + j), fun i hi => ?_, ?_⟩
    · rw [aheadR_get K H H (by omega), fnl_unit _ (vO_byt (rowJ_by _ _ _ _)), if_pos (by omega)]
      show (rowJ (K + H) (K + i) i K).getD (K + j) 0 = 0
      rw [rowJ_own (by omega) hj, if_neg (by omega)]
    · rw [aheadR_get K H H hj, fnl_unit _ (vO_byt (rowJ_by _ _ _ _)), if_pos (by omega)]
      show (rowJ (K + H) (K + j) j K).getD (K + j) 0 ≠ 0
      rw [rowJ_own hj hj, if_pos rfl]
      decide
  rw [h, aheadR_len]

/-- What a row ahead comes to with the source symbols alone. -/
def srcD (K H r : Nat) (x : List Nat) : Nat := dotK (rowJ (K + H) (K + r) r K) x K
theorem dotK_same {a x y : List Nat} : ∀ {k : Nat}, (∀ i, i < k → x.getD i 0 = y.getD i 0) → dotK a x k = dotK a y k := by
  intro k
  induction k with
  | zero => intro _; rfl
  | succ k ih => intro h; rw [dotK, dotK, ih fun i hi => h i (by omega), h k (by omega)]
theorem dot_row {K H r : Nat} (hr : r < H) {x : List Nat} (hx : By x) : ∀ j, j ≤ H → dotK (rowJ (K + H) (K + r) r K) x (K + j) = srcD K H r x ^^^ (if r < j then x.getD (K + r) 0 else 0) := by
  intro j
  induction j with
  | zero => intro _; rw [if_neg (by omega), Nat.xor_zero]; rfl
  | succ j ih =>
    intro hj
    rw [← Nat.add_assoc, dotK, ih (by omega), rowJ_own hr (by omega)]
    by_cases h : j = r
    · subst h
      rw [if_pos rfl, if_neg (by omega), if_pos (by omega), fm_oneL _ (getD_lt hx _), Nat.xor_zero]
    · rw [if_neg h, fm_zero_left, Nat.xor_zero]
      by_cases h2 : r < j
      · rw [if_pos h2, if_pos (by omega)]
      · rw [if_neg h2, if_neg (by omega)]
/-- The symbols, so many of the columns of the rows ahead told. -/
def preX (K H : Nat) (x : List Nat) : Nat → List Nat
  | 0 => x
  | r + 1 => (preX K H x r).set (K + r) (srcD K H r x)
theorem preX_len (K H : Nat) (x : List Nat) (r : Nat) : (preX K H x r).length = x.length := by
  induction r with
  | zero => rfl
  | succ r ih => rw [preX, List.length_set, ih]
theorem preX_by {K H : Nat} {x : List Nat} (hx : By x) (r : Nat) : By (preX K H x r) := by
  induction r with
  | zero => exact hx
  | succ r ih =>
    intro y hy
    rcases List.mem_or_eq_of_mem_set hy with h | h
    · exact ih y h
    · subst h; exact dotK_lt _ _ _
theorem preX_low (K H : Nat) (x : List Nat) (r : Nat) {i : Nat} (hi : i < K) : (preX K H x r).getD i 0 = x.getD i 0 := by
  induction r with
  | zero => rfl
  | succ r ih => rw [preX, List.getD_eq_getElem?_getD, List.getElem?_set_ne (by omega), ← List.getD_eq_getElem?_getD]; exact ih
theorem preX_at {K H : Nat} {x : List Nat} (hl : x.length = K + H) (r : Nat) {i : Nat} (hi : i < H) : (preX K H x r).getD (K + i) 0 = if i < r then srcD K H i x else x.getD (K + i) 0 := by
  induction r with
  | zero => rw [if_neg (by omega)]; rfl
  | succ r ih =>
    rw [preX, List.getD_eq_getElem?_getD, List.getElem?_set, preX_len, hl]
    by_cases h : i = r
    · subst h; rw [if_pos rfl, if_pos (by omega), if_pos (by omega)]; rfl
    · rw [if_neg (by omega), ← List.getD_eq_getElem?_getD, ih]
      by_cases h2 : i < r
      · rw [if_pos h2, if_pos (by omega)]
      · rw [if_neg h2, if_neg (by omega)]
theorem srcD_pre (K H r k : Nat) (x : List Nat) : srcD K H r (preX K H x k) = srcD K H r x := dotK_same fun i hi => preX_low K H x k hi
/-- What is told: with a 0 in its own column it comes to what that column is to be. -/
theorem dot_told {K H r : Nat} (hr : r < H) {x : List Nat} (hl : x.length = K + H) (hx : By x) (h0 : ∀ i, i < H → x.getD (K + i) 0 = 0) :
    dotK (rowJ (K + H) (K + r) r K) (preX K H x r) (K + H) = srcD K H r x ∧ (preX K H x r).getD (K + r) 0 = 0 ∧ dotK (rowJ (K + H) (K + r) r K) (preX K H x H) (K + H) = 0 := by
  have h1 : (preX K H x r).getD (K + r) 0 = 0 := by rw [preX_at hl r hr, if_neg (by omega)]; exact h0 r hr
  refine ⟨?_, h1, ?_⟩
  · rw [dot_row hr (preX_by hx r) H (Nat.le_refl _), if_pos hr, h1, srcD_pre, Nat.xor_zero]
  · rw [dot_row hr (preX_by hx H) H (Nat.le_refl _), if_pos hr, preX_at hl H hr, if_pos hr, srcD_pre, Nat.xor_self]
/-- The data laid into noughts. -/
def laidX (n : Nat) (d : List Nat) : Nat → List Nat
  | 0 => List.replicate n 0
  | i + 1 => (laidX n d i).set i (d.getD i 0)
theorem laidX_len (n : Nat) (d : List Nat) (k : Nat) : (laidX n d k).length = n := by
  induction k with
  | zero => exact List.length_replicate ..
  | succ k ih => rw [laidX, List.length_set, ih]
theorem laidX_by (n : Nat) {d : List Nat} (hd : By d) (k : Nat) : By (laidX n d k) := by
  induction k with
  | zero => exact By.zeros _
  | succ k ih =>
    intro y hy
    rcases List.mem_or_eq_of_mem_set hy with h | h
    · exact ih y h
    · subst h; exact getD_lt hd _
theorem laidX_hi (n : Nat) (d : List Nat) (k : Nat) {i : Nat} (hi : k ≤ i) : (laidX n d k).getD i 0 = 0 := by
  induction k with
  | zero =>
    rw [laidX, List.getD_eq_getElem?_getD, List.getElem?_replicate]
    split <;> rfl
  | succ k ih => rw [laidX, List.getD_eq_getElem?_getD, List.getElem?_set_ne (by omega), ← List.getD_eq_getElem?_getD]; exact ih (by omega)
end Go.Proofs.Ytfbhbjhfebkpfaa
