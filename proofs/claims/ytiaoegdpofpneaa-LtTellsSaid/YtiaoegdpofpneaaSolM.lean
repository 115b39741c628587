/- The soliton's table, plainly: no program in sight. -/
import Derived.Lib.BitFns
namespace Go.Proofs.Ytiaoegdpofpneaa
set_option linter.unusedVariables false

/-- The least number from r on whose square is at least l. -/
def rootF (l : Nat) : Nat → Nat → Nat | r, 0 => r | r, f + 1 => if r * r < l then rootF l (r + 1) f else r
def rootN (l : Nat) : Nat := rootF l 0 9
def wtB (l k : Nat) : Nat := if 1 < k then 1048576 / (k * (k - 1)) else 1048576 / l
/-- The weight of k among l. -/
def wtN (l k : Nat) : Nat :=
  if k < l / rootN l then wtB l k + 1048576 * rootN l / (l * k)
  else if k = l / rootN l then wtB l k + 1048576 * rootN l * Lib.bitLen (rootN l) / l
  else wtB l k
def sumN (l : Nat) : Nat → Nat | 0 => 0 | k + 1 => sumN l k + wtN l (k + 1)
def tabN (l : Nat) : List Nat := (List.range l).map fun i => sumN l (i + 1)
theorem tabN_len (l : Nat) : (tabN l).length = l := by simp [tabN]
theorem tabN_get {l i : Nat} (h : i < l) : (tabN l).getD i 0 = sumN l (i + 1) := by
  simp [tabN, List.getD_eq_getElem?_getD, List.getElem?_map, List.getElem?_range, h]
theorem tabN_take {l k : Nat} (h : k < l) : (tabN l).take (k + 1) = (tabN l).take k ++ [sumN l (k + 1)] := by
  have hk : k < (tabN l).length := by rw [tabN_len]; exact h
  rw [List.take_succ_eq_append_getElem hk]
  congr 2
  have := tabN_get h
  rw [List.getD_eq_getElem?_getD, List.getElem?_eq_getElem hk] at this
  exact this

def okRoot (l : Nat) : Bool := decide (1 ≤ rootN l ∧ rootN l ≤ 8 ∧ l ≤ rootN l * rootN l ∧ Lib.bitLen (rootN l) ≤ 4)
theorem okRoot_all : ((List.range 65).all fun l => l == 0 || okRoot l) = true := by decide +kernel
theorem root_bd {l : Nat} (h1 : 1 ≤ l) (h2 : l ≤ 64) : 1 ≤ rootN l ∧ rootN l ≤ 8 ∧ Lib.bitLen (rootN l) ≤ 4 := by
  have := List.all_eq_true.1 okRoot_all l (List.mem_range.2 (by omega))
  rw [Bool.or_eq_true] at this
  rcases this with h | h
  · have := of_decide_eq_true h; omega
  · have := of_decide_eq_true h; exact ⟨this.1, this.2.1, this.2.2.2⟩
/-- What the statements say of each table: each weight at least 1, all below 8 * 2^20; two is no rarer than three or more, but where the peak stands. -/
def okTab (l : Nat) : Bool := (List.range l).all fun i => decide (1 ≤ wtN l (i + 1) ∧ sumN l (i + 1) < 8388608 ∧ (1 ≤ i → i + 1 ≠ l / rootN l → wtN l (i + 1) ≤ wtN l 2))
theorem okTab_all : ((List.range 65).all okTab) = true := by decide +kernel
theorem tab_ok {l i : Nat} (h2 : l ≤ 64) (hi : i < l) : 1 ≤ wtN l (i + 1) ∧ sumN l (i + 1) < 8388608 ∧ (1 ≤ i → i + 1 ≠ l / rootN l → wtN l (i + 1) ≤ wtN l 2) :=
  of_decide_eq_true (List.all_eq_true.1 (List.all_eq_true.1 okTab_all l (List.mem_range.2 (by omega))) i (List.mem_range.2 hi))
theorem sum_lt {l k : Nat} (h2 : l ≤ 64) (hk : k ≤ l) : sumN l k < 8388608 := by
  cases k with
  | zero => show 0 < 8388608; decide
  | succ k => exact (tab_ok h2 hk).2.1
theorem sum_rise {l k : Nat} (h2 : l ≤ 64) (hk : k < l) : sumN l k < sumN l (k + 1) := by
  have := (tab_ok h2 hk).1
  show sumN l k < sumN l k + wtN l (k + 1)
  omega
theorem sum_mono {l : Nat} (h2 : l ≤ 64) : ∀ {j k : Nat}, k ≤ l → j ≤ k → sumN l j ≤ sumN l k := by
  intro j k
  induction k with
  | zero => intro _ h; rw [show j = 0 by omega]; exact Nat.le_refl _
  | succ k ih =>
    intro hk h
    by_cases e : j = k + 1
    · rw [e]; exact Nat.le_refl _
    · have := ih (by omega) (by omega)
      have := sum_rise h2 (k := k) (by omega)
      omega
def tabI (l : Int) : List Nat := if 1 ≤ l ∧ l ≤ 64 then tabN l.toNat else []
theorem tabI_in {l : Nat} (h : 1 ≤ l ∧ l ≤ 64) : tabI l = tabN l := by unfold tabI; rw [if_pos (by omega), Int.toNat_natCast]
theorem tabI_out {l : Int} (h : l < 1 ∨ 64 < l) : tabI l = [] := by unfold tabI; rw [if_neg (by omega)]

/-- One more than the first place from i on, f of them, with more than x; 0: none. -/
def gtF (xs : List Nat) (x : Int) : Nat → Nat → Nat
  | _, 0 => 0
  | i, f + 1 => if x < (xs.getD i 0 : Int) then i + 1 else gtF xs x (i + 1) f
/-- What the program answers, and what the document. -/
def degP (xs : List Nat) (x : Int) : Nat := if xs = [] ∨ x < 0 ∨ (xs.getD (xs.length - 1) 0 : Int) ≤ x then 0 else gtF xs x 0 xs.length
def degR (xs : List Nat) (x : Int) : Nat := if x < 0 then 0 else gtF xs x 0 xs.length
theorem gtF_none {xs : List Nat} {x : Int} : ∀ f i, (∀ j, i ≤ j → j < i + f → (xs.getD j 0 : Int) ≤ x) → gtF xs x i f = 0 := by
  intro f
  induction f with
  | zero => intro i _; rfl
  | succ f ih =>
    intro i h
    rw [gtF, if_neg (by have := h i (Nat.le_refl _) (by omega); omega)]
    exact ih (i + 1) fun j h1 h2 => h j (by omega) (by omega)
theorem gtF_some {xs : List Nat} {x : Int} : ∀ f i k, i ≤ k → k < i + f → (∀ j, i ≤ j → j < k → (xs.getD j 0 : Int) ≤ x) → x < (xs.getD k 0 : Int) → gtF xs x i f = k + 1 := by
  intro f
  induction f with
  | zero => intro i k h1 h2; omega
  | succ f ih =>
    intro i k h1 h2 h3 h4
    rw [gtF]
    by_cases e : i = k
    · subst e; rw [if_pos h4]
    · rw [if_neg (by have := h3 i (Nat.le_refl _) (by omega); omega)]
      exact ih (i + 1) k (by omega) (by omega) (fun j a b => h3 j (by omega) b) h4
theorem gtF_le (xs : List Nat) (x : Int) : ∀ f i, gtF xs x i f ≤ i + f := by
  intro f
  induction f with
  | zero => intro i; exact Nat.zero_le _
  | succ f ih => intro i; rw [gtF]; split; omega; have := ih (i + 1); omega
theorem deg_tab {l : Nat} (h2 : l ≤ 64) (x : Int) : degP (tabN l) x = degR (tabN l) x := by
  unfold degP degR
  rw [tabN_len]
  by_cases hx : x < 0
  · rw [if_pos (.inr (.inl hx)), if_pos hx]
  · rw [if_neg hx]
    by_cases h0 : l = 0
    · subst h0; rw [if_pos (.inl rfl)]; rfl
    · by_cases hl : ((tabN l).getD (l - 1) 0 : Int) ≤ x
      · rw [if_pos (.inr (.inr hl))]
        refine (gtF_none l 0 fun j _ hj => ?_).symm
        rw [tabN_get (by omega)]
        rw [tabN_get (by omega), show l - 1 + 1 = l by omega] at hl
        have := sum_mono h2 (j := j + 1) (k := l) (Nat.le_refl _) (by omega)
        omega
      · rw [if_neg]
        rintro (h | h | h)
        · have := congrArg List.length h; rw [tabN_len] at this; exact h0 this
        · exact hx h
        · exact hl h
theorem deg_nil (x : Int) : degP [] x = 0 ∧ degR [] x = 0 := ⟨by unfold degP; rw [if_pos (.inl rfl)], by unfold degR; split <;> rfl⟩
theorem deg_tabI (l x : Int) : degP (tabI l) x = degR (tabI l) x := by
  unfold tabI
  split
  · exact deg_tab (by omega) x
  · rw [(deg_nil x).1, (deg_nil x).2]
theorem degP_at {l k : Nat} (h2 : l ≤ 64) (hk : k < l) {x : Int} (h0 : (sumN l k : Int) ≤ x) (h1 : x < (sumN l (k + 1) : Int)) : degP (tabN l) x = k + 1 := by
  have hl : sumN l (k + 1) ≤ sumN l l := sum_mono h2 (Nat.le_refl _) hk
  unfold degP
  rw [tabN_len, if_neg]
  · refine gtF_some l 0 k (Nat.zero_le _) (by omega) (fun j _ hj => ?_) ?_
    · rw [tabN_get (by omega)]
      have := sum_mono h2 (j := j + 1) (k := k) (by omega) hj
      omega
    · rw [tabN_get hk]; exact h1
  · rintro (h | h | h)
    · have := congrArg List.length h; rw [tabN_len] at this; simp at this; omega
    · omega
    · rw [tabN_get (by omega), show l - 1 + 1 = l by omega] at h; omega
theorem degP_out {l : Nat} (h1 : 1 ≤ l) {x : Int} (h : x < 0 ∨ (sumN l l : Int) ≤ x) : degP (tabN l) x = 0 := by
  unfold degP
  rw [tabN_len, if_pos]
  rcases h with h | h
  · exact .inr (.inl h)
  · exact .inr (.inr (by rw [tabN_get (by omega), show l - 1 + 1 = l by omega]; exact h))
theorem degP_in {l : Nat} (h1 : 1 ≤ l) (h2 : l ≤ 64) {x : Int} (h0 : 0 ≤ x) (hx : x < (sumN l l : Int)) : 1 ≤ degP (tabN l) x ∧ degP (tabN l) x ≤ l := by
  have : ∀ n, n ≤ l → x < (sumN l n : Int) → ∃ k, k < n ∧ (sumN l k : Int) ≤ x ∧ x < (sumN l (k + 1) : Int) := by
    intro n
    induction n with
    | zero => intro _ h; simp [sumN] at h; omega
    | succ n ih =>
      intro hn h
      by_cases hc : (sumN l n : Int) ≤ x
      · exact ⟨n, by omega, hc, h⟩
      · obtain ⟨k, a, b, c⟩ := ih (by omega) (by omega)
        exact ⟨k, by omega, b, c⟩
  obtain ⟨k, a, b, c⟩ := this l (Nat.le_refl _) hx
  rw [degP_at h2 a b c]
  omega
end Go.Proofs.Ytiaoegdpofpneaa
