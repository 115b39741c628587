/- Sets of numbers, plainly: the set behind one, all of them in order. -/
import Derived.Test.YtmaofhbnmkcimaaSetsB
namespace Go.Proofs.Ytmaofhbnmkcimaa

/-- The set behind one. -/
def nextS (n : Nat) : List Nat → Option (List Nat)
  | [] => none
  | x :: l => match nextS n l with
    | some l' => some (x :: l')
    | none => if x + (l.length + 1) < n then some (List.range' (x + 1) (l.length + 1)) else none

theorem layT_cons (x : Nat) (l : List Nat) (k : Nat) : layT (x :: l) (k + 1) (l.length + 1) = x :: layT l k l.length := by
  apply List.ext_getElem?
  intro j
  cases j with
  | zero => simp [layT]
  | succ j =>
    simp only [List.getElem?_cons_succ, layT, List.length_cons, List.getElem?_map]
    by_cases hj : j < l.length
    · rw [List.getElem?_range (by omega), List.getElem?_range hj]
      simp only [Option.map_some, Option.some.injEq, Nat.add_lt_add_iff_right, List.getD_cons_succ]
      split
      · rfl
      · omega
    · rw [List.getElem?_eq_none (by simp; omega), List.getElem?_eq_none (by simp; omega)]
      rfl
theorem layT_zero (x : Nat) (l : List Nat) : layT (x :: l) 0 (l.length + 1) = List.range' (x + 1) (l.length + 1) := by
  apply List.ext_getElem?
  intro j
  by_cases hj : j < l.length + 1
  · simp [layT, hj]
  · rw [List.getElem?_eq_none (by simp [layT]; omega), List.getElem?_eq_none (by simp; omega)]

theorem nxF_cons (n x : Nat) (l : List Nat) (k : Nat) (hk : k ≤ l.length) :
    nxF n (x :: l) (k + 1) = match nxF n l k with
      | some l' => some (x :: l')
      | none => if x + (l.length + 1) < n then some (List.range' (x + 1) (l.length + 1)) else none := by
  induction k with
  | zero => simp only [nxF, List.getD_cons_zero, List.length_cons, Nat.add_zero, layT_zero]
  | succ k ih =>
    rw [nxF, List.getD_cons_succ, List.length_cons]
    rw [show nxF n l (k + 1) = if l.getD k 0 + l.length < n + k then some (layT l k l.length) else nxF n l k from rfl]
    by_cases h : l.getD k 0 + l.length < n + k
    · rw [if_pos (by omega), if_pos h, layT_cons]
    · rw [if_neg (by omega), if_neg h]
      exact ih (by omega)
theorem nxF_eq (n : Nat) (l : List Nat) : nxF n l l.length = nextS n l := by
  induction l with
  | nil => rfl
  | cons x l ih =>
    rw [List.length_cons, nxF_cons n x l _ (Nat.le_refl _), ih]
    rfl

/-- All sets of t numbers from a on and below n, in order. -/
def fromL (n : Nat) : Nat → Nat → List (List Nat)
  | 0, _ => [[]]
  | t + 1, a => (List.range' a (n - t - a)).flatMap fun i => (fromL n t (i + 1)).map (i :: ·)

theorem fromL_head (n : Nat) : ∀ (t a : Nat), a + t ≤ n → (fromL n t a)[0]? = some (List.range' a t) := by
  intro t
  induction t with
  | zero => intro a _; rfl
  | succ t ih =>
    intro a h
    obtain ⟨m, hm⟩ : ∃ m, n - t - a = m + 1 := ⟨n - t - a - 1, by omega⟩
    rw [fromL, hm, List.range'_succ, List.flatMap_cons]
    have h1 := ih (a + 1) (by omega)
    have h2 : 0 < (fromL n t (a + 1)).length := by
      rcases Nat.lt_or_ge 0 (fromL n t (a + 1)).length with h | h
      · exact h
      · rw [List.getElem?_eq_none h] at h1; cases h1
    rw [List.getElem?_append_left (by simpa using h2), List.getElem?_map, h1]
    rfl
theorem fromL_len (n : Nat) : ∀ (t a : Nat) (l : List Nat), l ∈ fromL n t a → l.length = t := by
  intro t
  induction t with
  | zero => intro a l h; simp [fromL] at h; subst h; rfl
  | succ t ih =>
    intro a l h
    simp only [fromL, List.mem_flatMap, List.mem_map] at h
    obtain ⟨i, _, l', hl', rfl⟩ := h
    rw [List.length_cons, ih _ _ hl']
theorem fromL_bd (n : Nat) : ∀ (t a : Nat) (l : List Nat), l ∈ fromL n t a → ∀ x ∈ l, a ≤ x ∧ x < n := by
  intro t
  induction t with
  | zero => intro a l h; simp [fromL] at h; subst h; simp
  | succ t ih =>
    intro a l h
    simp only [fromL, List.mem_flatMap, List.mem_map, List.mem_range'_1] at h
    obtain ⟨i, hi, l', hl', rfl⟩ := h
    intro x hx
    rcases List.mem_cons.1 hx with rfl | hx
    · omega
    · have := ih _ _ hl' x hx
      omega

/-- Each element's follower is the next one; the last one has none. -/
def Chain (n : Nat) (L : List (List Nat)) : Prop := ∀ i l, L[i]? = some l → nextS n l = L[i + 1]?

theorem chain_append {n : Nat} {A C : List (List Nat)} (hA : ∀ i l, A[i]? = some l → i + 1 < A.length → nextS n l = A[i + 1]?) (hl : ∀ l, A[A.length - 1]? = some l → nextS n l = C[0]?) (hC : Chain n C) : Chain n (A ++ C) := by
  intro i l h
  by_cases hi : i + 1 < A.length
  · rw [List.getElem?_append_left (by omega)] at h
    rw [List.getElem?_append_left hi]
    exact hA i l h hi
  · by_cases hi2 : i < A.length
    · rw [List.getElem?_append_left hi2] at h
      rw [List.getElem?_append_right (by omega), show i + 1 - A.length = 0 by omega]
      exact hl l (by rw [show A.length - 1 = i by omega]; exact h)
    · rw [List.getElem?_append_right (by omega)] at h
      rw [List.getElem?_append_right (by omega), show i + 1 - A.length = i - A.length + 1 by omega]
      exact hC _ l h

theorem fromL_chain (n : Nat) : ∀ (t a : Nat), Chain n (fromL n t a) := by
  intro t
  induction t with
  | zero =>
    intro a i l h
    cases i with
    | zero => simp [fromL] at h; subst h; simp [fromL, nextS]
    | succ i => simp [fromL] at h
  | succ t ih =>
    have key : ∀ (m a : Nat), (m ≠ 0 → a + m + t = n) → Chain n ((List.range' a m).flatMap fun i => (fromL n t (i + 1)).map (i :: ·)) := by
      intro m
      induction m with
      | zero => intro a _ i l h; simp at h
      | succ m ihm =>
        intro a hm
        have hm' := hm (by omega)
        rw [List.range'_succ, List.flatMap_cons]
        refine chain_append ?_ ?_ (ihm (a + 1) (fun _ => by omega))
        · intro i l h hlt
          rw [List.getElem?_map] at h
          obtain ⟨l', hl', rfl⟩ := Option.map_eq_some_iff.1 h
          rw [List.length_map] at hlt
          have h1 := ih (a + 1) i l' hl'
          rw [List.getElem?_map, ← h1]
          rw [List.getElem?_eq_getElem hlt] at h1
          simp only [nextS, h1, Option.map_some]
        · intro l h
          rw [List.getElem?_map] at h
          obtain ⟨l', hl', rfl⟩ := Option.map_eq_some_iff.1 h
          rw [List.length_map] at hl'
          have h1 := ih (a + 1) _ l' hl'
          have h2 : (fromL n t (a + 1)).length - 1 + 1 = (fromL n t (a + 1)).length := by
            have := (List.getElem?_eq_some_iff.1 hl').1
            omega
          rw [h2, List.getElem?_eq_none (Nat.le_refl _)] at h1
          have hlen := fromL_len n t (a + 1) l' (List.mem_of_getElem? hl')
          simp only [nextS, h1, hlen]
          cases m with
          | zero => rw [if_neg (by omega)]; rfl
          | succ m =>
            rw [if_pos (by omega), List.range'_succ, List.range'_succ, List.flatMap_cons]
            have h3 := fromL_head n t (a + 1 + 1) (by omega)
            have h4 : 0 < (fromL n t (a + 1 + 1)).length := by
              rcases Nat.lt_or_ge 0 (fromL n t (a + 1 + 1)).length with h | h
              · exact h
              · rw [List.getElem?_eq_none h] at h3; cases h3
            rw [List.getElem?_append_left (by simpa using h4), List.getElem?_map, h3]
            rfl
    intro a
    refine key _ a (fun h => by omega)
end Go.Proofs.Ytmaofhbnmkcimaa
