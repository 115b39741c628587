/- Plain: both sides of what is eliminated, each for itself; what the document's Solve answers. -/
import Derived.Test.YtfbhbjhfebkpfaaSolP
namespace Go.Proofs.Ytfbhbjhfebkpfaa
set_option linter.unusedVariables false

/-- What stands on one side, behind so many columns. -/
def cutS (f : List Nat → List Nat) (A B : List (List Nat)) (col : Nat) : List (List Nat) := (redF (sideM A B) col).1.map f
theorem cutS_len (f : List Nat → List Nat) {A B : List (List Nat)} (h : A.length = B.length) (col : Nat) : (cutS f A B col).length = A.length := by
  unfold cutS; rw [List.length_map, redF_len, sideM_len h]
/-- The rank is full: each column has a row, and it comes to its own number. -/
theorem full_col {n : Nat} {A : List (List Nat)} (hA : Wf n A) (h0 : A ≠ []) (hr : (rref A).length = n) : ∀ col, col ≤ n → (redF A col).2 = col := by
  have hrA : (redF A n).2 = n := by rw [← rank_red hA h0]; exact hr
  have hle : ∀ col, (redF A col).2 ≤ col := by
    intro col
    induction col with
    | zero => exact Nat.le_refl _
    | succ col ih =>
      show (stepM (redF A col).1 (redF A col).2 col).2 ≤ _
      unfold stepM
      split <;> simp <;> omega
  have hst : ∀ col, (redF A (col + 1)).2 ≤ (redF A col).2 + 1 := by
    intro col
    show (stepM (redF A col).1 (redF A col).2 col).2 ≤ _
    unfold stepM
    split <;> simp
  have hdn : ∀ k, k ≤ n → n - k ≤ (redF A (n - k)).2 := by
    intro k
    induction k with
    | zero => intro _; rw [Nat.sub_zero, hrA]; exact Nat.le_refl _
    | succ k ih =>
      intro hk
      have h1 := ih (by omega)
      have h2 := hst (n - (k + 1))
      rw [show n - (k + 1) + 1 = n - k by omega] at h2
      omega
  intro col hc
  have h1 := hle col
  have h2 := hdn (n - col) (by omega)
  rw [show n - (n - col) = col by omega] at h2
  omega
theorem full_find {n : Nat} {A B : List (List Nat)} (hA : Wf n A) (hl : A.length = B.length) (h0 : A ≠ []) (hr : (rref A).length = n) {col : Nat} (hc : col < n) :
    ∃ p, col ≤ p ∧ p < A.length ∧ gt (cutS (List.take n) A B col) p col ≠ 0 ∧ (∀ k, col ≤ k → k < p → gt (cutS (List.take n) A B col) k col = 0) ∧
      redF (sideM A B) (col + 1) = (elimTo (pivM (redF (sideM A B) col).1 col col p) col col A.length, col + 1) := by
  have e1 : (redF (sideM A B) col).2 = col := by rw [(side_red hl hA (by omega)).1]; exact full_col hA h0 hr col (by omega)
  have e2 : (redF (sideM A B) (col + 1)).2 = col + 1 := by rw [(side_red hl hA (by omega)).1]; exact full_col hA h0 hr (col + 1) (by omega)
  have hL : (redF (sideM A B) col).1.length = A.length := by rw [redF_len, sideM_len hl]
  have hst : redF (sideM A B) (col + 1) = stepM (redF (sideM A B) col).1 (redF (sideM A B) col).2 col := rfl
  rw [e1] at hst
  cases hf : fndF (redF (sideM A B) col).1 col col ((redF (sideM A B) col).1.length - col) with
  | none =>
    exfalso
    rw [hst] at e2
    unfold stepM at e2
    rw [hf] at e2
    simp at e2
  | some p =>
    obtain ⟨p1, p2, p3, p4⟩ := fndF_some _ _ _ hf
    refine ⟨p, p1, by omega, ?_, fun k h1 h2 => ?_, ?_⟩
    · unfold cutS; rw [gt_take hc]; exact p3
    · unfold cutS; rw [gt_take hc]; exact p4 k h1 h2
    · rw [hst]
      unfold stepM
      rw [hf, hL]
/-- One side of the row at top, made a beginning. -/
theorem cut_piv {f : List Nat → List Nat} (hf : Cutf f) {L : List (List Nat)} {top col p : Nat} (ht : top < L.length) (hp : p < L.length) :
    (pivM L top col p).map f = (swp (L.map f) top p).set top (scL (fi (gt L p col)) ((L.map f).getD p [])) := by
  refine extM (by rw [List.length_map, pivM_len, List.length_set, swp_len, List.length_map]) fun i hi => ?_
  rw [List.length_map, pivM_len] at hi
  have h1 : ((pivM L top col p).map f).getD i [] = f ((pivM L top col p).getD i []) := getD_map hf.nil _ _
  rw [h1, pivM_cut hf ht hp]
  by_cases h : i = top
  · subst h
    have e : ∀ (M : List (List Nat)) (r : List Nat), i < M.length → (M.set i r).getD i [] = r := fun M r h => by
      rw [List.getD_eq_getElem?_getD, List.getElem?_set, if_pos rfl, if_pos h]; rfl
    rw [if_pos rfl, e _ _ (by rw [swp_len, List.length_map]; exact hi)]
  · have e : ∀ (M : List (List Nat)) (r : List Nat), (M.set top r).getD i [] = M.getD i [] := fun M r => by
      rw [List.getD_eq_getElem?_getD, List.getElem?_set_ne (fun e => h e.symm), ← List.getD_eq_getElem?_getD]
    rw [if_neg h, e, swp_row (by rw [List.length_map]; exact ht) (by rw [List.length_map]; exact hp)]
theorem elim_cut_step {f : List Nat → List Nat} (hf : Cutf f) {w : Nat} {P : List (List Nat)} (hP : Wf w P) {col r : Nat} (hr : r < P.length) (hc : col < P.length) :
    (elimTo P col col (r + 1)).map f = if r = col ∨ gt P r col = 0 then (elimTo P col col r).map f else ((elimTo P col col r).map f).set r (axL (gt P r col) ((P.map f).getD col []) ((P.map f).getD r [])) := by
  rw [elimTo_step hP hr]
  by_cases h : r = col
  · rw [if_pos h, if_pos (.inl h)]
  · rw [if_neg h]
    by_cases h2 : gt P r col = 0
    · rw [if_pos (.inr h2), h2]
      have e : axL 0 (P.getD col []) (P.getD r []) = P.getD r [] := axL_zero (by rw [(hP.get hc).1, (hP.get hr).1])
      rw [e]
      have e2 : (elimTo P col col r).getD r [] = P.getD r [] := by rw [elimTo_row col col r hr, if_neg (by omega)]
      congr 1
      refine extM (by rw [List.length_set]) fun i hi => ?_
      rw [List.length_set] at hi
      rw [List.getD_eq_getElem?_getD, List.getElem?_set]
      by_cases h3 : r = i
      · subst h3; rw [if_pos rfl, if_pos hi, e2]; rfl
      · rw [if_neg h3, ← List.getD_eq_getElem?_getD]
    · rw [if_neg (by rintro (h3 | h3); exact h h3; exact h2 h3), List.map_set, hf.ax, getD_map hf.nil, getD_map hf.nil]
/-- The document's Solve: what it answers, behind the looks at its arguments. -/
theorem solve_ref {n k : Nat} {A B : List (List Nat)} (hA : Wf n A) (hB : Wf k B) (hl : A.length = B.length) (h0 : A ≠ []) (hr : (rref A).length = n) :
    (∀ i, n ≤ i → i < A.length → 0 ≤ leadI ((cutS (List.drop n) A B n).getD i []) → solC n A B = 10 ∧ solR n A B = []) ∧
    ((∀ i, n ≤ i → i < A.length → leadI ((cutS (List.drop n) A B n).getD i []) < 0) → solC n A B = 0 ∧ solR n A B = (cutS (List.drop n) A B n).take n) := by
  have hrk := sol_rank (k := 0) hA hl h0
  rw [hr] at hrk
  have hw := sideM_wf hl hA hB
  obtain ⟨ls, hI⟩ := redF_inv hw n
  rw [hrk] at hI
  have hL : (redF (sideM A B) n).1.length = A.length := by rw [redF_len, sideM_len hl]
  have hrow : ∀ i, (cutS (List.drop n) A B n).getD i [] = ((redF (sideM A B) n).1.getD i []).drop n := fun i => getD_map List.drop_nil _ _
  have hsc : solC n A B = if clashB (redF (sideM A B) n).1 n then 10 else 0 := by unfold solC; rw [hrk, if_neg (by omega)]
  refine ⟨fun i h1 h2 h3 => ?_, fun h => ?_⟩
  · have hcl : clashB (redF (sideM A B) n).1 n = true := by
      cases hc : clashB (redF (sideM A B) n).1 n with
      | true => rfl
      | false =>
        exfalso
        have hz := clash_zero.1 hc
        have : leadI ((cutS (List.drop n) A B n).getD i []) < 0 := leadI_neg.2 (funext fun j => by
          rw [hrow]
          unfold vO vz
          rw [List.getD_eq_getElem?_getD, List.getElem?_drop, ← List.getD_eq_getElem?_getD]
          exact hz i h1 (n + j))
        omega
    rw [hcl] at hsc
    exact ⟨hsc, by unfold solR; rw [hsc]; rfl⟩
  · have hcl : clashB (redF (sideM A B) n).1 n = false := clash_zero.2 fun i hi j => by
      rcases Nat.lt_or_ge i A.length with h1 | h1
      · rcases Nat.lt_or_ge j n with h2 | h2
        · exact hI.rest i hi j h2
        · have h3 := congrFun (leadI_neg.1 (h i hi h1)) (j - n)
          rw [hrow] at h3
          unfold vO vz at h3
          rw [List.getD_eq_getElem?_getD, List.getElem?_drop, ← List.getD_eq_getElem?_getD, show n + (j - n) = j by omega] at h3
          exact h3
      · exact gt_out (by rw [hL]; exact h1) j
    rw [hcl] at hsc
    refine ⟨hsc, ?_⟩
    unfold solR
    rw [hsc, hrk]
    unfold cutS
    rw [← List.map_take]
    rfl
end Go.Proofs.Ytfbhbjhfebkpfaa
