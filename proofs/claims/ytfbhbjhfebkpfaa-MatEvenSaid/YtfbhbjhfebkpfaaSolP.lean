/- Plain: what mat.Solve answers. -/
import Derived.Test.YtfbhbjhfebkpfaaMatF
namespace Go.Proofs.Ytfbhbjhfebkpfaa
set_option linter.unusedVariables false

theorem clash_zero {X : List (List Nat)} {r : Nat} : clashB X r = false ↔ ∀ i, r ≤ i → ∀ j, gt X i j = 0 := by
  constructor
  · intro h i hi j
    rcases Nat.lt_or_ge i X.length with h1 | h1
    · unfold clashB at h
      rw [List.any_eq_false] at h
      have hm : X.getD i [] ∈ X.drop r := by
        have e : (X.drop r)[i - r]? = some (X.getD i []) := by rw [List.getElem?_drop, show r + (i - r) = i by omega]; exact getD_some h1
        exact List.mem_of_getElem? e
      have h2 := h _ hm
      simp only [decide_eq_true_eq] at h2
      have h3 := leadI_neg.1 (show leadI (X.getD i []) < 0 by omega)
      exact congrFun h3 j
    · exact gt_out h1 j
  · intro h
    refine clash_no fun t ht => ?_
    rw [List.length_drop] at ht
    have e : (X.drop r).getD t [] = X.getD (r + t) [] := by
      rw [List.getD_eq_getElem?_getD, List.getElem?_drop, ← List.getD_eq_getElem?_getD]
    rw [e]
    have : leadI (X.getD (r + t) []) < 0 := leadI_neg.2 (funext fun j => h (r + t) (by omega) j)
    omega
theorem sol_rank {n k : Nat} {A B : List (List Nat)} (hA : Wf n A) (hl : A.length = B.length) (h0 : A ≠ []) : (redF (sideM A B) n).2 = (rref A).length := by
  rw [(side_red hl hA (Nat.le_refl n)).1, rank_red hA h0]
theorem sol_low {n : Nat} {A B : List (List Nat)} (hA : Wf n A) (hl : A.length = B.length) (h0 : A ≠ []) (hr : (rref A).length < n) : solC n A B = 9 ∧ solR n A B = [] := by
  have h1 : solC n A B = 9 := by unfold solC; rw [sol_rank (k := 0) hA hl h0, if_pos hr]
  exact ⟨h1, by unfold solR; rw [h1, if_neg (by decide)]⟩
theorem sol_right {n k : Nat} {A X : List (List Nat)} (hA : Wf n A) (hX : Wf k X) (hl : X.length = n) (hx0 : X ≠ []) (h0 : A ≠ []) (hr : (rref A).length = n) : solC n A (mulM A X) = 0 ∧ solR n A (mulM A X) = X := by
  have hlm : A.length = (mulM A X).length := by unfold mulM; rw [List.length_map]
  have hrk := sol_rank (k := 0) hA hlm h0
  have hrA : (redF A n).2 = n := by rw [← rank_red hA h0]; exact hr
  obtain ⟨h1, h2⟩ := solve_right hA hX hl hx0 hrA
  rw [hr] at hrk
  have h3 : solC n A (mulM A X) = 0 := by
    unfold solC
    rw [hrk, if_neg (by omega), clash_zero.2 h1]
    rfl
  exact ⟨h3, by unfold solR; rw [h3, if_pos rfl, hrk]; exact h2⟩
theorem sol_back {n k : Nat} {A C : List (List Nat)} (hA : Wf n A) (hC : Wf k C) (hl : A.length = C.length) (hn : 0 < n) (h0 : A ≠ []) (hr : (rref A).length = n) (hs : solC n A C = 0) : mulM A (solR n A C) = C ∧ Wf k (solR n A C) ∧ (solR n A C).length = n := by
  have hrk := sol_rank (k := 0) hA hl h0
  have hrA : (redF A n).2 = n := by rw [← rank_red hA h0]; exact hr
  rw [hr] at hrk
  have hz : clashB (redF (sideM A C) n).1 n = false := by
    unfold solC at hs
    rw [hrk, if_neg (by omega)] at hs
    cases h : clashB (redF (sideM A C) n).1 n with
    | false => rfl
    | true => rw [h] at hs; simp at hs
  have := solve_back hA hC hl hn hrA (clash_zero.1 hz)
  unfold solR
  rw [hs, if_pos rfl, hrk]
  exact this
theorem sol_clash {n : Nat} {A C : List (List Nat)} (hA : Wf n A) (hl : A.length = C.length) (h0 : A ≠ []) (hr : (rref A).length = n) (hs : solC n A C ≠ 0) : solC n A C = 10 ∧ A.length ≠ n := by
  have hrk := sol_rank (k := 0) hA hl h0
  rw [hr] at hrk
  unfold solC at hs ⊢
  rw [hrk, if_neg (by omega)] at hs ⊢
  cases h : clashB (redF (sideM A C) n).1 n with
  | false => rw [h] at hs; simp at hs
  | true =>
    refine ⟨rfl, fun e => ?_⟩
    have h2 : clashB (redF (sideM A C) n).1 n = false := clash_zero.2 fun i hi j => gt_out (by rw [redF_len, sideM_len hl, e]; exact hi) j
    rw [h2] at h; cases h
/-- One byte more at the beginning. -/
def bumpM (B : List (List Nat)) : List (List Nat) := B.set 0 ((B.getD 0 []).set 0 (((B.getD 0 []).getD 0 0 + 1) % 256))
theorem bumpM_len (B : List (List Nat)) : (bumpM B).length = B.length := by simp [bumpM]
theorem bumpM_wf {k : Nat} {B : List (List Nat)} (h : Wf k B) (h0 : B ≠ []) : Wf k (bumpM B) := by
  have h1 : 0 < B.length := by rcases B with _ | _; exact absurd rfl h0; simp
  have hg := h.get h1
  intro r hr
  rcases List.mem_or_eq_of_mem_set hr with h2 | h2
  · exact h r h2
  · rw [h2]
    refine ⟨by rw [List.length_set]; exact hg.1, fun x hx => ?_⟩
    rcases List.mem_or_eq_of_mem_set hx with h3 | h3
    · exact hg.2 x h3
    · rw [h3]; omega
end Go.Proofs.Ytfbhbjhfebkpfaa
