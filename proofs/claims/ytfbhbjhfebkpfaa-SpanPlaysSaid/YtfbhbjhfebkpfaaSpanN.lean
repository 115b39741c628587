/- More of what rows span: one row more, rows met again, what is left of what is left, rows of one 1. -/
import Derived.Test.YtfbhbjhfebkpfaaLaw03a
import Derived.Test.YtfbhbjhfebkpfaaVand
namespace Go.Proofs.Ytfbhbjhfebkpfaa
set_option linter.unusedVariables false

theorem rank_up {n : Nat} {A : List (List Nat)} {v : List Nat} (hA : Wf n A) (hv : v.length = n) (hb : ∀ x ∈ v, x < 256) : (rref (A ++ [v])).length ≤ (rref A).length + 1 := by
  obtain ⟨ls, hR, _⟩ := rref_spec hA
  have hr := restR_wf hR.wf hv hb
  rw [← rref_add hA hv hb]
  have := (rref_len (wf_snoc hR.wf hr.1 hr.2)).2
  rwa [List.length_append, List.length_singleton] at this
theorem rref_again {n : Nat} {A : List (List Nat)} {v : List Nat} (hA : Wf n A) (hv : v ∈ A) : rref (A ++ [v]) = rref A := by
  have h := hA v hv
  exact rref_eq (wf_snoc hA h.1 h.2) hA (sp_self hA h.1 h.2 (Spn.mem hA.vb (List.mem_map_of_mem hv)))
theorem sp_mems {A B : List (List Nat)} (h : ∀ r, r ∈ A ↔ r ∈ B) : SpEq A B := fun v => by
  constructor
  · exact fun hv => hv.sub fun r hr => by
      obtain ⟨x, hx, rfl⟩ := List.mem_map.1 hr
      exact List.mem_map_of_mem ((h x).1 hx)
  · exact fun hv => hv.sub fun r hr => by
      obtain ⟨x, hx, rfl⟩ := List.mem_map.1 hr
      exact List.mem_map_of_mem ((h x).2 hx)
theorem rref_turned {n : Nat} {A : List (List Nat)} (hA : Wf n A) (k : Nat) : rref (A.drop k ++ A) = rref A :=
  rref_eq (wf_app (fun r hr => hA r (List.mem_of_mem_drop hr)) hA) hA (sp_mems fun r => by
    rw [List.mem_append]
    exact ⟨fun h => h.elim List.mem_of_mem_drop id, .inr⟩)
theorem restR_same : ∀ {R : List (List Nat)} {v : List Nat}, (∀ x ∈ R, x.length = v.length) → (∀ x ∈ R, v.getD (leadN x) 0 = 0) → restR R v = v := by
  intro R
  induction R with
  | nil => intro v _ _; rfl
  | cons x R ih =>
    intro v h1 h2
    have hx := h1 x List.mem_cons_self
    simp only [restR]
    rw [h2 x List.mem_cons_self, axL_zero hx]
    exact ih (fun y hy => h1 y (List.mem_cons_of_mem _ hy)) fun y hy => h2 y (List.mem_cons_of_mem _ hy)
theorem Red.lead_at {n : Nat} {R : List (List Nat)} {ls : List Nat} (h : Red n R ls) {i : Nat} (hi : i < R.length) : leadN (R.getD i []) = ls.getD i 0 ∧ ls.getD i 0 < n ∧ ls.getD i 0 ∈ ls := by
  have hl := ls_some (ls := ls) (i := i) (by rw [← h.rows]; exact hi)
  obtain ⟨h1, h2, h3⟩ := h.lead (getD_some hi) hl
  exact ⟨h1, h.lt _ (List.mem_of_getElem? hl), List.mem_of_getElem? hl⟩
theorem Red.rest_at {n : Nat} {R : List (List Nat)} {ls : List Nat} (h : Red n R ls) {v : List Nat} (hv : v.length = n) (hb : ∀ x ∈ v, x < 256) {i : Nat} (hi : i < R.length) : (restR R v).getD (leadN (R.getD i [])) 0 = 0 := by
  obtain ⟨h1, _, h3⟩ := h.lead_at hi
  rw [h1]
  exact h.rest_zero hv hb _ h3
theorem Red.rest_rest {n : Nat} {R : List (List Nat)} {ls : List Nat} (h : Red n R ls) {v : List Nat} (hv : v.length = n) (hb : ∀ x ∈ v, x < 256) : restR R (restR R v) = restR R v := by
  have hw := restR_wf h.wf hv hb
  refine restR_same (fun x hx => ?_) fun x hx => ?_
  · rw [hw.1]; exact (h.wf x hx).1
  · obtain ⟨i, hi, rfl⟩ := List.getElem_of_mem hx
    have e : R.getD i [] = R[i] := by rw [List.getD_eq_getElem?_getD, List.getElem?_eq_getElem hi]; rfl
    rw [← e]
    exact h.rest_at hv hb hi
/-- The row and what is left of it leave nothing. -/
theorem Red.rest_sum {n : Nat} {R : List (List Nat)} {ls : List Nat} (h : Red n R ls) {v : List Nat} (hv : v.length = n) (hb : ∀ x ∈ v, x < 256) : leadI (restR R (axL 1 v (restR R v))) < 0 := by
  have hw := restR_wf h.wf hv hb
  obtain ⟨u, hu, e⟩ := restR_spn h.wf hv hb
  have hl : (axL 1 v (restR R v)).length = n := by rw [axL_len (by omega)]; exact hw.1
  rw [leadI_neg, h.rest_spn hl (axL_byt hw.2), vO_ax (by omega), e]
  have e2 : vax 1 (vO v) (vax 1 u (vO v)) = u := by
    funext j
    unfold vax
    rw [fm_oneL _ (hu.vb j), fm_oneL _ (show vO v j < 256 from getD_lt hb j), Nat.xor_comm (vO v j) (u j), xor_cancel]
  rw [e2]; exact hu
/-- As many rows of one 1. -/
def unitsL (n : Nat) : Nat → List (List Nat)
  | 0 => []
  | k + 1 => unitsL n k ++ [eRow n k]
theorem unitsL_len (n k : Nat) : (unitsL n k).length = k := by
  induction k with
  | zero => rfl
  | succ k ih => rw [unitsL, List.length_append, ih]; rfl
theorem unitsL_wf (n k : Nat) : Wf n (unitsL n k) := by
  induction k with
  | zero => intro r hr; simp [unitsL] at hr
  | succ k ih => exact wf_snoc ih (eRow_len _ _) (eRow_by _ _)
theorem unitsL_get (n k : Nat) {i : Nat} (hi : i < k) : (unitsL n k).getD i [] = eRow n i := by
  induction k with
  | zero => omega
  | succ k ih =>
    rw [unitsL, List.getD_eq_getElem?_getD, List.getElem?_append, unitsL_len]
    by_cases h : i < k
    · rw [if_pos h, ← List.getD_eq_getElem?_getD]; exact ih h
    · obtain rfl : i = k := by omega
      simp
/-- The sum of products with a row of one 1. -/
theorem fnl_unit (v : Nat → Nat) (hv : Vb v) (k : Nat) : ∀ n, fnl (fun j => if j = k then 1 else 0) v n = if k < n then v k else 0 := by
  intro n
  induction n with
  | zero => rfl
  | succ n ih =>
    show fnl _ v n ^^^ fm (if n = k then 1 else 0) (v n) = _
    rw [ih]
    by_cases h : n = k
    · subst h
      rw [if_pos rfl, if_neg (by omega), if_pos (by omega), fm_oneL _ (hv n), Nat.zero_xor]
    · rw [if_neg h, fm_zero_left, Nat.xor_zero]
      by_cases h2 : k < n
      · rw [if_pos h2, if_pos (by omega)]
      · rw [if_neg h2, if_neg (by omega)]
theorem unit_vb (k : Nat) : Vb fun j => if j = k then 1 else 0 := fun j => by show (if j = k then 1 else 0) < 256; split <;> decide
theorem unitsL_rank (n : Nat) : (rref (unitsL n n)).length = n := by
  have h := rank_indep (unitsL_wf n n) fun j hj => by
    rw [unitsL_len] at hj
    refine ⟨_, unit_vb j, fun i hi => ?_, ?_⟩
    · rw [unitsL_get n n (by omega), fnl_unit _ (vO_byt (eRow_by n i)), if_pos hj]
      show (eRow n i).getD j 0 = 0
      rw [eRow_get, if_neg (by omega)]
    · rw [unitsL_get n n hj, fnl_unit _ (vO_byt (eRow_by n j)), if_pos hj]
      show (eRow n j).getD j 0 ≠ 0
      rw [eRow_get, if_pos ⟨rfl, hj⟩]
      decide
  rw [h, unitsL_len]
theorem units_full {n : Nat} {A : List (List Nat)} (hA : Wf n A) : (rref (A ++ unitsL n n)).length = n := by
  have hw := wf_app hA (unitsL_wf n n)
  have h1 := (rref_len hw).1
  have h2 := rref_le (unitsL_wf n n) hw fun v hv => hv.sub fun r hr => by rw [List.map_append]; exact List.mem_append_right _ hr
  rw [unitsL_rank] at h2
  omega
end Go.Proofs.Ytfbhbjhfebkpfaa
