/- Matrices over the field of 256, plainly: products, turned ones, side by side. -/
import Derived.Test.YtfbhbjhfebkpfaaElim
namespace Go.Proofs.Ytfbhbjhfebkpfaa
set_option linter.unusedVariables false

/-- The first k of the rows of x, each so often as v says. -/
def tmp (x : List (List Nat)) (v : Nat → Nat) : Nat → Nat → Nat
  | 0 => vz
  | k + 1 => vax (v k) (vO (x.getD k [])) (tmp x v k)
theorem vO_getD {n : Nat} {x : List (List Nat)} (h : Wf n x) (k : Nat) : Vb (vO (x.getD k [])) := by
  rcases h.row k with ⟨h1, _⟩ | ⟨_, h1, _⟩
  · rw [h1]; exact fun j => by simp [vO]
  · exact vO_byt h1
theorem tmp_vb {x : List (List Nat)} {v : Nat → Nat} (k : Nat) : Vb (tmp x v k) := by
  cases k with
  | zero => exact vb_z
  | succ k => intro j; have : ∀ k, Vb (tmp x v k) := by
                intro k
                induction k with
                | zero => exact vb_z
                | succ k ih => exact vb_ax ih
              exact this (k + 1) j
theorem tmp_ax {n : Nat} {x : List (List Nat)} (hx : Wf n x) {c : Nat} {u v : Nat → Nat} (hc : c < 256) (hu : Vb u) (hv : Vb v) (k : Nat) : tmp x (vax c u v) k = vax c (tmp x u k) (tmp x v k) := by
  induction k with
  | zero => exact vax_vz.symm
  | succ k ih =>
    simp only [tmp]
    rw [ih]
    funext j
    have hr := vO_getD hx k j
    have h1 := tmp_vb (x := x) (v := u) k j
    show tmp x v k j ^^^ fm c (tmp x u k j) ^^^ fm (v k ^^^ fm c (u k)) (vO (x.getD k []) j) = (tmp x v k j ^^^ fm (v k) (vO (x.getD k []) j)) ^^^ fm c (tmp x u k j ^^^ fm (u k) (vO (x.getD k []) j))
    rw [fm_xor_left (hv k) (fm_bd _ _) hr, fm_xor hc h1 (fm_bd _ _), fm_assoc c (u k) _ hc (hu k) hr]
    ac_rfl
theorem tmp_zero {x : List (List Nat)} (k : Nat) : tmp x vz k = vz := by
  induction k with
  | zero => rfl
  | succ k ih => simp only [tmp]; rw [ih]; exact vax_zero
theorem tmp_spn {n : Nat} {x : List (List Nat)} (hx : Wf n x) {v : Nat → Nat} (hv : Vb v) (k : Nat) (hk : k ≤ x.length) : Spn (x.map vO) (tmp x v k) := by
  induction k with
  | zero => exact .zero
  | succ k ih => exact Spn.ax hx.vb (hv k) (hx.spn (by omega)) (ih (by omega))
/-- What is spanned goes to what is spanned. -/
theorem spn_tmp {n : Nat} {x : List (List Nat)} (hx : Wf n x) {M : List (Nat → Nat)} (hM : ∀ r ∈ M, Vb r) (k : Nat) {v : Nat → Nat} (hv : Spn M v) : Spn (M.map fun r => tmp x r k) (tmp x v k) := by
  induction hv with
  | zero => rw [tmp_zero]; exact .zero
  | add c r v hc hr hs ih =>
    rw [tmp_ax hx hc (hM r hr) hs.vb]
    exact .add c _ _ hc (List.mem_map_of_mem hr) ih

/-- A row of a product, as it is made. -/
def mrow (w : Nat) (r : List Nat) (x : List (List Nat)) : Nat → List Nat
  | 0 => List.replicate w 0
  | k + 1 => axL (r.getD k 0) (x.getD k []) (mrow w r x k)
def mulM (a x : List (List Nat)) : List (List Nat) := a.map fun r => mrow (wid x) r x x.length
theorem mrow_ok {w : Nat} {r : List Nat} {x : List (List Nat)} (hx : Wf w x) (k : Nat) (hk : k ≤ x.length) : (mrow w r x k).length = w ∧ (∀ y ∈ mrow w r x k, y < 256) ∧ vO (mrow w r x k) = tmp x (vO r) k := by
  induction k with
  | zero =>
    refine ⟨by simp [mrow], fun y hy => ?_, ?_⟩
    · have := List.eq_of_mem_replicate hy
      omega
    · exact vO_zero (n := w) (by simp [mrow]) fun j hj => by simp [mrow, List.getD_eq_getElem?_getD, List.getElem?_replicate, hj]
  | succ k ih =>
    obtain ⟨h1, h2, h3⟩ := ih (by omega)
    have hg := hx.get (i := k) (by omega)
    simp only [mrow, tmp]
    refine ⟨by rw [axL_len (by omega)]; exact h1, axL_byt h2, ?_⟩
    rw [vO_ax (by omega), h3]
    rfl
theorem mulM_wf {w : Nat} {a x : List (List Nat)} (hx : Wf w x) (h0 : x ≠ []) : Wf w (mulM a x) := by
  intro r hr
  obtain ⟨y, _, rfl⟩ := List.mem_map.1 hr
  rw [wid_eq hx h0]
  have := mrow_ok (r := y) hx x.length (Nat.le_refl _)
  exact ⟨this.1, this.2.1⟩
theorem mulM_vO {w : Nat} {a x : List (List Nat)} (hx : Wf w x) (h0 : x ≠ []) : (mulM a x).map vO = (a.map vO).map fun v => tmp x v x.length := by
  unfold mulM
  rw [List.map_map, List.map_map]
  refine List.map_congr_left fun r _ => ?_
  show vO (mrow (wid x) r x x.length) = _
  rw [wid_eq hx h0]
  exact (mrow_ok (r := r) hx x.length (Nat.le_refl _)).2.2
/-- A product's rank is no greater than either's. -/
theorem rank_mul {n w : Nat} {a x : List (List Nat)} (ha : Wf n a) (hx : Wf w x) (h0 : x ≠ []) : (rref (mulM a x)).length ≤ (rref a).length ∧ (rref (mulM a x)).length ≤ (rref x).length := by
  have hw := mulM_wf (a := a) hx h0
  obtain ⟨ls, hR, hS⟩ := rref_spec ha
  constructor
  · have hw2 := mulM_wf (a := rref a) hx h0
    have := rref_le hw hw2 fun v hv => by
      rw [mulM_vO hx h0] at hv ⊢
      refine hv.trans (fun r hr => ?_) fun r hr => ?_
      · obtain ⟨y, hy, rfl⟩ := List.mem_map.1 hr
        exact tmp_vb _
      · obtain ⟨y, hy, rfl⟩ := List.mem_map.1 hr
        exact spn_tmp hx hR.wf.vb _ ((hS y).1 (Spn.mem ha.vb hy))
    have h2 := (rref_len hw2).2
    have h3 : (mulM (rref a) x).length = (rref a).length := by simp [mulM]
    omega
  · refine rref_le hw hx fun v hv => ?_
    rw [mulM_vO hx h0] at hv
    refine hv.trans hx.vb fun r hr => ?_
    obtain ⟨y, hy, rfl⟩ := List.mem_map.1 hr
    exact tmp_spn hx (ha.vb y hy) _ (Nat.le_refl _)

/-- The sum of the rows T says at the beginnings, each so often as the reduced rows say at j. -/
def colc : List (Nat → Nat) → List Nat → (Nat → Nat → Nat) → Nat → Nat → Nat
  | r :: M, l :: ls, T, j => vax (r j) (T l) (colc M ls T j)
  | _, _, _, _ => vz
theorem colc_eq (M : List (Nat → Nat)) : ∀ (ls : List Nat) (T : Nat → Nat → Nat) (v : Nat → Nat) (i j : Nat), (∀ l, T l i = v l) → colc M ls T j i = lco M ls v j := by
  induction M with
  | nil => intro ls T v i j _; rfl
  | cons r M ih =>
    intro ls T v i j h
    cases ls with
    | nil => rfl
    | cons l ls =>
      simp only [colc, lco, vax]
      rw [ih ls T v i j h, h l, fm_comm]
theorem colc_spn (M : List (Nat → Nat)) : ∀ (ls : List Nat) (T : Nat → Nat → Nat) (j : Nat) (N : List (Nat → Nat)), (∀ r ∈ M, Vb r) → (∀ l ∈ ls, T l ∈ N) → Spn N (colc M ls T j) := by
  induction M with
  | nil => intro ls T j N _ _; exact .zero
  | cons r M ih =>
    intro ls T j N h1 h2
    cases ls with
    | nil => exact .zero
    | cons l ls => exact .add _ _ _ (h1 r List.mem_cons_self j) (h2 l List.mem_cons_self) (ih ls T j N (fun r hr => h1 r (List.mem_cons_of_mem _ hr)) fun l hl => h2 l (List.mem_cons_of_mem _ hl))
theorem rank_turn {n m : Nat} {A T : List (List Nat)} (hA : Wf n A) (hT : Wf m T) (hl : T.length = n) (h : ∀ i j, gt T j i = gt A i j) : (rref T).length ≤ (rref A).length := by
  obtain ⟨ls, hR, hS⟩ := rref_spec hA
  have hlen : (rref A).length = ls.length := by have := hR.red.len; rwa [List.length_map] at this
  have hw : Wf m (ls.map fun l => T.getD l []) := by
    intro r hr
    obtain ⟨l, hl', rfl⟩ := List.mem_map.1 hr
    exact hT.get (by have := hR.lt l hl'; omega)
  have h1 := rref_le hT hw fun v hv => by
    refine spn_rows hT hw (fun j hj => ?_) hv
    have e : vO (T.getD j []) = colc ((rref A).map vO) ls (fun l => vO (T.getD l [])) j := by
      funext i
      have h2 : ∀ v, Spn (A.map vO) v → lco ((rref A).map vO) ls v = v := fun v hv => hR.red.eq_lco ((hS v).1 hv)
      rcases Nat.lt_or_ge i A.length with hi | hi
      · have e1 := colc_eq ((rref A).map vO) ls (fun l => vO (T.getD l [])) (vO (A.getD i [])) i j fun l => h i l
        rw [e1, h2 _ (hA.spn hi)]
        exact h i j
      · have e1 := colc_eq ((rref A).map vO) ls (fun l => vO (T.getD l [])) vz i j fun l => by have := h i l; rw [gt_out hi] at this; exact this
        rw [e1, h2 vz .zero]
        have := h i j
        rw [gt_out hi] at this; exact this
    rw [e]
    exact colc_spn _ ls _ j _ hR.wf.vb fun l hl' => List.mem_map.2 ⟨_, List.mem_map.2 ⟨l, hl', rfl⟩, rfl⟩
  have h2 := (rref_len hw).2
  rw [List.length_map] at h2
  omega
end Go.Proofs.Ytfbhbjhfebkpfaa
