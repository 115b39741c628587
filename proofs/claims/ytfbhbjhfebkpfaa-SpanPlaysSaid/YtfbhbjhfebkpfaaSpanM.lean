/- What is left of a row by rows that are reduced; what one row more spans. -/
import Derived.Test.YtfbhbjhfebkpfaaElim
namespace Go.Proofs.Ytfbhbjhfebkpfaa
set_option linter.unusedVariables false

/-- Where a row begins. -/
def leadN (r : List Nat) : Nat := r.findIdx (· != 0)
def leadI (r : List Nat) : Int := if leadN r < r.length then (leadN r : Int) else -1
theorem leadN_spec {r : List Nat} {j : Nat} (h1 : r.getD j 0 ≠ 0) (h2 : ∀ i, i < j → r.getD i 0 = 0) : leadN r = j ∧ j < r.length := by
  have hj : j < r.length := by
    rcases Nat.lt_or_ge j r.length with h | h
    · exact h
    · exact absurd (by rw [List.getD_eq_getElem?_getD, List.getElem?_eq_none h]; rfl) h1
  refine ⟨?_, hj⟩
  unfold leadN
  rw [List.findIdx_eq hj]
  refine ⟨?_, fun i hi => ?_⟩
  · rw [List.getD_eq_getElem?_getD, List.getElem?_eq_getElem hj] at h1
    simpa using h1
  · have := h2 i hi
    rw [List.getD_eq_getElem?_getD, List.getElem?_eq_getElem (by omega)] at this
    simpa using this
theorem leadN_at {r : List Nat} (h : leadN r < r.length) : r.getD (leadN r) 0 ≠ 0 ∧ ∀ i, i < leadN r → r.getD i 0 = 0 := by
  constructor
  · rw [List.getD_eq_getElem?_getD, List.getElem?_eq_getElem h]
    have := List.findIdx_getElem (p := fun x : Nat => x != 0) (xs := r) (w := h)
    exact bne_iff_ne.1 this
  · intro i hi
    have hi2 : i < r.length := by omega
    have := List.not_of_lt_findIdx (p := fun x : Nat => x != 0) (xs := r) hi
    rw [List.getD_eq_getElem?_getD, List.getElem?_eq_getElem hi2]
    simpa using this
theorem leadN_none {r : List Nat} (h : ¬ leadN r < r.length) (i : Nat) : r.getD i 0 = 0 := by
  rcases Nat.lt_or_ge i r.length with hi | hi
  · have := List.not_of_lt_findIdx (p := fun x : Nat => x != 0) (xs := r) (i := i) (by unfold leadN at h; omega)
    rw [List.getD_eq_getElem?_getD, List.getElem?_eq_getElem hi]
    simpa using this
  · rw [List.getD_eq_getElem?_getD, List.getElem?_eq_none hi]; rfl
theorem leadI_neg {r : List Nat} : leadI r < 0 ↔ vO r = vz := by
  unfold leadI
  constructor
  · intro h
    split at h
    · omega
    · rename_i hn; exact funext fun j => leadN_none hn j
  · intro h
    split
    · rename_i hl; exact absurd (congrFun h _) (leadN_at hl).1
    · omega
theorem leadI_bd (r : List Nat) : -1 ≤ leadI r ∧ leadI r < r.length ∨ leadI r = -1 := by
  unfold leadI; split <;> omega

/-- What is left of a row. -/
def restR : List (List Nat) → List Nat → List Nat
  | [], v => v
  | x :: R, v => restR R (axL (v.getD (leadN x) 0) x v)
theorem restR_snoc (R : List (List Nat)) : ∀ (x v : List Nat), restR (R ++ [x]) v = axL ((restR R v).getD (leadN x) 0) x (restR R v) := by
  induction R with
  | nil => intro x v; rfl
  | cons y R ih => intro x v; simp only [List.cons_append, restR]; exact ih x _
theorem restR_wf {n : Nat} : ∀ {R : List (List Nat)} {v : List Nat}, Wf n R → v.length = n → (∀ x ∈ v, x < 256) → (restR R v).length = n ∧ ∀ x ∈ restR R v, x < 256 := by
  intro R
  induction R with
  | nil => intro v _ h1 h2; exact ⟨h1, h2⟩
  | cons x R ih =>
    intro v hR h1 h2
    have hx := hR x List.mem_cons_self
    exact ih (fun r hr => hR r (List.mem_cons_of_mem _ hr)) (by rw [axL_len (by omega)]; exact h1) (axL_byt h2)
/-- The row, and what is left of it, part by what is spanned. -/
theorem restR_spn {n : Nat} : ∀ {R : List (List Nat)} {v : List Nat}, Wf n R → v.length = n → (∀ x ∈ v, x < 256) → ∃ u, Spn (R.map vO) u ∧ vO (restR R v) = vax 1 u (vO v) := by
  intro R
  induction R with
  | nil =>
    intro v _ h1 h2
    exact ⟨vz, .zero, funext fun j => by unfold vax vz; rw [fm_zero_right, Nat.xor_zero]; rfl⟩
  | cons x R ih =>
    intro v hR h1 h2
    have hx := hR x List.mem_cons_self
    obtain ⟨u, hu, e⟩ := ih (v := axL (v.getD (leadN x) 0) x v) (fun r hr => hR r (List.mem_cons_of_mem _ hr)) (by rw [axL_len (by omega)]; exact h1) (axL_byt h2)
    refine ⟨vax (v.getD (leadN x) 0) (vO x) u, ?_, ?_⟩
    · exact .add _ _ _ (getD_lt h2 _) List.mem_cons_self (hu.sub fun r hr => List.mem_cons_of_mem _ hr)
    · simp only [restR]
      rw [e, vO_ax (by omega)]
      funext j
      unfold vax
      rw [fm_oneL _ (hu.vb j), fm_oneL _ (xor_lt (hu.vb j) (fm_bd _ _)), Nat.xor_assoc, Nat.xor_comm (fm _ _)]
theorem restR_keep {n : Nat} {z : Nat} : ∀ {R : List (List Nat)} {v : List Nat}, Wf n R → v.length = n → (∀ r ∈ R, r.getD z 0 = 0) → (restR R v).getD z 0 = v.getD z 0 := by
  intro R
  induction R with
  | nil => intro v _ _ _; rfl
  | cons x R ih =>
    intro v hR h1 h2
    have hx := hR x List.mem_cons_self
    simp only [restR]
    rw [ih (fun r hr => hR r (List.mem_cons_of_mem _ hr)) (by rw [axL_len (by omega)]; exact h1) fun r hr => h2 r (List.mem_cons_of_mem _ hr), axL_get (by omega), h2 x List.mem_cons_self, fm_zero_right, Nat.xor_zero]
theorem restR_zero {n : Nat} : ∀ {R : List (List Nat)} {ls : List Nat} {v : List Nat}, Wf n R → v.length = n → (∀ x ∈ v, x < 256) → R.length = ls.length → (∀ (i k : Nat) r l, R[k]? = some r → ls[i]? = some l → r.getD l 0 = if k = i then 1 else 0) →
    (∀ (i : Nat) r l, R[i]? = some r → ls[i]? = some l → leadN r = l) → ∀ l ∈ ls, (restR R v).getD l 0 = 0 := by
  intro R
  induction R with
  | nil => intro ls v _ _ _ hl _ _ l hm; cases ls with
    | nil => simp at hm
    | cons a b => simp at hl
  | cons x R ih =>
    intro ls v hR h1 h2 hl h3 h4 l hm
    have hx := hR x List.mem_cons_self
    cases ls with
    | nil => simp at hl
    | cons m ls =>
      have hR' : Wf n R := fun r hr => hR r (List.mem_cons_of_mem _ hr)
      have hlen : (axL (v.getD (leadN x) 0) x v).length = n := by rw [axL_len (by omega)]; exact h1
      simp only [restR]
      rcases List.mem_cons.1 hm with e | e
      · subst e
        rw [restR_keep hR' hlen fun r hr => by
          obtain ⟨k, hk⟩ := List.getElem?_of_mem hr
          have := h3 0 (k + 1) r l (by simpa using hk) rfl
          simpa using this]
        have hlead := h4 0 x l rfl rfl
        have hone := h3 0 0 x l rfl rfl
        rw [axL_get (by omega), hlead, hone, if_pos rfl, fm_one _ (getD_lt h2 _), Nat.xor_self]
      · refine ih hR' hlen (axL_byt h2) (by simpa using hl) (fun i k r l' hr hl' => ?_) (fun i r l' hr hl' => h4 (i + 1) r l' (by simpa using hr) (by simpa using hl')) l e
        have := h3 (i + 1) (k + 1) r l' (by simpa using hr) (by simpa using hl')
        simpa using this
theorem Red.lead {n : Nat} {R : List (List Nat)} {ls : List Nat} (h : Red n R ls) {i l : Nat} {r : List Nat} (hr : R[i]? = some r) (hl : ls[i]? = some l) : leadN r = l ∧ l < r.length ∧ r.getD l 0 = 1 := by
  have e : (R.map vO)[i]? = some (vO r) := by rw [List.getElem?_map, hr]; rfl
  have h1 : r.getD l 0 = 1 := h.red.one i (vO r) l e hl
  have h2 := leadN_spec (r := r) (j := l) (by rw [h1]; decide) fun j hj => h.red.low i (vO r) l e hl j hj
  exact ⟨h2.1, h2.2, h1⟩
theorem Red.rest_zero {n : Nat} {R : List (List Nat)} {ls : List Nat} (h : Red n R ls) {v : List Nat} (hv : v.length = n) (hb : ∀ x ∈ v, x < 256) : ∀ l ∈ ls, (restR R v).getD l 0 = 0 := by
  refine restR_zero h.wf hv hb (by have := h.red.len; rwa [List.length_map] at this) (fun i k r l hr hl => ?_) fun i r l hr hl => (h.lead hr hl).1
  have e : (R.map vO)[k]? = some (vO r) := by rw [List.getElem?_map, hr]; rfl
  split
  · rename_i hk; subst hk; exact h.red.one k (vO r) l e hl
  · rename_i hk; exact h.red.zero i k (vO r) l e hl hk
theorem vax_one {u v : Nat → Nat} (hu : Vb u) (hv : Vb v) : vax 1 u (vax 1 u v) = v := vax_same
/-- It is noughts just if the row is spanned. -/
theorem Red.rest_spn {n : Nat} {R : List (List Nat)} {ls : List Nat} (h : Red n R ls) {v : List Nat} (hv : v.length = n) (hb : ∀ x ∈ v, x < 256) : vO (restR R v) = vz ↔ Spn (R.map vO) (vO v) := by
  obtain ⟨u, hu, e⟩ := restR_spn h.wf hv hb
  constructor
  · intro h0
    have : vO v = u := by
      rw [e] at h0
      funext j
      have := congrFun h0 j
      unfold vax vz at this
      rw [fm_oneL _ (hu.vb j)] at this
      exact xor_eq_zero' this
    rw [this]; exact hu
  · intro hs
    have h2 : Spn (R.map vO) (vO (restR R v)) := by rw [e]; exact Spn.ax h.wf.vb (by decide) hu hs
    exact h.red.eq_zero h2 (h.rest_zero hv hb)

theorem wf_snoc {n : Nat} {A : List (List Nat)} {v : List Nat} (hA : Wf n A) (hv : v.length = n) (hb : ∀ x ∈ v, x < 256) : Wf n (A ++ [v]) := by
  intro r hr
  rcases List.mem_append.1 hr with hr | hr
  · exact hA r hr
  · obtain rfl : r = v := by simpa using hr
    exact ⟨hv, hb⟩
theorem spn_snoc {n : Nat} {A B : List (List Nat)} {u v : List Nat} (hA : Wf n A) (hB : Wf n B) (hu : u.length = n ∧ ∀ x ∈ u, x < 256) (hv : v.length = n ∧ ∀ x ∈ v, x < 256)
    (h : ∀ w, Spn (A.map vO) w → Spn (B.map vO) w) (d : Nat → Nat) (hd : Spn (B.map vO) d) (he : vO u = vax 1 d (vO v)) {w : Nat → Nat} (hw : Spn ((A ++ [u]).map vO) w) : Spn ((B ++ [v]).map vO) w := by
  have hBv := wf_snoc hB hv.1 hv.2
  have up : ∀ {w}, Spn (B.map vO) w → Spn ((B ++ [v]).map vO) w := fun hw => hw.sub fun r hr => by rw [List.map_append]; exact List.mem_append_left _ hr
  refine hw.trans hBv.vb fun r hr => ?_
  rw [List.map_append] at hr
  rcases List.mem_append.1 hr with hr | hr
  · exact up (h r (Spn.mem hA.vb hr))
  · obtain rfl : r = vO u := by simpa using hr
    rw [he]
    exact Spn.ax hBv.vb (by decide) (up hd) (Spn.mem hBv.vb (by rw [List.map_append]; exact List.mem_append_right _ (by simp)))
theorem sp_self {n : Nat} {A : List (List Nat)} {v : List Nat} (hA : Wf n A) (hv : v.length = n) (hb : ∀ x ∈ v, x < 256) (h : Spn (A.map vO) (vO v)) : SpEq (A ++ [v]) A := by
  intro w
  constructor
  · intro hw
    refine hw.trans hA.vb fun r hr => ?_
    rw [List.map_append] at hr
    rcases List.mem_append.1 hr with hr | hr
    · exact Spn.mem hA.vb hr
    · obtain rfl : r = vO v := by simpa using hr
      exact h
  · exact fun hw => hw.sub fun r hr => by rw [List.map_append]; exact List.mem_append_left _ hr
/-- Is a row new? -/
theorem rank_new {n : Nat} {A : List (List Nat)} {v : List Nat} (hA : Wf n A) (hv : v.length = n) (hb : ∀ x ∈ v, x < 256) :
    (rref A).length ≤ (rref (A ++ [v])).length ∧ ((rref (A ++ [v])).length = (rref A).length ↔ vO (restR (rref A) v) = vz) := by
  have hAv := wf_snoc hA hv hb
  have up : ∀ w, Spn (A.map vO) w → Spn ((A ++ [v]).map vO) w := fun w hw => hw.sub fun r hr => by rw [List.map_append]; exact List.mem_append_left _ hr
  obtain ⟨ls, hR, hS⟩ := rref_spec hA
  refine ⟨rref_le hA hAv up, ?_, ?_⟩
  · intro h
    have := rref_whole hA hAv up (by omega)
    rw [hR.rest_spn hv hb]
    exact (hS _).1 ((this _).2 (Spn.mem hAv.vb (by rw [List.map_append]; exact List.mem_append_right _ (by simp))))
  · intro h
    rw [hR.rest_spn hv hb] at h
    rw [rref_eq hAv hA (sp_self hA hv hb ((hS _).2 h))]
/-- One row more: by what is left of it. -/
theorem rref_add {n : Nat} {A : List (List Nat)} {v : List Nat} (hA : Wf n A) (hv : v.length = n) (hb : ∀ x ∈ v, x < 256) : rref (rref A ++ [restR (rref A) v]) = rref (A ++ [v]) := by
  obtain ⟨ls, hR, hS⟩ := rref_spec hA
  have hr := restR_wf hR.wf hv hb
  obtain ⟨u, hu, e⟩ := restR_spn hR.wf hv hb
  have e2 : vO v = vax 1 u (vO (restR (rref A) v)) := by rw [e, vax_same]
  refine rref_eq (wf_snoc hR.wf hr.1 hr.2) (wf_snoc hA hv hb) fun w => ⟨fun hw => ?_, fun hw => ?_⟩
  · exact spn_snoc hR.wf hA ⟨hr.1, hr.2⟩ ⟨hv, hb⟩ (fun w hw => (hS w).2 hw) u ((hS u).2 hu) e hw
  · exact spn_snoc hA hR.wf ⟨hv, hb⟩ ⟨hr.1, hr.2⟩ (fun w hw => (hS w).1 hw) u hu e2 hw
theorem rref_same {n : Nat} {A : List (List Nat)} {v : List Nat} (hA : Wf n A) (hv : v.length = n) (hb : ∀ x ∈ v, x < 256) (h : vO (restR (rref A) v) = vz) : rref (A ++ [v]) = rref A := by
  obtain ⟨ls, hR, hS⟩ := rref_spec hA
  rw [hR.rest_spn hv hb] at h
  exact rref_eq (wf_snoc hA hv hb) hA (sp_self hA hv hb ((hS _).2 h))
end Go.Proofs.Ytfbhbjhfebkpfaa
