/- Elimination, column by column, plainly: what comes of it spans the same, and is reduced. -/
import Derived.Test.YtfbhbjhfebkpfaaLin
namespace Go.Proofs.Ytfbhbjhfebkpfaa
set_option linter.unusedVariables false

/-- What stands in row i, column j. -/
def gt (M : List (List Nat)) (i j : Nat) : Nat := (M.getD i []).getD j 0
def axL (c : Nat) (a b : List Nat) : List Nat := List.zipWith (fun x y => y ^^^ fm c x) a b
def scL (c : Nat) (a : List Nat) : List Nat := a.map fun x => fm c x
def vO (r : List Nat) : Nat → Nat := fun j => r.getD j 0
def swp (M : List (List Nat)) (i j : Nat) : List (List Nat) := (M.set i (M.getD j [])).set j (M.getD i [])
/-- The first k rows without what stands in the column, by the row at top. -/
def elimTo (M : List (List Nat)) (top col k : Nat) : List (List Nat) := M.mapIdx fun i r => if i < k ∧ i ≠ top then axL (r.getD col 0) (M.getD top []) r else r
/-- The first of n rows from i on that has no 0 in the column. -/
def fndF (M : List (List Nat)) (col : Nat) : Nat → Nat → Option Nat
  | _, 0 => none
  | i, n + 1 => if gt M i col ≠ 0 then some i else fndF M col (i + 1) n
def pivM (M : List (List Nat)) (top col p : Nat) : List (List Nat) := (swp M top p).set top (scL (fi (gt (swp M top p) top col)) ((swp M top p).getD top []))
def stepM (M : List (List Nat)) (top col : Nat) : List (List Nat) × Nat :=
  match fndF M col top (M.length - top) with
  | none => (M, top)
  | some p => (elimTo (pivM M top col p) top col M.length, top + 1)
/-- So many columns are looked at, from the left; how many rows begin there. -/
def redF (M : List (List Nat)) : Nat → List (List Nat) × Nat
  | 0 => (M, 0)
  | col + 1 => stepM (redF M col).1 (redF M col).2 col
def wid (M : List (List Nat)) : Nat := (M.getD 0 []).length
def rref (M : List (List Nat)) : List (List Nat) := (redF M (wid M)).1.take (redF M (wid M)).2
/-- Rows of n bytes. -/
def Wf (n : Nat) (M : List (List Nat)) : Prop := ∀ r ∈ M, r.length = n ∧ ∀ x ∈ r, x < 256

theorem getD_lt {r : List Nat} (h : ∀ x ∈ r, x < 256) (j : Nat) : r.getD j 0 < 256 := by
  rcases Nat.lt_or_ge j r.length with hj | hj
  · rw [List.getD_eq_getElem?_getD, List.getElem?_eq_getElem hj]; exact h _ (List.getElem_mem hj)
  · rw [List.getD_eq_getElem?_getD, List.getElem?_eq_none hj]; decide
theorem vO_byt {r : List Nat} (h : ∀ x ∈ r, x < 256) : Vb (vO r) := fun j => getD_lt h j
theorem Wf.row {n : Nat} {M : List (List Nat)} (h : Wf n M) (i : Nat) : (M.getD i [] = [] ∧ M.length ≤ i) ∨ ((M.getD i []).length = n ∧ (∀ x ∈ M.getD i [], x < 256) ∧ i < M.length ∧ M.getD i [] ∈ M) := by
  rcases Nat.lt_or_ge i M.length with hi | hi
  · rw [List.getD_eq_getElem?_getD, List.getElem?_eq_getElem hi]
    have := h _ (List.getElem_mem hi)
    exact .inr ⟨this.1, this.2, hi, List.getElem_mem hi⟩
  · rw [List.getD_eq_getElem?_getD, List.getElem?_eq_none hi]; exact .inl ⟨rfl, hi⟩
theorem Wf.lt {n : Nat} {M : List (List Nat)} (h : Wf n M) (i j : Nat) : gt M i j < 256 := by
  unfold gt
  rcases h.row i with ⟨h1, _⟩ | ⟨_, h1, _⟩
  · rw [h1]; simp
  · exact getD_lt h1 j
theorem gt_out {M : List (List Nat)} {i : Nat} (h : M.length ≤ i) (j : Nat) : gt M i j = 0 := by
  unfold gt; rw [List.getD_eq_getElem?_getD (l := M), List.getElem?_eq_none h]; simp
theorem axL_len {c : Nat} {a b : List Nat} (h : a.length = b.length) : (axL c a b).length = b.length := by unfold axL; rw [List.length_zipWith]; omega
theorem axL_get {c : Nat} {a b : List Nat} (h : a.length = b.length) (j : Nat) : (axL c a b).getD j 0 = b.getD j 0 ^^^ fm c (a.getD j 0) := by
  unfold axL
  rcases Nat.lt_or_ge j b.length with hj | hj
  · simp only [List.getD_eq_getElem?_getD, List.getElem?_zipWith, List.getElem?_eq_getElem hj, List.getElem?_eq_getElem (show j < a.length by omega), Option.getD_some]
  · simp only [List.getD_eq_getElem?_getD, List.getElem?_zipWith, List.getElem?_eq_none hj, List.getElem?_eq_none (show a.length ≤ j by omega), Option.getD_none, fm_zero_right]; rfl
theorem axL_byt {c : Nat} {a b : List Nat} (h : ∀ x ∈ b, x < 256) : ∀ x ∈ axL c a b, x < 256 := by
  intro x hx
  unfold axL at hx
  obtain ⟨i, hi⟩ := List.getElem?_of_mem hx
  rw [List.getElem?_zipWith] at hi
  cases ha : a[i]? with
  | none => simp [ha] at hi
  | some u =>
    cases hb : b[i]? with
    | none => simp [ha, hb] at hi
    | some v =>
      simp [ha, hb] at hi
      rw [← hi]
      exact xor_lt (h v (List.mem_of_getElem? hb)) (fm_bd _ _)
theorem scL_get (c : Nat) (a : List Nat) (j : Nat) : (scL c a).getD j 0 = fm c (a.getD j 0) := by
  unfold scL
  simp only [List.getD_eq_getElem?_getD, List.getElem?_map]
  cases a[j]? with
  | none => simp [fm_zero_right]
  | some x => simp
theorem axL_zero {a b : List Nat} (h : a.length = b.length) : axL 0 a b = b := by
  refine List.ext_getElem? fun i => ?_
  unfold axL
  rw [List.getElem?_zipWith]
  rcases Nat.lt_or_ge i b.length with hj | hj
  · simp only [List.getElem?_eq_getElem hj, List.getElem?_eq_getElem (show i < a.length by omega), fm_zero_left, Nat.xor_zero]
  · simp only [List.getElem?_eq_none hj, List.getElem?_eq_none (show a.length ≤ i by omega)]
theorem vO_ax {c : Nat} {a b : List Nat} (h : a.length = b.length) : vO (axL c a b) = vax c (vO a) (vO b) := funext fun j => axL_get h j
theorem vO_sc (c : Nat) (a : List Nat) : vO (scL c a) = vax c (vO a) vz := funext fun j => by
  unfold vax vz; rw [Nat.zero_xor]; exact scL_get c a j
theorem vO_inj {n : Nat} {a b : List Nat} (ha : a.length = n) (hb : b.length = n) (h : vO a = vO b) : a = b := by
  refine List.ext_getElem (by omega) fun i h1 h2 => ?_
  have := congrFun h i
  simpa [vO, h1, h2] using this
theorem vO_zero {n : Nat} {a : List Nat} (ha : a.length = n) (h : ∀ j, j < n → a.getD j 0 = 0) : vO a = vz := funext fun j => by
  rcases Nat.lt_or_ge j n with hj | hj
  · exact h j hj
  · unfold vO vz; rw [List.getD_eq_getElem?_getD, List.getElem?_eq_none (by omega)]; rfl

theorem fndF_some {M : List (List Nat)} {col : Nat} : ∀ (n i p : Nat), fndF M col i n = some p → i ≤ p ∧ p < i + n ∧ gt M p col ≠ 0 ∧ ∀ k, i ≤ k → k < p → gt M k col = 0 := by
  intro n
  induction n with
  | zero => intro i p h; simp [fndF] at h
  | succ n ih =>
    intro i p h
    rw [fndF] at h
    split at h
    · rename_i hg
      obtain rfl : i = p := by simpa using h
      exact ⟨Nat.le_refl _, by omega, hg, fun k h1 h2 => by omega⟩
    · rename_i hg
      obtain ⟨h1, h2, h3, h4⟩ := ih (i + 1) p h
      refine ⟨by omega, by omega, h3, fun k hk1 hk2 => ?_⟩
      by_cases hk : k = i
      · subst hk; exact Classical.byContradiction fun h => hg h
      · exact h4 k (by omega) hk2
theorem fndF_none {M : List (List Nat)} {col : Nat} : ∀ (n i : Nat), fndF M col i n = none → ∀ k, i ≤ k → k < i + n → gt M k col = 0 := by
  intro n
  induction n with
  | zero => intro i h k h1 h2; omega
  | succ n ih =>
    intro i h k h1 h2
    rw [fndF] at h
    split at h
    · simp at h
    · rename_i hg
      by_cases hk : k = i
      · subst hk; exact Classical.byContradiction fun h => hg h
      · exact ih (i + 1) h k (by omega) (by omega)

def sg (a b k : Nat) : Nat := if k = a then b else if k = b then a else k
theorem swp_len (M : List (List Nat)) (i j : Nat) : (swp M i j).length = M.length := by simp [swp]
theorem swp_row {M : List (List Nat)} {i j : Nat} (hi : i < M.length) (hj : j < M.length) (k : Nat) : (swp M i j).getD k [] = M.getD (sg i j k) [] := by
  unfold swp sg
  simp only [List.getD_eq_getElem?_getD, List.getElem?_set, List.length_set]
  by_cases h1 : k = i
  · subst h1
    by_cases h2 : j = k
    · subst h2; simp [hi]
    · simp [hi, h2]
  · by_cases h2 : k = j
    · subst h2; simp [hj, h1]
    · rw [if_neg (fun e => h2 e.symm), if_neg (fun e => h1 e.symm), if_neg h1, if_neg h2]
theorem pivM_len (M : List (List Nat)) (top col p : Nat) : (pivM M top col p).length = M.length := by simp [pivM, swp_len]
theorem pivM_row {M : List (List Nat)} {top col p : Nat} (ht : top < M.length) (hp : p < M.length) (k : Nat) : (pivM M top col p).getD k [] = if k = top then scL (fi (gt M p col)) (M.getD p []) else M.getD (sg top p k) [] := by
  have e1 := swp_row ht hp top
  have e2 : sg top p top = p := by unfold sg; simp
  rw [e2] at e1
  unfold pivM
  have e3 : gt (swp M top p) top col = gt M p col := by unfold gt; rw [e1]
  rw [e3, e1]
  by_cases h : k = top
  · subst h; simp [List.getD_eq_getElem?_getD, swp_len, ht]
  · rw [if_neg h, ← swp_row ht hp k]
    simp only [List.getD_eq_getElem?_getD, List.getElem?_set, if_neg (fun e : top = k => h e.symm)]
theorem elimTo_len (M : List (List Nat)) (top col k : Nat) : (elimTo M top col k).length = M.length := by simp [elimTo]
theorem elimTo_row {M : List (List Nat)} (top col k : Nat) {i : Nat} (hi : i < M.length) : (elimTo M top col k).getD i [] = if i < k ∧ i ≠ top then axL (gt M i col) (M.getD top []) (M.getD i []) else M.getD i [] := by
  unfold elimTo gt
  simp only [List.getD_eq_getElem?_getD, List.getElem?_mapIdx, List.getElem?_eq_getElem hi, Option.map_some, Option.getD_some]
theorem elimTo_zero (M : List (List Nat)) (top col : Nat) : elimTo M top col 0 = M := by
  refine List.ext_getElem? fun i => ?_
  unfold elimTo
  rw [List.getElem?_mapIdx]
  cases M[i]? <;> simp
/-- One row more. -/
theorem elimTo_step {n : Nat} {M : List (List Nat)} (hM : Wf n M) {top col k : Nat} (hk : k < M.length) : elimTo M top col (k + 1) = if k = top then elimTo M top col k else (elimTo M top col k).set k (axL (gt M k col) (M.getD top []) (M.getD k [])) := by
  split
  · rename_i e
    subst e
    refine List.ext_getElem? fun i => ?_
    unfold elimTo
    simp only [List.getElem?_mapIdx]
    cases M[i]? with
    | none => rfl
    | some r =>
      simp only [Option.map_some]
      by_cases h : i = k
      · subst h; simp
      · by_cases h2 : i < k
        · simp [h2, show i < k + 1 by omega]
        · simp [h2, show ¬ i < k + 1 by omega]
  · rename_i e
    refine List.ext_getElem? fun i => ?_
    rw [List.getElem?_set]
    by_cases h : k = i
    · subst h
      rw [if_pos rfl, if_pos (by rw [elimTo_len]; exact hk)]
      unfold elimTo gt
      simp only [List.getElem?_mapIdx, List.getD_eq_getElem?_getD, List.getElem?_eq_getElem hk, Option.map_some, Option.getD_some]
      rw [if_pos ⟨by omega, e⟩]
    · rw [if_neg h]
      unfold elimTo
      simp only [List.getElem?_mapIdx]
      cases M[i]? with
      | none => rfl
      | some r =>
        simp only [Option.map_some]
        by_cases h2 : i < k
        · simp [h2, show i < k + 1 by omega]
        · simp [h2, show ¬ i < k + 1 by omega]

theorem getD_memr {M : List (List Nat)} {i : Nat} (h : i < M.length) : M.getD i [] ∈ M := by
  rw [List.getD_eq_getElem?_getD, List.getElem?_eq_getElem h]; exact List.getElem_mem h
theorem wf_of {n : Nat} {M : List (List Nat)} (h : ∀ i, i < M.length → (M.getD i []).length = n ∧ ∀ x ∈ M.getD i [], x < 256) : Wf n M := by
  intro r hr
  obtain ⟨i, hi, rfl⟩ := List.getElem_of_mem hr
  have := h i hi
  rw [List.getD_eq_getElem?_getD, List.getElem?_eq_getElem hi] at this
  exact this
theorem Wf.get {n : Nat} {M : List (List Nat)} (h : Wf n M) {i : Nat} (hi : i < M.length) : (M.getD i []).length = n ∧ ∀ x ∈ M.getD i [], x < 256 := h _ (getD_memr hi)
theorem sg_lt {a b k m : Nat} (ha : a < m) (hb : b < m) (hk : k < m) : sg a b k < m := by unfold sg; split; exact hb; split; exact ha; exact hk
theorem sg_sg (a b k : Nat) : sg a b (sg a b k) = k := by
  unfold sg
  by_cases h1 : k = a
  · subst h1
    by_cases h2 : b = k
    · simp [h2]
    · simp [h2]
  · by_cases h2 : k = b
    · subst h2; simp [h1]
    · simp [h1, h2]
theorem pivM_wf {n : Nat} {M : List (List Nat)} (hM : Wf n M) {top col p : Nat} (ht : top < M.length) (hp : p < M.length) : Wf n (pivM M top col p) := by
  refine wf_of fun i hi => ?_
  rw [pivM_len] at hi
  rw [pivM_row ht hp i]
  split
  · have := hM.get hp
    exact ⟨by rw [scL, List.length_map]; exact this.1, fun x hx => by
      simp only [scL, List.mem_map] at hx
      obtain ⟨y, _, rfl⟩ := hx
      exact fm_bd _ _⟩
  · exact hM.get (sg_lt ht hp hi)
theorem elimTo_wf {n : Nat} {M : List (List Nat)} (hM : Wf n M) {top : Nat} (col k : Nat) (ht : top < M.length) : Wf n (elimTo M top col k) := by
  refine wf_of fun i hi => ?_
  rw [elimTo_len] at hi
  rw [elimTo_row top col k hi]
  have h1 := hM.get hi
  have h2 := hM.get ht
  split
  · exact ⟨by rw [axL_len (by omega)]; exact h1.1, axL_byt h1.2⟩
  · exact h1

/-- Where elimination is behind so many columns. -/
structure Inv (n : Nat) (M : List (List Nat)) (col top : Nat) (ls : List Nat) : Prop where
  wf : Wf n M
  cnt : ls.length = top
  le : top ≤ M.length
  up : ls.Pairwise (· < ·)
  lt : ∀ l ∈ ls, l < col
  piv : ∀ (i : Nat) l, ls[i]? = some l → ∀ k, k < M.length → gt M k l = if k = i then 1 else 0
  low : ∀ (i : Nat) l, ls[i]? = some l → ∀ j, j < l → gt M i j = 0
  rest : ∀ i, top ≤ i → ∀ j, j < col → gt M i j = 0

/-- The rows behind one column. -/
theorem elim_get {n : Nat} {M : List (List Nat)} (hM : Wf n M) {top col p : Nat} (ht : top < M.length) (hp : p < M.length) {k : Nat} (hk : k < M.length) (j : Nat) :
    gt (elimTo (pivM M top col p) top col M.length) k j = if k = top then fm (fi (gt M p col)) (gt M p j) else gt M (sg top p k) j ^^^ fm (gt M (sg top p k) col) (fm (fi (gt M p col)) (gt M p j)) := by
  have hw := pivM_wf (col := col) hM ht hp
  have hl : k < (pivM M top col p).length := by rw [pivM_len]; exact hk
  have e0 : (pivM M top col p).getD top [] = scL (fi (gt M p col)) (M.getD p []) := by rw [pivM_row ht hp top, if_pos rfl]
  conv => lhs; unfold gt
  rw [elimTo_row top col _ hl]
  by_cases h : k = top
  · subst h
    rw [if_neg (by simp), if_pos rfl, e0, scL_get]
    rfl
  · have e1 : (pivM M top col p).getD k [] = M.getD (sg top p k) [] := by rw [pivM_row ht hp k, if_neg h]
    have e2 : gt (pivM M top col p) k col = gt M (sg top p k) col := by unfold gt; rw [e1]
    have h1 := hM.get (sg_lt ht hp hk)
    have h2 := hM.get hp
    rw [if_pos ⟨hk, h⟩, if_neg h, e2, e1, e0, axL_get (by simp only [scL, List.length_map]; omega), scL_get]
    rfl
theorem Inv.step {n : Nat} {M : List (List Nat)} {col top : Nat} {ls : List Nat} (h : Inv n M col top ls) : ∃ ls', Inv n (stepM M top col).1 (col + 1) (stepM M top col).2 ls' := by
  unfold stepM
  cases hf : fndF M col top (M.length - top) with
  | none =>
    refine ⟨ls, h.wf, h.cnt, h.le, h.up, fun l hl => by have := h.lt l hl; omega, h.piv, h.low, fun i hi j hj => ?_⟩
    by_cases hjc : j = col
    · subst hjc
      rcases Nat.lt_or_ge i M.length with hl | hl
      · exact fndF_none _ _ hf i hi (by omega)
      · exact gt_out hl j
    · exact h.rest i hi j (by omega)
  | some p =>
    dsimp only
    obtain ⟨p1, p2, p3, -⟩ := fndF_some _ _ _ hf
    have hp : p < M.length := by omega
    have ht : top < M.length := by omega
    have hG := fun k (hk : k < M.length) j => elim_get (col := col) h.wf ht hp hk j
    have hlen : (elimTo (pivM M top col p) top col M.length).length = M.length := by rw [elimTo_len, pivM_len]
    have hz : ∀ j, j < col → fm (fi (gt M p col)) (gt M p j) = 0 := fun j hj => by rw [h.rest p p1 j hj, fm_zero_right]
    have hone : fm (fi (gt M p col)) (gt M p col) = 1 := by rw [fm_comm]; exact fm_inv p3 (h.wf.lt p col)
    have hsz : ∀ k j, top ≤ k → j < col → gt M (sg top p k) j = 0 := fun k j hk hj => by
      refine h.rest _ ?_ j hj
      unfold sg; split
      · exact p1
      · split <;> omega
    have hcol : ∀ k, k < M.length → gt (elimTo (pivM M top col p) top col M.length) k col = if k = top then 1 else 0 := fun k hk => by
      rw [hG k hk, hone]
      split
      · rfl
      · rw [fm_one _ (h.wf.lt _ _), Nat.xor_self]
    refine ⟨ls ++ [col], elimTo_wf (pivM_wf h.wf ht hp) _ _ (by rw [pivM_len]; exact ht), by simp [h.cnt], by rw [hlen]; exact ht, ?_, ?_, ?_, ?_, ?_⟩
    · rw [List.pairwise_append]
      exact ⟨h.up, List.pairwise_singleton _ _, fun a ha b hb => by
        obtain rfl : b = col := by simpa using hb
        exact h.lt a ha⟩
    · intro l hl
      rcases List.mem_append.1 hl with hl | hl
      · have := h.lt l hl; omega
      · obtain rfl : l = col := by simpa using hl
        omega
    · intro i l hl k hk
      rw [hlen] at hk
      rcases Nat.lt_or_ge i ls.length with hi | hi
      · rw [List.getElem?_append_left hi] at hl
        have hlc := h.lt l (List.mem_of_getElem? hl)
        have hit : i < top := by have := h.cnt; omega
        rw [hG k hk, hz l hlc]
        split
        · rename_i e; subst e; rw [if_neg (by omega)]
        · rename_i e
          rw [fm_zero_right, Nat.xor_zero]
          by_cases hkp : k = p
          · subst hkp
            rw [hsz k l p1 hlc, if_neg (by omega)]
          · have : sg top p k = k := by unfold sg; rw [if_neg e, if_neg hkp]
            rw [this]
            exact h.piv i l hl k hk
      · rw [List.getElem?_append_right hi] at hl
        have hi0 : i - ls.length = 0 := by
          have := (List.getElem?_eq_some_iff.1 hl).1
          simp at this; omega
        rw [hi0] at hl
        obtain rfl : col = l := by simpa using hl
        rw [hcol k hk]
        have : i = top := by have := h.cnt; omega
        rw [this]
    · intro i l hl j hj
      rcases Nat.lt_or_ge i ls.length with hi | hi
      · rw [List.getElem?_append_left hi] at hl
        have hlc := h.lt l (List.mem_of_getElem? hl)
        have hit : i < top := by have := h.cnt; omega
        rw [hG i (by omega), if_neg (by omega), hz j (by omega), fm_zero_right, Nat.xor_zero]
        have : sg top p i = i := by unfold sg; rw [if_neg (by omega), if_neg (by omega)]
        rw [this]
        exact h.low i l hl j hj
      · rw [List.getElem?_append_right hi] at hl
        have hi0 : i - ls.length = 0 := by
          have := (List.getElem?_eq_some_iff.1 hl).1
          simp at this; omega
        rw [hi0] at hl
        obtain rfl : col = l := by simpa using hl
        have : i = top := by have := h.cnt; omega
        subst this
        rw [hG i ht, if_pos rfl, hz j hj]
    · intro i hi j hj
      rcases Nat.lt_or_ge i M.length with hl | hl
      · by_cases hjc : j = col
        · subst hjc
          rw [hcol i hl, if_neg (by omega)]
        · rw [hG i hl, if_neg (by omega), hz j (by omega), fm_zero_right, Nat.xor_zero]
          exact hsz i j (by omega) (by omega)
      · exact gt_out (by rw [hlen]; exact hl) j
theorem inv_start {n : Nat} {M : List (List Nat)} (h : Wf n M) : Inv n M 0 0 [] :=
  ⟨h, rfl, Nat.zero_le _, List.Pairwise.nil, by simp, by simp, by simp, fun i _ j hj => by omega⟩
theorem redF_inv {n : Nat} {M : List (List Nat)} (h : Wf n M) (col : Nat) : ∃ ls, Inv n (redF M col).1 col (redF M col).2 ls := by
  induction col with
  | zero => exact ⟨[], inv_start h⟩
  | succ col ih =>
    obtain ⟨ls, hi⟩ := ih
    exact hi.step
theorem stepM_len (M : List (List Nat)) (top col : Nat) : (stepM M top col).1.length = M.length := by
  unfold stepM
  split
  · rfl
  · rw [elimTo_len, pivM_len]
theorem redF_len (M : List (List Nat)) (col : Nat) : (redF M col).1.length = M.length := by
  induction col with
  | zero => rfl
  | succ col ih => rw [redF, stepM_len, ih]

/-- Both span the same. -/
def SpEq (M N : List (List Nat)) : Prop := ∀ v, Spn (M.map vO) v ↔ Spn (N.map vO) v
theorem SpEq.refl (M : List (List Nat)) : SpEq M M := fun _ => Iff.rfl
theorem SpEq.symm {M N : List (List Nat)} (h : SpEq M N) : SpEq N M := fun v => (h v).symm
theorem SpEq.trans {M N L : List (List Nat)} (h : SpEq M N) (h' : SpEq N L) : SpEq M L := fun v => (h v).trans (h' v)
theorem Wf.vb {n : Nat} {M : List (List Nat)} (h : Wf n M) : ∀ r ∈ M.map vO, Vb r := by
  intro r hr
  obtain ⟨x, hx, rfl⟩ := List.mem_map.1 hr
  exact vO_byt (h x hx).2
theorem Wf.spn {n : Nat} {M : List (List Nat)} (h : Wf n M) {i : Nat} (hi : i < M.length) : Spn (M.map vO) (vO (M.getD i [])) := Spn.mem h.vb (List.mem_map_of_mem (getD_memr hi))
theorem spn_rows {n m : Nat} {M N : List (List Nat)} (hM : Wf n M) (hN : Wf m N) (h : ∀ i, i < M.length → Spn (N.map vO) (vO (M.getD i []))) {v : Nat → Nat} (hv : Spn (M.map vO) v) : Spn (N.map vO) v := by
  refine hv.trans hN.vb fun r hr => ?_
  obtain ⟨x, hx, rfl⟩ := List.mem_map.1 hr
  obtain ⟨i, hi, rfl⟩ := List.getElem_of_mem hx
  have := h i hi
  rw [List.getD_eq_getElem?_getD, List.getElem?_eq_getElem hi] at this
  exact this
theorem vax_vz {c : Nat} : vax c vz vz = vz := funext fun j => by unfold vax vz; rw [fm_zero_right]; rfl
theorem step_span {n : Nat} {M : List (List Nat)} (hM : Wf n M) (top col : Nat) : SpEq M (stepM M top col).1 := by
  unfold stepM
  cases hf : fndF M col top (M.length - top) with
  | none => exact SpEq.refl M
  | some p =>
    dsimp only
    obtain ⟨p1, p2, p3, -⟩ := fndF_some _ _ _ hf
    have hp : p < M.length := by omega
    have ht : top < M.length := by omega
    have hw := elimTo_wf (pivM_wf (col := col) hM ht hp) col M.length (by rw [pivM_len]; exact ht)
    have hlen : (elimTo (pivM M top col p) top col M.length).length = M.length := by rw [elimTo_len, pivM_len]
    have hG := fun k (hk : k < M.length) j => elim_get (col := col) hM ht hp hk j
    have hpc := hM.lt p col
    have vp := vO_byt (hM.get hp).2
    have vtop : vO ((elimTo (pivM M top col p) top col M.length).getD top []) = vax (fi (gt M p col)) (vO (M.getD p [])) vz := funext fun j => by
      have := hG top ht j
      rw [if_pos rfl] at this
      unfold vax vz; rw [Nat.zero_xor]; exact this
    have vk : ∀ k, k < M.length → k ≠ top → vO ((elimTo (pivM M top col p) top col M.length).getD k []) = vax (gt M (sg top p k) col) (vO ((elimTo (pivM M top col p) top col M.length).getD top [])) (vO (M.getD (sg top p k) [])) := fun k hk hne => by
      rw [vtop]
      funext j
      have := hG k hk j
      rw [if_neg hne] at this
      unfold vax vz; rw [Nat.zero_xor]; exact this
    generalize elimTo (pivM M top col p) top col M.length = N at *
    have stop : Spn (M.map vO) (vO (N.getD top [])) := by
      rw [vtop]; exact Spn.ax hM.vb (fi_bd _) (hM.spn hp) .zero
    intro v
    constructor
    · refine spn_rows hM hw fun k hk => ?_
      have ht' : top < N.length := by rw [hlen]; exact ht
      by_cases hkp : k = p
      · subst hkp
        have : vO (M.getD k []) = vax (gt M k col) (vO (N.getD top [])) vz := by
          rw [vtop]
          funext j
          unfold vax vz
          rw [Nat.zero_xor, Nat.zero_xor, ← fm_assoc _ _ _ hpc (fi_bd _) (vp j), fm_inv p3 hpc, fm_oneL _ (vp j)]
        rw [this]
        exact Spn.ax hw.vb hpc (hw.spn ht') .zero
      · have hs : sg top p k < M.length := sg_lt ht hp hk
        have hst : sg top p k ≠ top := by unfold sg; split; omega; first | assumption | (rw [if_neg hkp]; assumption)
        have e := vk _ hs hst
        rw [sg_sg] at e
        have : vO (M.getD k []) = vax (gt M k col) (vO (N.getD top [])) (vO (N.getD (sg top p k) [])) := by rw [e, vax_same]
        rw [this]
        exact Spn.ax hw.vb (hM.lt k col) (hw.spn ht') (hw.spn (by rw [hlen]; exact hs))
    · refine spn_rows hw hM fun k hk => ?_
      rw [hlen] at hk
      by_cases hkt : k = top
      · subst hkt; exact stop
      · rw [vk k hk hkt]
        exact Spn.ax hM.vb (hM.lt _ _) stop (hM.spn (sg_lt ht hp hk))
theorem redF_span {n : Nat} {M : List (List Nat)} (hM : Wf n M) (col : Nat) : SpEq M (redF M col).1 := by
  induction col with
  | zero => exact SpEq.refl M
  | succ col ih =>
    obtain ⟨ls, hi⟩ := redF_inv hM col
    exact ih.trans (step_span hi.wf _ _)

/-- What comes of all columns: reduced, of as many bytes, spanning the same. -/
structure Red (n : Nat) (R : List (List Nat)) (ls : List Nat) : Prop where
  wf : Wf n R
  red : RedV (R.map vO) ls
  lt : ∀ l ∈ ls, l < n
theorem Inv.red {n : Nat} {M : List (List Nat)} {top : Nat} {ls : List Nat} (h : Inv n M n top ls) : Red n (M.take top) ls ∧ SpEq M (M.take top) := by
  have hle := h.le
  have hT : ∀ i, i < top → (M.take top).getD i [] = M.getD i [] := fun i hi => by simp [List.getD_eq_getElem?_getD, List.getElem?_take, hi]
  have hwf : Wf n (M.take top) := fun r hr => h.wf r (List.mem_of_mem_take hr)
  have hlen : (M.take top).length = top := by rw [List.length_take]; omega
  have hrow : ∀ (i : Nat) r, ((M.take top).map vO)[i]? = some r → i < top ∧ r = vO (M.getD i []) := fun i r hr => by
    rw [List.getElem?_map] at hr
    rcases Nat.lt_or_ge i top with hi | hi
    · rw [List.getElem?_take, if_pos hi, List.getElem?_eq_getElem (by omega)] at hr
      refine ⟨hi, ?_⟩
      rw [List.getD_eq_getElem?_getD, List.getElem?_eq_getElem (by omega)]
      simpa using hr.symm
    · rw [List.getElem?_eq_none (by omega)] at hr; simp at hr
  refine ⟨⟨hwf, ⟨by rw [List.length_map, hlen, h.cnt], h.up, ?_, ?_, ?_, hwf.vb⟩, h.lt⟩, fun v => ⟨spn_rows h.wf hwf fun i hi => ?_, fun hv => hv.sub fun r hr => ?_⟩⟩
  · intro i r l hr hl
    obtain ⟨hi, rfl⟩ := hrow i r hr
    have := h.piv i l hl i (by omega)
    rw [if_pos rfl] at this; exact this
  · intro i k r l hr hl hne
    obtain ⟨hk, rfl⟩ := hrow k r hr
    have := h.piv i l hl k (by omega)
    rw [if_neg hne] at this; exact this
  · intro i r l hr hl j hj
    obtain ⟨hi, rfl⟩ := hrow i r hr
    exact h.low i l hl j hj
  · rcases Nat.lt_or_ge i top with h1 | h1
    · rw [← hT i h1]; exact hwf.spn (by omega)
    · rw [vO_zero (h.wf.get hi).1 (h.rest i h1)]; exact .zero
  · obtain ⟨x, hx, rfl⟩ := List.mem_map.1 hr
    exact List.mem_map_of_mem (List.mem_of_mem_take hx)
theorem wid_eq {n : Nat} {M : List (List Nat)} (h : Wf n M) (h0 : M ≠ []) : wid M = n := by
  unfold wid
  exact (h.get (by cases M with | nil => exact absurd rfl h0 | cons a l => simp)).1
theorem rref_spec {n : Nat} {M : List (List Nat)} (h : Wf n M) : ∃ ls, Red n (rref M) ls ∧ SpEq M (rref M) := by
  by_cases h0 : M = []
  · subst h0
    exact ⟨[], ⟨by intro r hr; simp [rref, redF, wid] at hr, ⟨rfl, .nil, by simp, by simp, by simp, by simp [rref, redF, wid]⟩, by simp⟩, SpEq.refl _⟩
  · have hw := wid_eq h h0
    obtain ⟨ls, hi⟩ := redF_inv h n
    have := hi.red
    unfold rref
    rw [hw]
    exact ⟨ls, this.1, (redF_span h n).trans this.2⟩
theorem map_vO_inj {n : Nat} {A B : List (List Nat)} (hA : Wf n A) (hB : Wf n B) (h : A.map vO = B.map vO) : A = B := by
  have hl : A.length = B.length := by simpa using congrArg List.length h
  refine List.ext_getElem hl fun i h1 h2 => ?_
  have e : (A.map vO)[i]? = (B.map vO)[i]? := by rw [h]
  simp only [List.getElem?_map, List.getElem?_eq_getElem h1, List.getElem?_eq_getElem h2, Option.map_some, Option.some.injEq] at e
  exact vO_inj (hA _ (List.getElem_mem h1)).1 (hB _ (List.getElem_mem h2)).1 e
theorem Red.spn {n : Nat} {R : List (List Nat)} {ls : List Nat} (h : Red n R ls) {r : Nat → Nat} (hr : r ∈ R.map vO) : Spn (R.map vO) r := Spn.mem h.wf.vb hr
theorem Red.unique {n : Nat} {A B : List (List Nat)} {ls ms : List Nat} (hA : Red n A ls) (hB : Red n B ms) (h : SpEq A B) : A = B :=
  map_vO_inj hA.wf hB.wf (hA.red.unique hB.red (fun r hr => (h r).1 (hA.spn hr)) (fun r hr => (h r).2 (hB.spn hr)))
/-- Rows that span the same are reduced to the same. -/
theorem rref_eq {n : Nat} {A B : List (List Nat)} (hA : Wf n A) (hB : Wf n B) (h : SpEq A B) : rref A = rref B := by
  obtain ⟨ls, h1, h2⟩ := rref_spec hA
  obtain ⟨ms, h3, h4⟩ := rref_spec hB
  exact h1.unique h3 ((h2.symm.trans h).trans h4)
theorem rref_id {n : Nat} {A : List (List Nat)} {ls : List Nat} (hA : Red n A ls) : rref A = A := by
  obtain ⟨ms, h1, h2⟩ := rref_spec hA.wf
  exact (hA.unique h1 h2).symm
theorem rref_le {n : Nat} {A B : List (List Nat)} (hA : Wf n A) (hB : Wf n B) (h : ∀ v, Spn (A.map vO) v → Spn (B.map vO) v) : (rref A).length ≤ (rref B).length := by
  obtain ⟨ls, h1, h2⟩ := rref_spec hA
  obtain ⟨ms, h3, h4⟩ := rref_spec hB
  have := h1.red.le h3.red fun r hr => (h4 r).1 (h r ((h2 r).2 (h1.spn hr)))
  simpa using this
theorem rref_whole {n : Nat} {A B : List (List Nat)} (hA : Wf n A) (hB : Wf n B) (h : ∀ v, Spn (A.map vO) v → Spn (B.map vO) v) (hc : (rref B).length ≤ (rref A).length) : SpEq A B := by
  obtain ⟨ls, h1, h2⟩ := rref_spec hA
  obtain ⟨ms, h3, h4⟩ := rref_spec hB
  refine fun v => ⟨h v, fun hv => (h2 v).2 (h1.red.whole h3.red (fun r hr => (h4 r).1 (h r ((h2 r).2 (h1.spn hr)))) (by simpa using hc) ((h4 v).1 hv))⟩
theorem rref_wf {n : Nat} {M : List (List Nat)} (h : Wf n M) : Wf n (rref M) := by obtain ⟨ls, h1, _⟩ := rref_spec h; exact h1.wf
theorem up_le {n : Nat} {ls : List Nat} (h : ls.Pairwise (· < ·)) (hn : ∀ l ∈ ls, l < n) : ls.length ≤ n := by
  have := (up_nodup h).length_le_of_subset (l₂ := List.range n) fun l hl => List.mem_range.2 (hn l hl)
  simpa using this
theorem rref_len {n : Nat} {M : List (List Nat)} (h : Wf n M) : (rref M).length ≤ n ∧ (rref M).length ≤ M.length := by
  obtain ⟨ls, h1, _⟩ := rref_spec h
  have e := h1.red.len
  rw [List.length_map] at e
  refine ⟨by rw [e]; exact up_le h1.red.up h1.lt, ?_⟩
  unfold rref
  rw [List.length_take, redF_len]
  omega
end Go.Proofs.Ytfbhbjhfebkpfaa
