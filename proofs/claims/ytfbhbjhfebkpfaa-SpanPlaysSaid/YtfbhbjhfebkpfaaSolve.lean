/- Equations over the field of 256, plainly: both sides side by side, reduced. -/
import Derived.Test.YtfbhbjhfebkpfaaLinM
namespace Go.Proofs.Ytfbhbjhfebkpfaa
set_option linter.unusedVariables false

def sideM (a b : List (List Nat)) : List (List Nat) := List.zipWith (· ++ ·) a b
theorem sideM_len {a b : List (List Nat)} (h : a.length = b.length) : (sideM a b).length = a.length := by unfold sideM; rw [List.length_zipWith]; omega
theorem sideM_row {a b : List (List Nat)} (h : a.length = b.length) (i : Nat) : (sideM a b).getD i [] = a.getD i [] ++ b.getD i [] := by
  unfold sideM
  simp only [List.getD_eq_getElem?_getD, List.getElem?_zipWith]
  rcases Nat.lt_or_ge i a.length with hi | hi
  · rw [List.getElem?_eq_getElem hi, List.getElem?_eq_getElem (show i < b.length by omega)]; rfl
  · rw [List.getElem?_eq_none hi, List.getElem?_eq_none (show b.length ≤ i by omega)]; rfl
theorem sideM_wf {n k : Nat} {a b : List (List Nat)} (h : a.length = b.length) (ha : Wf n a) (hb : Wf k b) : Wf (n + k) (sideM a b) := by
  refine wf_of fun i hi => ?_
  rw [sideM_len h] at hi
  rw [sideM_row h]
  have h1 := ha.get hi
  have h2 := hb.get (i := i) (by omega)
  refine ⟨by rw [List.length_append]; omega, fun x hx => ?_⟩
  rcases List.mem_append.1 hx with hx | hx
  · exact h1.2 x hx
  · exact h2.2 x hx

/-- Elimination by the left part is elimination of the left part. -/
theorem gt_take {n : Nat} {L : List (List Nat)} {i j : Nat} (hj : j < n) : gt (L.map (List.take n)) i j = gt L i j := by
  unfold gt
  simp only [List.getD_eq_getElem?_getD, List.getElem?_map]
  cases L[i]? with
  | none => rfl
  | some r => simp [List.getElem?_take, hj]
theorem getD_map {f : List Nat → List Nat} (h0 : f [] = []) (L : List (List Nat)) (i : Nat) : (L.map f).getD i [] = f (L.getD i []) := by
  simp only [List.getD_eq_getElem?_getD, List.getElem?_map]
  cases L[i]? with
  | none => exact h0.symm
  | some r => rfl
theorem extM {A B : List (List Nat)} (hl : A.length = B.length) (h : ∀ i, i < A.length → A.getD i [] = B.getD i []) : A = B := by
  refine List.ext_getElem hl fun i h1 h2 => ?_
  have := h i h1
  simpa [List.getD_eq_getElem?_getD, h1, h2] using this
theorem fndF_take {n : Nat} {L : List (List Nat)} {col : Nat} (hc : col < n) : ∀ k i, fndF (L.map (List.take n)) col i k = fndF L col i k := by
  intro k
  induction k with
  | zero => intro i; rfl
  | succ k ih => intro i; simp only [fndF]; rw [gt_take hc, ih]
/-- What leaves noughts and sums alone. -/
structure Cutf (f : List Nat → List Nat) : Prop where
  nil : f [] = []
  ax : ∀ c a b, f (axL c a b) = axL c (f a) (f b)
  sc : ∀ c a, f (scL c a) = scL c (f a)
theorem cut_take (n : Nat) : Cutf (List.take n) := ⟨List.take_nil, fun c a b => by unfold axL; rw [List.take_zipWith], fun c a => by unfold scL; rw [List.map_take]⟩
theorem cut_drop (n : Nat) : Cutf (List.drop n) := ⟨List.drop_nil, fun c a b => by unfold axL; rw [List.drop_zipWith], fun c a => by unfold scL; rw [List.map_drop]⟩
theorem pivM_cut {f : List Nat → List Nat} (hf : Cutf f) {L : List (List Nat)} {top col p : Nat} (ht : top < L.length) (hp : p < L.length) (i : Nat) :
    f ((pivM L top col p).getD i []) = if i = top then scL (fi (gt L p col)) ((L.map f).getD p []) else (L.map f).getD (sg top p i) [] := by
  rw [pivM_row ht hp, getD_map hf.nil, getD_map hf.nil]
  split
  · exact hf.sc _ _
  · rfl
theorem elimTo_cut {f : List Nat → List Nat} (hf : Cutf f) {L : List (List Nat)} (top col k : Nat) {i : Nat} (hi : i < L.length) :
    f ((elimTo L top col k).getD i []) = if i < k ∧ i ≠ top then axL (gt L i col) ((L.map f).getD top []) ((L.map f).getD i []) else (L.map f).getD i [] := by
  rw [elimTo_row top col k hi, getD_map hf.nil, getD_map hf.nil]
  split
  · exact hf.ax _ _ _
  · rfl
theorem step_take {n : Nat} {L : List (List Nat)} {top col : Nat} (hc : col < n) : stepM (L.map (List.take n)) top col = ((stepM L top col).1.map (List.take n), (stepM L top col).2) := by
  unfold stepM
  rw [fndF_take hc, List.length_map]
  cases hf : fndF L col top (L.length - top) with
  | none => rfl
  | some p =>
    obtain ⟨p1, p2, p3, -⟩ := fndF_some _ _ _ hf
    have hp : p < L.length := by omega
    have ht : top < L.length := by omega
    simp only
    congr 1
    refine extM (by simp [elimTo_len, pivM_len]) fun i hi => ?_
    rw [elimTo_len, pivM_len, List.length_map] at hi
    have hpl : (L.map (List.take n)).length = L.length := List.length_map _
    have hpv : ∀ i, (pivM (L.map (List.take n)) top col p).getD i [] = ((pivM L top col p).getD i []).take n := fun i => by
      rw [pivM_row (by omega) (by omega), gt_take hc, pivM_cut (cut_take n) ht hp]
    rw [getD_map List.take_nil, elimTo_cut (cut_take n) top col _ (by rw [pivM_len]; exact hi), elimTo_row top col _ (by rw [pivM_len]; omega)]
    have hg : gt (pivM (L.map (List.take n)) top col p) i col = gt (pivM L top col p) i col := by
      conv => lhs; unfold gt
      rw [hpv, ← getD_map List.take_nil]
      exact gt_take hc
    rw [hg, hpv, hpv, getD_map List.take_nil, getD_map List.take_nil]
theorem red_take {n : Nat} {L : List (List Nat)} (col : Nat) (hc : col ≤ n) : redF (L.map (List.take n)) col = ((redF L col).1.map (List.take n), (redF L col).2) := by
  induction col with
  | zero => rfl
  | succ col ih =>
    simp only [redF]
    rw [ih (by omega)]
    exact step_take (by omega)
theorem sideM_take {n : Nat} {a b : List (List Nat)} (h : a.length = b.length) (ha : Wf n a) : (sideM a b).map (List.take n) = a := by
  refine extM (by rw [List.length_map, sideM_len h]) fun i hi => ?_
  rw [List.length_map, sideM_len h] at hi
  rw [getD_map List.take_nil, sideM_row h, List.take_append_of_le_length (by rw [(ha.get hi).1]; exact Nat.le_refl _), List.take_of_length_le (by rw [(ha.get hi).1]; exact Nat.le_refl _)]
theorem side_red {n : Nat} {a b : List (List Nat)} (h : a.length = b.length) (ha : Wf n a) {col : Nat} (hc : col ≤ n) : (redF (sideM a b) col).2 = (redF a col).2 ∧ (redF (sideM a b) col).1.map (List.take n) = (redF a col).1 := by
  have := red_take (L := sideM a b) col hc
  rw [sideM_take h ha] at this
  rw [this]
  exact ⟨rfl, rfl⟩
theorem rank_red {n : Nat} {a : List (List Nat)} (ha : Wf n a) (h0 : a ≠ []) : (rref a).length = (redF a n).2 := by
  obtain ⟨ls, hi⟩ := redF_inv ha n
  unfold rref
  rw [wid_eq ha h0, List.length_take]
  have := hi.le
  omega

theorem up_range {n : Nat} {ls : List Nat} (h : ls.Pairwise (· < ·)) (hn : ∀ l ∈ ls, l < n) (hl : ls.length = n) : ls = List.range n := by
  refine up_ext ls _ h (List.pairwise_lt_range) fun x => ⟨fun hx => List.mem_range.2 (hn x hx), fun hx => ?_⟩
  apply Classical.byContradiction
  intro hc
  have h1 : (x :: ls).Nodup := List.nodup_cons.2 ⟨hc, up_nodup h⟩
  have h2 := h1.length_le_of_subset (l₂ := List.range n) fun y hy => by
    rcases List.mem_cons.1 hy with e | e
    · subst e; exact hx
    · exact List.mem_range.2 (hn y e)
  simp at h2
  omega
theorem lco_congr (M : List (Nat → Nat)) : ∀ (ls : List Nat) (u v : Nat → Nat), (∀ l ∈ ls, u l = v l) → lco M ls u = lco M ls v := by
  induction M with
  | nil => intro ls u v _; rfl
  | cons r M ih =>
    intro ls u v h
    cases ls with
    | nil => rfl
    | cons l ls => simp only [lco]; rw [ih ls u v fun x hx => h x (List.mem_cons_of_mem _ hx), h l List.mem_cons_self]
theorem RedV.ext {M : List (Nat → Nat)} {ls : List Nat} (h : RedV M ls) {u v : Nat → Nat} (hu : Spn M u) (hv : Spn M v) (he : ∀ l ∈ ls, u l = v l) : u = v := by
  rw [← h.eq_lco hu, ← h.eq_lco hv]; exact lco_congr M ls u v he

/-- A 1 at each place on the left, x on the right. -/
def eUnit (n i : Nat) : List Nat := (List.range n).map fun j => if j = i then 1 else 0
def unitS (n : Nat) (x : List (List Nat)) : List (List Nat) := (List.range n).map fun i => eUnit n i ++ x.getD i []
theorem eUnit_len (n i : Nat) : (eUnit n i).length = n := by simp [eUnit]
theorem eUnit_get {n i j : Nat} (hj : j < n) : (eUnit n i).getD j 0 = if j = i then 1 else 0 := by simp [eUnit, List.getD_eq_getElem?_getD, List.getElem?_map, List.getElem?_range, hj]
theorem eUnit_byt (n i : Nat) : ∀ x ∈ eUnit n i, x < 256 := by
  intro x hx
  simp only [eUnit, List.mem_map] at hx
  obtain ⟨j, _, rfl⟩ := hx
  split <;> decide
theorem unitS_len (n : Nat) (x : List (List Nat)) : (unitS n x).length = n := by simp [unitS]
theorem unitS_row {n : Nat} {x : List (List Nat)} {i : Nat} (hi : i < n) : (unitS n x).getD i [] = eUnit n i ++ x.getD i [] := by simp [unitS, List.getD_eq_getElem?_getD, List.getElem?_map, List.getElem?_range, hi]
theorem unitS_wf {n k : Nat} {x : List (List Nat)} (hx : Wf k x) (hl : x.length = n) : Wf (n + k) (unitS n x) := by
  refine wf_of fun i hi => ?_
  rw [unitS_len] at hi
  rw [unitS_row hi]
  have h1 := hx.get (i := i) (by omega)
  refine ⟨by rw [List.length_append, eUnit_len]; omega, fun y hy => ?_⟩
  rcases List.mem_append.1 hy with hy | hy
  · exact eUnit_byt n i y hy
  · exact h1.2 y hy
theorem unitS_left {n : Nat} {x : List (List Nat)} {i j : Nat} (hi : i < n) (hj : j < n) : vO ((unitS n x).getD i []) j = if j = i then 1 else 0 := by
  rw [unitS_row hi]
  unfold vO
  rw [List.getD_eq_getElem?_getD, List.getElem?_append_left (by rw [eUnit_len]; exact hj), ← List.getD_eq_getElem?_getD]
  exact eUnit_get hj
theorem unitS_right {n : Nat} {x : List (List Nat)} {i j : Nat} (hi : i < n) (hj : n ≤ j) : vO ((unitS n x).getD i []) j = vO (x.getD i []) (j - n) := by
  rw [unitS_row hi]
  unfold vO
  rw [List.getD_eq_getElem?_getD, List.getElem?_append_right (by rw [eUnit_len]; exact hj), eUnit_len, ← List.getD_eq_getElem?_getD]
theorem mapO_get {M : List (List Nat)} {i : Nat} {r : Nat → Nat} (h : (M.map vO)[i]? = some r) : i < M.length ∧ r = vO (M.getD i []) := by
  rw [List.getElem?_map] at h
  rcases Nat.lt_or_ge i M.length with hi | hi
  · rw [List.getElem?_eq_getElem hi] at h
    refine ⟨hi, ?_⟩
    rw [List.getD_eq_getElem?_getD, List.getElem?_eq_getElem hi]
    simpa using h.symm
  · rw [List.getElem?_eq_none hi] at h; simp at h
theorem unitS_red {n k : Nat} {x : List (List Nat)} (hx : Wf k x) (hl : x.length = n) : RedV ((unitS n x).map vO) (List.range n) := by
  have hr : ∀ {i l : Nat}, (List.range n)[i]? = some l → l = i ∧ i < n := fun {i l} h => by
    have hi := (List.getElem?_eq_some_iff.1 h).1
    rw [List.length_range] at hi
    rw [List.getElem?_range hi] at h
    exact ⟨by simpa using h.symm, hi⟩
  refine ⟨by simp [unitS_len], List.pairwise_lt_range, ?_, ?_, ?_, (unitS_wf hx hl).vb⟩
  · intro i r l h1 h2
    obtain ⟨rfl, hi⟩ := hr h2
    obtain ⟨-, rfl⟩ := mapO_get h1
    rw [unitS_left hi hi, if_pos rfl]
  · intro i j r l h1 h2 hne
    obtain ⟨rfl, hi⟩ := hr h2
    obtain ⟨hj, rfl⟩ := mapO_get h1
    rw [unitS_len] at hj
    rw [unitS_left hj hi, if_neg fun e => hne e.symm]
  · intro i r l h1 h2 j hj
    obtain ⟨rfl, hi⟩ := hr h2
    obtain ⟨-, rfl⟩ := mapO_get h1
    rw [unitS_left hi (by omega), if_neg (by omega)]
theorem tmpS_left {n : Nat} {x : List (List Nat)} {v : Nat → Nat} (hv : Vb v) : ∀ (k j : Nat), k ≤ n → j < n → tmp (unitS n x) v k j = if j < k then v j else 0 := by
  intro k
  induction k with
  | zero => intro j _ _; rfl
  | succ k ih =>
    intro j hk hj
    simp only [tmp, vax]
    rw [ih j (by omega) hj, unitS_left (by omega) hj]
    by_cases h1 : j = k
    · subst h1; rw [if_neg (Nat.lt_irrefl _), if_pos rfl, if_pos (by omega), Nat.zero_xor, fm_one _ (hv j)]
    · rw [if_neg h1, fm_zero_right, Nat.xor_zero]
      by_cases h2 : j < k
      · rw [if_pos h2, if_pos (by omega)]
      · rw [if_neg h2, if_neg (by omega)]
theorem tmpS_right {n : Nat} {x : List (List Nat)} {v : Nat → Nat} : ∀ (k j : Nat), k ≤ n → n ≤ j → tmp (unitS n x) v k j = tmp x v k (j - n) := by
  intro k
  induction k with
  | zero => intro j _ _; rfl
  | succ k ih =>
    intro j hk hj
    simp only [tmp, vax]
    rw [ih j (by omega) hj, unitS_right (by omega) hj]
/-- What is spanned by these is, on the right, what x makes of its left. -/
theorem unitS_spn {n k : Nat} {x : List (List Nat)} (hx : Wf k x) (hl : x.length = n) {v : Nat → Nat} (hv : Spn ((unitS n x).map vO) v) : v = tmp (unitS n x) v n := by
  have hw := unitS_wf hx hl
  refine (unitS_red hx hl).ext hv (tmp_spn hw hv.vb n (by rw [unitS_len]; exact Nat.le_refl _)) fun l hl' => ?_
  have := List.mem_range.1 hl'
  rw [tmpS_left hv.vb n l (Nat.le_refl _) this, if_pos this]

theorem vO_append {a b : List Nat} {n : Nat} (h : a.length = n) (j : Nat) : vO (a ++ b) j = if j < n then vO a j else vO b (j - n) := by
  unfold vO
  simp only [List.getD_eq_getElem?_getD]
  split
  · rw [List.getElem?_append_left (by omega)]
  · rw [List.getElem?_append_right (by omega), h]
theorem tmp_congr {x : List (List Nat)} {u v : Nat → Nat} : ∀ k, (∀ j, j < k → u j = v j) → tmp x u k = tmp x v k := by
  intro k
  induction k with
  | zero => intro _; rfl
  | succ k ih => intro h; simp only [tmp]; rw [ih fun j hj => h j (by omega), h k (by omega)]
/-- Rows whose right is what x makes of the left. -/
theorem side_in {n k : Nat} {a x : List (List Nat)} (ha : Wf n a) (hx : Wf k x) (hl : x.length = n) (h0 : x ≠ []) {i : Nat} (hi : i < a.length) :
    vO ((sideM a (mulM a x)).getD i []) = tmp (unitS n x) (vO (a.getD i [])) n := by
  have h := ha.get hi
  have hv := vO_byt h.2
  have hm : (mulM a x).length = a.length := by simp [mulM]
  rw [sideM_row hm.symm]
  have hr : (mulM a x).getD i [] = mrow k (a.getD i []) x x.length := by
    simp only [mulM, List.getD_eq_getElem?_getD, List.getElem?_map, List.getElem?_eq_getElem hi, Option.map_some, Option.getD_some]
    rw [wid_eq hx h0]
  rw [hr]
  funext j
  rw [vO_append h.1]
  split
  · rename_i hj
    rw [tmpS_left hv n j (Nat.le_refl _) hj, if_pos hj]
  · rename_i hj
    rw [tmpS_right n j (Nat.le_refl _) (by omega), (mrow_ok (r := a.getD i []) hx x.length (Nat.le_refl _)).2.2, hl]
/-- What x is multiplied to is solved by x, if the rank is full. -/
theorem solve_right {n k : Nat} {a x : List (List Nat)} (ha : Wf n a) (hx : Wf k x) (hl : x.length = n) (h0 : x ≠ []) (hr : (redF a n).2 = n) :
    (∀ i, n ≤ i → ∀ j, gt (redF (sideM a (mulM a x)) n).1 i j = 0) ∧ ((redF (sideM a (mulM a x)) n).1.take n).map (List.drop n) = x := by
  have hm : a.length = (mulM a x).length := by simp [mulM]
  have hb := mulM_wf (a := a) hx h0
  have hw := sideM_wf hm ha hb
  have hsw := unitS_wf hx hl
  obtain ⟨ls, hI⟩ := redF_inv hw n
  have hS := redF_span hw n
  rw [(side_red hm ha (Nat.le_refl n)).1, hr] at hI
  generalize (redF (sideM a (mulM a x)) n).1 = L at *
  have hls : ls = List.range n := up_range hI.up hI.lt hI.cnt
  subst hls
  have hsub : ∀ {v}, Spn (L.map vO) v → Spn ((unitS n x).map vO) v := fun {v} hv => by
    refine spn_rows hw hsw (fun i hi => ?_) ((hS v).2 hv)
    rw [sideM_len hm] at hi
    rw [side_in ha hx hl h0 hi]
    exact tmp_spn hsw (vO_byt (ha.get hi).2) n (by rw [unitS_len]; exact Nat.le_refl _)
  have hrows : ∀ i, i < L.length → vO (L.getD i []) = if i < n then vO ((unitS n x).getD i []) else vz := fun i hi => by
    refine (unitS_red hx hl).ext (hsub (hI.wf.spn hi)) ?_ fun l hl' => ?_
    · split
      · rename_i h; exact hsw.spn (by rw [unitS_len]; exact h)
      · exact .zero
    · have hl2 := List.mem_range.1 hl'
      have := hI.piv l l (by rw [List.getElem?_range hl2]) i hi
      refine Eq.trans this ?_
      split
      · rename_i e; subst e; rw [if_pos hl2, unitS_left hl2 hl2, if_pos rfl]
      · rename_i e
        split
        · rename_i h; rw [unitS_left h hl2, if_neg fun x => e x.symm]
        · rfl
  constructor
  · intro i hi j
    rcases Nat.lt_or_ge i L.length with h | h
    · have := congrFun (hrows i h) j
      rw [if_neg (by omega)] at this
      exact this
    · exact gt_out h j
  · have hle := hI.le
    refine extM (by rw [List.length_map, List.length_take]; omega) fun i hi => ?_
    rw [List.length_map, List.length_take] at hi
    rw [getD_map List.drop_nil]
    have hiL : i < L.length := by omega
    have e1 : (L.take n).getD i [] = L.getD i [] := by simp [List.getD_eq_getElem?_getD, List.getElem?_take, show i < n by omega]
    have e2 := hrows i hiL
    rw [if_pos (by omega)] at e2
    have e3 := vO_inj (hI.wf.get hiL).1 (hsw.get (i := i) (by rw [unitS_len]; omega)).1 e2
    rw [e1, e3, unitS_row (by omega), List.drop_left' (eUnit_len n i)]
/-- A solution is multiplied to what was asked. -/
theorem solve_back {n k : Nat} {a c : List (List Nat)} (ha : Wf n a) (hc : Wf k c) (hl : a.length = c.length) (h0 : 0 < n) (hr : (redF a n).2 = n)
    (hz : ∀ i, n ≤ i → ∀ j, gt (redF (sideM a c) n).1 i j = 0) : mulM a (((redF (sideM a c) n).1.take n).map (List.drop n)) = c ∧ Wf k (((redF (sideM a c) n).1.take n).map (List.drop n)) ∧ (((redF (sideM a c) n).1.take n).map (List.drop n)).length = n := by
  have hw := sideM_wf hl ha hc
  obtain ⟨ls, hI⟩ := redF_inv hw n
  have hS := redF_span hw n
  rw [(side_red hl ha (Nat.le_refl n)).1, hr] at hI
  generalize (redF (sideM a c) n).1 = L at *
  have hls : ls = List.range n := up_range hI.up hI.lt hI.cnt
  subst hls
  have hle := hI.le
  obtain ⟨z, hzd⟩ : ∃ z, z = (L.take n).map (List.drop n) := ⟨_, rfl⟩
  rw [← hzd]
  have hzl : z.length = n := by rw [hzd, List.length_map, List.length_take]; omega
  have hzr : ∀ i, i < n → z.getD i [] = (L.getD i []).drop n := fun i hi => by
    rw [hzd, getD_map List.drop_nil]
    congr 1
    simp [List.getD_eq_getElem?_getD, List.getElem?_take, hi]
  have hzw : Wf k z := wf_of fun i hi => by
    rw [hzl] at hi
    have := hI.wf.get (i := i) (by omega)
    rw [hzr i hi]
    exact ⟨by rw [List.length_drop]; omega, fun x hx => this.2 x (List.mem_of_mem_drop hx)⟩
  have hz0 : z ≠ [] := fun e => by rw [e] at hzl; simp at hzl; omega
  refine ⟨?_, hzw, hzl⟩
  have hsw := unitS_wf hzw hzl
  have hrow : ∀ i, i < n → L.getD i [] = (unitS n z).getD i [] := fun i hi => by
    refine vO_inj (hI.wf.get (by omega)).1 (hsw.get (i := i) (by rw [unitS_len]; exact hi)).1 (funext fun j => ?_)
    rcases Nat.lt_or_ge j n with hj | hj
    · rw [unitS_left hi hj]
      have := hI.piv j j (by rw [List.getElem?_range hj]) i (by omega)
      refine Eq.trans this ?_
      by_cases e : i = j
      · rw [if_pos e, if_pos e.symm]
      · rw [if_neg e, if_neg fun x => e x.symm]
    · rw [unitS_right hi hj, hzr i hi]
      unfold vO
      simp only [List.getD_eq_getElem?_getD, List.getElem?_drop, show n + (j - n) = j by omega]
  have hsub : ∀ {v}, Spn ((sideM a c).map vO) v → Spn ((unitS n z).map vO) v := fun {v} hv => by
    refine spn_rows hI.wf hsw (fun i hi => ?_) ((hS v).1 hv)
    rcases Nat.lt_or_ge i n with h | h
    · rw [hrow i h]; exact hsw.spn (by rw [unitS_len]; exact h)
    · rw [show vO (L.getD i []) = vz from funext fun j => hz i h j]; exact .zero
  have hm : (mulM a z).length = a.length := by simp [mulM]
  have hmw := mulM_wf (a := a) hzw hz0
  refine extM (by omega) fun i hi => ?_
  rw [hm] at hi
  refine vO_inj (hmw.get (by omega)).1 (hc.get (by omega)).1 (funext fun j => ?_)
  have h1 := ha.get hi
  have e1 := unitS_spn hzw hzl (hsub (hw.spn (i := i) (by rw [sideM_len hl]; exact hi)))
  rw [sideM_row hl] at e1
  have e2 := side_in ha hzw hzl hz0 hi
  rw [sideM_row hm.symm] at e2
  have e3 : tmp (unitS n z) (vO (a.getD i [] ++ c.getD i [])) n = tmp (unitS n z) (vO (a.getD i [])) n := tmp_congr n fun j hj => by rw [vO_append h1.1, if_pos hj]
  rw [e3, ← e2] at e1
  have := congrFun e1 (n + j)
  rw [vO_append h1.1, vO_append h1.1, if_neg (by omega), if_neg (by omega), show n + j - n = j by omega] at this
  exact this.symm
end Go.Proofs.Ytfbhbjhfebkpfaa
