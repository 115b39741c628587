/- Rows of which none is spanned by those ahead of it; rows of powers are such. -/
import Derived.Test.YtfbhbjhfebkpfaaSpanM
import Derived.Test.YtfbhbjhfebkpfaaLinM
namespace Go.Proofs.Ytfbhbjhfebkpfaa
set_option linter.unusedVariables false

/-- The sum of products, of n places. -/
def fnl (p v : Nat → Nat) : Nat → Nat
  | 0 => 0
  | n + 1 => fnl p v n ^^^ fm (p n) (v n)
theorem fnl_bd (p v : Nat → Nat) (n : Nat) : fnl p v n < 256 := by
  induction n with
  | zero => exact (by decide : (0 : Nat) < 256)
  | succ n ih => exact xor_lt ih (fm_bd _ _)
theorem xor_mid (a b c d : Nat) : (a ^^^ b) ^^^ (c ^^^ d) = (a ^^^ c) ^^^ (b ^^^ d) := by
  rw [Nat.xor_assoc, Nat.xor_assoc, ← Nat.xor_assoc b c, Nat.xor_comm b c, Nat.xor_assoc c]
theorem fnl_ax {p a b : Nat → Nat} {c : Nat} (hp : Vb p) (ha : Vb a) (hb : Vb b) (hc : c < 256) (n : Nat) : fnl p (vax c a b) n = fnl p b n ^^^ fm c (fnl p a n) := by
  induction n with
  | zero => show 0 = 0 ^^^ fm c 0; rw [fm_zero_right]; rfl
  | succ n ih =>
    show fnl p (vax c a b) n ^^^ fm (p n) (b n ^^^ fm c (a n)) = (fnl p b n ^^^ fm (p n) (b n)) ^^^ fm c (fnl p a n ^^^ fm (p n) (a n))
    have e : fm (p n) (fm c (a n)) = fm c (fm (p n) (a n)) := by
      rw [← fm_assoc _ _ _ (hp n) hc (ha n), fm_comm (p n) c, fm_assoc _ _ _ hc (hp n) (ha n)]
    rw [ih, fm_xor (hp n) (hb n) (fm_bd _ _), fm_xor hc (fnl_bd _ _ _) (fm_bd _ _), e]
    exact xor_mid _ _ _ _
theorem fnl_zero (p : Nat → Nat) (n : Nat) : fnl p vz n = 0 := by
  induction n with
  | zero => rfl
  | succ n ih => show fnl p vz n ^^^ fm (p n) 0 = 0; rw [ih, fm_zero_right]; rfl
theorem fnl_spn {M : List (Nat → Nat)} (hM : ∀ r ∈ M, Vb r) {p : Nat → Nat} (hp : Vb p) {n : Nat} (h : ∀ r ∈ M, fnl p r n = 0) {v : Nat → Nat} (hv : Spn M v) : fnl p v n = 0 := by
  induction hv with
  | zero => exact fnl_zero p n
  | add c r v hc hr hs ih => rw [fnl_ax hp (hM r hr) hs.vb hc, ih, h r hr, fm_zero_right]; rfl

/-- Each is new: as many as there are is the rank. -/
theorem rank_indep {n : Nat} {T : List (List Nat)} (hT : Wf n T) (h : ∀ j, j < T.length → ∃ p, Vb p ∧ (∀ i, i < j → fnl p (vO (T.getD i [])) n = 0) ∧ fnl p (vO (T.getD j [])) n ≠ 0) : (rref T).length = T.length := by
  have key : ∀ j, j ≤ T.length → (rref (T.take j)).length = j := by
    intro j
    induction j with
    | zero => intro _; have := (rref_len (show Wf n (T.take 0) from fun r hr => by simp at hr)).2; simpa using this
    | succ j ih =>
      intro hj
      have hw : Wf n (T.take j) := fun r hr => hT r (List.mem_of_mem_take hr)
      have hg := hT.get (i := j) (by omega)
      have hs : T.take (j + 1) = T.take j ++ [T.getD j []] := by
        rw [List.take_succ_eq_append_getElem (by omega), List.getD_eq_getElem?_getD, List.getElem?_eq_getElem (by omega)]; rfl
      obtain ⟨h1, h2⟩ := rank_new hw hg.1 hg.2
      have h3 := (rref_len (wf_snoc hw hg.1 hg.2)).2
      rw [List.length_append, List.length_take, List.length_singleton] at h3
      rw [hs]
      have hne : ¬ (rref (T.take j ++ [T.getD j []])).length = (rref (T.take j)).length := by
        intro he
        rw [h2] at he
        obtain ⟨ls, hR, hS⟩ := rref_spec hw
        rw [hR.rest_spn hg.1 hg.2] at he
        obtain ⟨p, hp, hz, hn⟩ := h j (by omega)
        refine hn (fnl_spn hw.vb hp (fun r hr => ?_) ((hS _).2 he))
        obtain ⟨x, hx, rfl⟩ := List.mem_map.1 hr
        obtain ⟨i, hi, rfl⟩ := List.getElem_of_mem hx
        rw [List.length_take] at hi
        have := hz i (by omega)
        rw [List.getD_eq_getElem?_getD, List.getElem?_eq_getElem (by omega)] at this
        rw [List.getElem_take]
        exact this
      have := ih (by omega)
      omega
  have := key T.length (Nat.le_refl _)
  rwa [List.take_length] at this

/-- Powers of x: x, x x, .. -/
def pwr (x : Nat) : Nat → Nat
  | 0 => x
  | n + 1 => fm x (pwr x n)
theorem pwr_bd {x : Nat} (hx : x < 256) (n : Nat) : pwr x n < 256 := by
  cases n with
  | zero => exact hx
  | succ n => exact fm_bd _ _
theorem pwr_ex (i n : Nat) : pwr (ex i) n = ex (i * (n + 1)) := by
  induction n with
  | zero => show ex i = _; rw [Nat.zero_add, Nat.mul_one]
  | succ n ih => show fm (ex i) (pwr (ex i) n) = _; rw [ih, fm_ex]; congr 1; rw [Nat.mul_add i (n + 1) 1, Nat.mul_one, Nat.add_comm]
/-- One place on. -/
def shp (p : Nat → Nat) : Nat → Nat
  | 0 => 0
  | n + 1 => p n
theorem fnl_sh {p : Nat → Nat} {x : Nat} (hp : Vb p) (hx : x < 256) (n : Nat) : fnl (shp p) (pwr x) (n + 1) = fm x (fnl p (pwr x) n) := by
  induction n with
  | zero => show 0 ^^^ fm 0 x = fm x 0; rw [fm_zero_left, fm_zero_right]; rfl
  | succ n ih =>
    show fnl (shp p) (pwr x) (n + 1) ^^^ fm (p n) (fm x (pwr x n)) = fm x (fnl p (pwr x) n ^^^ fm (p n) (pwr x n))
    rw [ih, fm_xor hx (fnl_bd _ _ _) (fm_bd _ _), ← fm_assoc _ _ _ (hp n) hx (pwr_bd hx n), fm_comm (p n) x, fm_assoc _ _ _ hx (hp n) (pwr_bd hx n)]
/-- x times what is nought at the first j of them. -/
def polP (xs : Nat → Nat) : Nat → Nat → Nat
  | 0, h => if h = 0 then 1 else 0
  | j + 1, h => shp (polP xs j) h ^^^ fm (xs j) (polP xs j h)
theorem polP_bd (xs : Nat → Nat) (j : Nat) : Vb (polP xs j) := by
  induction j with
  | zero => intro h; show (if h = 0 then 1 else 0) < 256; split <;> decide
  | succ j ih =>
    intro h
    refine xor_lt ?_ (fm_bd _ _)
    cases h with
    | zero => exact (by decide : (0 : Nat) < 256)
    | succ h => exact ih h
theorem polP_high (xs : Nat → Nat) (j : Nat) : ∀ h, j < h → polP xs j h = 0 := by
  induction j with
  | zero => intro h hh; show (if h = 0 then 1 else 0) = 0; rw [if_neg (by omega)]
  | succ j ih =>
    intro h hh
    cases h with
    | zero => omega
    | succ h => show polP xs j h ^^^ fm (xs j) (polP xs j (h + 1)) = 0; rw [ih h (by omega), ih (h + 1) (by omega), fm_zero_right]; rfl
theorem fnl_xor {p q v : Nat → Nat} (hp : Vb p) (hq : Vb q) (hv : Vb v) (n : Nat) : fnl (fun h => p h ^^^ q h) v n = fnl p v n ^^^ fnl q v n := by
  induction n with
  | zero => show (0 : Nat) = 0 ^^^ 0; decide
  | succ n ih =>
    show fnl (fun h => p h ^^^ q h) v n ^^^ fm (p n ^^^ q n) (v n) = _
    rw [ih, fm_xor_left (hp n) (hq n) (hv n)]
    exact xor_mid _ _ _ _
theorem fnl_mul {p v : Nat → Nat} {c : Nat} (hc : c < 256) (hp : Vb p) (hv : Vb v) (n : Nat) : fnl (fun h => fm c (p h)) v n = fm c (fnl p v n) := by
  induction n with
  | zero => show 0 = fm c 0; rw [fm_zero_right]
  | succ n ih =>
    show fnl (fun h => fm c (p h)) v n ^^^ fm (fm c (p n)) (v n) = fm c (fnl p v n ^^^ fm (p n) (v n))
    rw [ih, fm_xor hc (fnl_bd _ _ _) (fm_bd _ _), fm_assoc _ _ _ hc (hp n) (hv n)]
theorem polP_step {xs : Nat → Nat} (hxs : ∀ i, xs i < 256) {x : Nat} (hx : x < 256) (j n : Nat) (hn : j + 1 < n) : fnl (polP xs (j + 1)) (pwr x) n = fm (x ^^^ xs j) (fnl (polP xs j) (pwr x) n) := by
  have hb := polP_bd xs j
  have hs : Vb (shp (polP xs j)) := fun h => by cases h with | zero => exact (by decide : (0 : Nat) < 256) | succ h => exact hb h
  have e0 : polP xs (j + 1) = fun h => shp (polP xs j) h ^^^ fm (xs j) (polP xs j h) := rfl
  rw [e0, fnl_xor hs (fun h => fm_bd _ _) (fun h => pwr_bd hx h), fnl_mul (hxs j) hb (fun h => pwr_bd hx h)]
  obtain ⟨m, rfl⟩ : ∃ m, n = m + 1 := ⟨n - 1, by omega⟩
  rw [fnl_sh hb hx]
  have e1 : fnl (polP xs j) (pwr x) (m + 1) = fnl (polP xs j) (pwr x) m := by
    show fnl (polP xs j) (pwr x) m ^^^ fm (polP xs j m) (pwr x m) = _
    rw [polP_high xs j m (by omega), fm_zero_left, Nat.xor_zero]
  rw [e1, fm_xor_left hx (hxs j) (fnl_bd _ _ _)]
theorem polP_zero {xs : Nat → Nat} (hxs : ∀ i, xs i < 256) {i : Nat} : ∀ (j n : Nat), j < n → i < j → fnl (polP xs j) (pwr (xs i)) n = 0 := by
  intro j
  induction j with
  | zero => intro n _ h; omega
  | succ j ih =>
    intro n hn hi
    rw [polP_step hxs (hxs i) j n hn]
    by_cases e : i = j
    · subst e; rw [Nat.xor_self, fm_zero_left]
    · rw [ih n (by omega) (by omega), fm_zero_right]
theorem polP_first {x : Nat} (hx : x < 256) (xs : Nat → Nat) (n : Nat) : fnl (polP xs 0) (pwr x) (n + 1) = x := by
  induction n with
  | zero => show 0 ^^^ fm 1 x = x; rw [fm_oneL _ hx, Nat.zero_xor]
  | succ n ih =>
    show fnl (polP xs 0) (pwr x) (n + 1) ^^^ fm (polP xs 0 (n + 1)) (pwr x (n + 1)) = x
    rw [ih, polP_high xs 0 (n + 1) (by omega), fm_zero_left, Nat.xor_zero]
theorem polP_ne {xs : Nat → Nat} (hxs : ∀ i, xs i < 256) {x : Nat} (hx : x < 256) (h0 : x ≠ 0) : ∀ (j n : Nat), j < n → (∀ i, i < j → x ≠ xs i) → fnl (polP xs j) (pwr x) n ≠ 0 := by
  intro j
  induction j with
  | zero =>
    intro n hn _
    obtain ⟨m, rfl⟩ : ∃ m, n = m + 1 := ⟨n - 1, by omega⟩
    rw [polP_first hx]; exact h0
  | succ j ih =>
    intro n hn hi
    rw [polP_step hxs hx j n hn]
    intro e
    rcases fm_eq_zero.1 e with e | e
    · exact hi j (by omega) (xor_eq_zero' e)
    · exact ih n (by omega) (fun i h => hi i (by omega)) e

theorem ex_ne {i j : Nat} (hi : i < 255) (hj : j < 255) (h : i ≠ j) : ex i ≠ ex j := fun e => h (by rw [← lg_ex hi, ← lg_ex hj, e])
/-- Rows of powers, side by side: of k columns, at least as many rows as columns. -/
theorem vand_rank {H k f : Nat} {M : List (List Nat)} (hM : Wf k M) (hl : M.length = H) (hk : k ≤ H) (hf : f + k < 255) (h : ∀ i j, i < H → j < k → gt M i j = ex ((i + 1) * (f + j + 1))) : (rref M).length = k := by
  obtain ⟨T, hT⟩ : ∃ T, T = (List.range k).map fun j => (List.range H).map fun i => gt M i j := ⟨_, rfl⟩
  have hTl : T.length = k := by rw [hT]; simp
  have hrow : ∀ j, j < k → T.getD j [] = (List.range H).map fun i => gt M i j := fun j hj => by
    rw [hT, List.getD_eq_getElem?_getD, List.getElem?_map, List.getElem?_range hj]; rfl
  have hTw : Wf H T := wf_of fun j hj => by
    rw [hrow j (by omega)]
    refine ⟨by simp, fun x hx => ?_⟩
    obtain ⟨i, _, rfl⟩ := List.mem_map.1 hx
    exact hM.lt i j
  have hent : ∀ i j, i < H → j < k → gt T j i = gt M i j := fun i j hi hj => by
    unfold gt
    rw [hrow j hj, List.getD_eq_getElem?_getD, List.getElem?_map, List.getElem?_range hi]
    rfl
  have hout : ∀ i j, gt T j i = gt M i j := fun i j => by
    by_cases hj : j < k
    · by_cases hi : i < H
      · exact hent i j hi hj
      · rw [gt_out (M := M) (by omega)]
        unfold gt
        rw [List.getD_eq_getElem?_getD, List.getElem?_eq_none (by rw [(hTw.get (by omega)).1]; omega)]; rfl
    · rw [gt_out (M := T) (by omega)]
      by_cases hi : i < H
      · unfold gt
        rw [List.getD_eq_getElem?_getD, List.getElem?_eq_none (by rw [(hM.get (by omega)).1]; omega)]; rfl
      · rw [gt_out (M := M) (by omega)]
  have hxb : ∀ i, ex (f + i + 1) < 256 := fun i => (ex_bd _).2
  have hv : ∀ j, j < k → ∀ i, i < H → vO (T.getD j []) i = pwr (ex (f + j + 1)) i := fun j hj i hi => by
    have := hent i j hi hj
    unfold gt at this
    show (T.getD j []).getD i 0 = _
    rw [this, pwr_ex]
    have := h i j hi hj
    unfold gt at this
    rw [this, Nat.mul_comm]
  have hfn : ∀ (p u v : Nat → Nat) n, (∀ i, i < n → u i = v i) → fnl p u n = fnl p v n := fun p u v n => by
    induction n with
    | zero => intro _; rfl
    | succ n ih => intro he; show fnl p u n ^^^ fm (p n) (u n) = fnl p v n ^^^ fm (p n) (v n); rw [ih (fun i hi => he i (by omega)), he n (by omega)]
  have hr := rank_indep hTw fun j hj => by
    refine ⟨polP (fun i => ex (f + i + 1)) j, polP_bd _ j, fun i hi => ?_, ?_⟩
    · rw [hfn _ _ _ H (hv i (by omega))]
      exact polP_zero (xs := fun i => ex (f + i + 1)) hxb j H (by omega) hi
    · rw [hfn _ _ _ H (hv j (by omega))]
      exact polP_ne (xs := fun i => ex (f + i + 1)) hxb (hxb j) (by have := (ex_bd (f + j + 1)).1; omega) j H (by omega) fun i hi => ex_ne (by omega) (by omega) (by omega)
  have h1 := rank_turn hM hTw hTl (fun i j => by rw [hout])
  have h2 := (rref_len hM).1
  omega
end Go.Proofs.Ytfbhbjhfebkpfaa
