/- Rows over the field of 256, plainly: what rows span; rows that are reduced; there is but one such list of rows. -/
import Derived.Test.YtfbhbjhfebkpfaaGfMath
namespace Go.Proofs.Ytfbhbjhfebkpfaa
set_option linter.unusedVariables false

/-- b, and c times a. -/
def vax (c : Nat) (a b : Nat → Nat) : Nat → Nat := fun j => b j ^^^ fm c (a j)
def vz : Nat → Nat := fun _ => 0
def Vb (v : Nat → Nat) : Prop := ∀ j, v j < 256
theorem vb_z : Vb vz := fun _ => (by decide : (0 : Nat) < 256)
theorem vb_ax {c : Nat} {a b : Nat → Nat} (hb : Vb b) : Vb (vax c a b) := fun j => xor_lt (hb j) (fm_bd _ _)

/-- What rows span. -/
inductive Spn (M : List (Nat → Nat)) : (Nat → Nat) → Prop where
  | zero : Spn M vz
  | add (c : Nat) (r v : Nat → Nat) : c < 256 → r ∈ M → Spn M v → Spn M (vax c r v)

theorem xor_self' (a : Nat) : a ^^^ a = 0 := Nat.xor_self a
theorem xor_cancel (a b : Nat) : a ^^^ b ^^^ b = a := by rw [Nat.xor_assoc, Nat.xor_self, Nat.xor_zero]
theorem xor_swap (a b c : Nat) : a ^^^ b ^^^ c = a ^^^ c ^^^ b := by rw [Nat.xor_assoc, Nat.xor_comm b c, ← Nat.xor_assoc]
theorem fm_oneL (a : Nat) (h : a < 256) : fm 1 a = a := by rw [fm_comm, fm_one a h]

theorem vax_vax {c d : Nat} {a b v : Nat → Nat} : vax c a (vax d b v) = vax d b (vax c a v) := funext fun j => xor_swap _ _ _
theorem vax_same {c : Nat} {a b : Nat → Nat} : vax c a (vax c a b) = b := funext fun j => xor_cancel _ _
theorem vax_zero {a b : Nat → Nat} : vax 0 a b = b := funext fun j => by unfold vax; rw [fm_zero_left, Nat.xor_zero]
/-- c times a sum. -/
theorem vax_in {c d : Nat} {a b v : Nat → Nat} (hc : c < 256) (hd : d < 256) (ha : Vb a) (hb : Vb b) : vax c (vax d a b) v = vax c b (vax (fm c d) a v) := funext fun j => by
  unfold vax
  rw [fm_xor hc (hb j) (fm_bd _ _), ← fm_assoc c d (a j) hc hd (ha j), ← Nat.xor_assoc, xor_swap]
theorem vax_sum {c d : Nat} {a v : Nat → Nat} (hc : c < 256) (hd : d < 256) (ha : Vb a) : vax c a (vax d a v) = vax (c ^^^ d) a v := funext fun j => by
  unfold vax
  rw [fm_xor_left hc hd (ha j), Nat.xor_assoc, Nat.xor_comm (fm d (a j))]
/-- Place by place. -/
def vad (a b : Nat → Nat) : Nat → Nat := vax 1 a b

theorem Spn.vb {M : List (Nat → Nat)} {v : Nat → Nat} (h : Spn M v) : Vb v := by
  induction h with
  | zero => exact vb_z
  | add c r v hc hr _ ih => exact vb_ax ih
theorem Spn.ax {M : List (Nat → Nat)} (hM : ∀ r ∈ M, Vb r) {u v : Nat → Nat} {c : Nat} (hc : c < 256) (hu : Spn M u) (hv : Spn M v) : Spn M (vax c u v) := by
  induction hu generalizing v with
  | zero =>
    have : vax c vz v = v := funext fun j => by unfold vax vz; rw [fm_zero_right, Nat.xor_zero]
    rw [this]; exact hv
  | add d r u hd hr hs ih =>
    rw [vax_in hc hd (hM r hr) hs.vb]
    exact ih (Spn.add _ r v (fm_bd _ _) hr hv)
theorem Spn.mem {M : List (Nat → Nat)} (hM : ∀ r ∈ M, Vb r) {r : Nat → Nat} (hr : r ∈ M) : Spn M r := by
  have : vax 1 r vz = r := funext fun j => by unfold vax vz; rw [Nat.zero_xor, fm_oneL _ (hM r hr j)]
  rw [← this]
  exact Spn.add 1 r vz (by decide) hr .zero
theorem Spn.trans {M N : List (Nat → Nat)} (hN : ∀ r ∈ N, Vb r) (h : ∀ r ∈ M, Spn N r) {v : Nat → Nat} (hv : Spn M v) : Spn N v := by
  induction hv with
  | zero => exact .zero
  | add c r v hc hr _ ih => exact Spn.ax hN hc (h r hr) ih
theorem Spn.sub {M N : List (Nat → Nat)} (h : ∀ r ∈ M, r ∈ N) {v : Nat → Nat} (hv : Spn M v) : Spn N v := by
  induction hv with
  | zero => exact .zero
  | add c r v hc hr _ ih => exact .add c r v hc (h r hr) ih
theorem Spn.zeroAt {M : List (Nat → Nat)} {j : Nat} (h : ∀ r ∈ M, r j = 0) {v : Nat → Nat} (hv : Spn M v) : v j = 0 := by
  induction hv with
  | zero => rfl
  | add c r v hc hr _ ih => unfold vax; rw [ih, h r hr, fm_zero_right]; rfl

/-- Rows that are reduced, with the places where they begin. -/
structure RedV (M : List (Nat → Nat)) (ls : List Nat) : Prop where
  len : M.length = ls.length
  up : ls.Pairwise (· < ·)
  one : ∀ (i : Nat) r l, M[i]? = some r → ls[i]? = some l → r l = 1
  zero : ∀ (i k : Nat) r l, M[k]? = some r → ls[i]? = some l → k ≠ i → r l = 0
  low : ∀ (i : Nat) r l, M[i]? = some r → ls[i]? = some l → ∀ j, j < l → r j = 0
  byt : ∀ r ∈ M, Vb r

/-- The sum of the rows, each so often as w says at its beginning. -/
def lco : List (Nat → Nat) → List Nat → (Nat → Nat) → Nat → Nat
  | r :: M, l :: ls, w => vax (w l) r (lco M ls w)
  | _, _, _ => vz
theorem lco_ax (M : List (Nat → Nat)) : ∀ (ls : List Nat) (c : Nat) (u v : Nat → Nat), c < 256 → Vb u → Vb v → (∀ r ∈ M, Vb r) → lco M ls (vax c u v) = vax c (lco M ls u) (lco M ls v) := by
  have hz : ∀ c, vax c vz vz = vz := fun c => funext fun j => by unfold vax vz; rw [fm_zero_right]; rfl
  induction M with
  | nil => intro ls c u v hc hu hv hM; simp only [lco, hz]
  | cons r M ih =>
    intro ls c u v hc hu hv hM
    cases ls with
    | nil => simp only [lco, hz]
    | cons l ls =>
      simp only [lco]
      rw [ih ls c u v hc hu hv fun r hr => hM r (List.mem_cons_of_mem _ hr)]
      funext j
      have hr := hM r List.mem_cons_self j
      have h1 : Vb (lco M ls u) := by
        clear ih
        have : ∀ (M : List (Nat → Nat)) ls, Vb (lco M ls u) := by
          intro M
          induction M with
          | nil => intro ls; exact vb_z
          | cons r M ih => intro ls; cases ls with
            | nil => exact vb_z
            | cons l ls => exact vb_ax (ih ls)
        exact this M ls
      show lco M ls v j ^^^ fm c (lco M ls u j) ^^^ fm (v l ^^^ fm c (u l)) (r j) = (lco M ls v j ^^^ fm (v l) (r j)) ^^^ fm c (lco M ls u j ^^^ fm (u l) (r j))
      rw [fm_xor_left (hv l) (fm_bd _ _) hr, fm_xor hc (h1 j) (fm_bd _ _), fm_assoc c (u l) (r j) hc (hu l) hr]
      ac_rfl
theorem lco_zero (M : List (Nat → Nat)) : ∀ (ls : List Nat) (w : Nat → Nat), (∀ l ∈ ls, w l = 0) → lco M ls w = vz := by
  induction M with
  | nil => intro ls w h; rfl
  | cons r M ih =>
    intro ls w h
    cases ls with
    | nil => rfl
    | cons l ls =>
      simp only [lco]
      rw [ih ls w fun x hx => h x (List.mem_cons_of_mem _ hx), h l List.mem_cons_self, vax_zero]
/-- One that is 1 at one beginning alone. -/
theorem lco_unit (M : List (Nat → Nat)) : ∀ (ls : List Nat) (w : Nat → Nat) (i : Nat) (r : Nat → Nat), (∀ r ∈ M, Vb r) → M.length = ls.length → M[i]? = some r → (∀ (k : Nat) l, ls[k]? = some l → w l = if k = i then 1 else 0) → lco M ls w = r := by
  induction M with
  | nil => intro ls w i r _ _ h; simp at h
  | cons s M ih =>
    intro ls w i r hM hl h hw
    cases ls with
    | nil => simp at hl
    | cons l ls =>
      simp only [lco]
      cases i with
      | zero =>
        obtain rfl : s = r := by simpa using h
        have h0 := hw 0 l rfl
        simp at h0
        rw [h0, lco_zero M ls w fun x hx => by
          obtain ⟨k, hk⟩ := List.getElem?_of_mem hx
          have := hw (k + 1) x (by simpa using hk)
          simpa using this]
        funext j
        unfold vax vz
        rw [Nat.zero_xor, fm_oneL _ (hM s List.mem_cons_self j)]
      | succ i =>
        have h0 := hw 0 l rfl
        simp at h0
        rw [h0, vax_zero]
        refine ih ls w i r (fun r hr => hM r (List.mem_cons_of_mem _ hr)) (by simpa using hl) (by simpa using h) fun k x hk => ?_
        have := hw (k + 1) x (by simpa using hk)
        simpa using this
theorem RedV.unit {M : List (Nat → Nat)} {ls : List Nat} (h : RedV M ls) {i : Nat} {r : Nat → Nat} (hr : M[i]? = some r) : ∀ (k : Nat) l, ls[k]? = some l → r l = if k = i then 1 else 0 := by
  intro k l hk
  split
  · rename_i e; subst e; exact h.one k r l hr hk
  · rename_i e; exact h.zero k i r l hr hk (fun x => e x.symm)
/-- What is spanned is known by what stands at the beginnings. -/
theorem RedV.eq_lco {M : List (Nat → Nat)} {ls : List Nat} (h : RedV M ls) {v : Nat → Nat} (hv : Spn M v) : lco M ls v = v := by
  induction hv with
  | zero => exact lco_zero M ls vz fun _ _ => rfl
  | add c r v hc hr hs ih =>
    obtain ⟨i, hi⟩ := List.getElem?_of_mem hr
    rw [lco_ax M ls c r v hc (h.byt r hr) hs.vb h.byt, ih, lco_unit M ls r i r h.byt h.len hi (h.unit hi)]
theorem RedV.eq_zero {M : List (Nat → Nat)} {ls : List Nat} (h : RedV M ls) {v : Nat → Nat} (hv : Spn M v) (h0 : ∀ l ∈ ls, v l = 0) : v = vz := by
  rw [← h.eq_lco hv, lco_zero M ls v h0]
theorem lco_at (M : List (Nat → Nat)) : ∀ (ls : List Nat) (w : Nat → Nat) (j : Nat), (∀ (i : Nat) r l, M[i]? = some r → ls[i]? = some l → w l = 0 ∨ r j = 0) → lco M ls w j = 0 := by
  induction M with
  | nil => intro ls w j _; rfl
  | cons r M ih =>
    intro ls w j h
    cases ls with
    | nil => rfl
    | cons l ls =>
      simp only [lco, vax]
      rw [ih ls w j fun i s x h1 h2 => h (i + 1) s x (by simpa using h1) (by simpa using h2)]
      have : fm (w l) (r j) = 0 := fm_eq_zero.2 (h 0 r l rfl rfl)
      rw [this]; rfl
theorem RedV.row {M : List (Nat → Nat)} {ls : List Nat} (h : RedV M ls) {i l : Nat} (hl : ls[i]? = some l) : ∃ r, M[i]? = some r := by
  have := (List.getElem?_eq_some_iff.1 hl).1
  exact ⟨_, List.getElem?_eq_getElem (by rw [h.len]; exact this)⟩
/-- Whatever is spanned begins where a row begins. -/
theorem RedV.first {M : List (Nat → Nat)} {ls : List Nat} (h : RedV M ls) {v : Nat → Nat} (hv : Spn M v) {j : Nat} (hj : v j ≠ 0) (hlow : ∀ i, i < j → v i = 0) : j ∈ ls := by
  apply Classical.byContradiction
  intro hn
  apply hj
  rw [← h.eq_lco hv]
  refine lco_at M ls v j fun i r l hr hl => ?_
  rcases Nat.lt_trichotomy l j with h1 | h1 | h1
  · exact .inl (hlow l h1)
  · exact absurd (by rw [← h1]; exact List.mem_of_getElem? hl) hn
  · exact .inr (h.low i r l hr hl j h1)
theorem RedV.leads {M N : List (Nat → Nat)} {ls ms : List Nat} (hM : RedV M ls) (hN : RedV N ms) (h : ∀ r ∈ M, Spn N r) : ∀ l ∈ ls, l ∈ ms := by
  intro l hl
  obtain ⟨i, hi⟩ := List.getElem?_of_mem hl
  obtain ⟨r, hr⟩ := hM.row hi
  refine hN.first (h r (List.mem_of_getElem? hr)) (j := l) (by rw [hM.one i r l hr hi]; decide) fun j hj => hM.low i r l hr hi j hj
theorem up_nodup {ls : List Nat} (h : ls.Pairwise (· < ·)) : ls.Nodup := h.imp fun h => Nat.ne_of_lt h
theorem up_ext (ls : List Nat) : ∀ ms : List Nat, ls.Pairwise (· < ·) → ms.Pairwise (· < ·) → (∀ x, x ∈ ls ↔ x ∈ ms) → ls = ms := by
  induction ls with
  | nil =>
    intro ms _ _ h
    cases ms with
    | nil => rfl
    | cons m ms => have := (h m).2 List.mem_cons_self; simp at this
  | cons l ls ih =>
    intro ms h1 h2 h
    cases ms with
    | nil => have := (h l).1 List.mem_cons_self; simp at this
    | cons m ms =>
      rw [List.pairwise_cons] at h1 h2
      have e : l = m := by
        have a := (h l).1 List.mem_cons_self
        have b := (h m).2 List.mem_cons_self
        rcases List.mem_cons.1 a with a | a
        · exact a
        · rcases List.mem_cons.1 b with b | b
          · exact b.symm
          · have := h2.1 l a
            have := h1.1 m b
            omega
      subst e
      congr 1
      refine ih ms h1.2 h2.2 fun x => ?_
      constructor
      · intro hx
        rcases List.mem_cons.1 ((h x).1 (List.mem_cons_of_mem _ hx)) with e | e
        · subst e; exact absurd (h1.1 x hx) (Nat.lt_irrefl _)
        · exact e
      · intro hx
        rcases List.mem_cons.1 ((h x).2 (List.mem_cons_of_mem _ hx)) with e | e
        · subst e; exact absurd (h2.1 x hx) (Nat.lt_irrefl _)
        · exact e
theorem RedV.leads_eq {M N : List (Nat → Nat)} {ls ms : List Nat} (hM : RedV M ls) (hN : RedV N ms) (h1 : ∀ r ∈ M, Spn N r) (h2 : ∀ r ∈ N, Spn M r) : ls = ms :=
  up_ext ls ms hM.up hN.up fun x => ⟨hM.leads hN h1 x, hN.leads hM h2 x⟩
/-- There is but one. -/
theorem RedV.unique {M N : List (Nat → Nat)} {ls ms : List Nat} (hM : RedV M ls) (hN : RedV N ms) (h1 : ∀ r ∈ M, Spn N r) (h2 : ∀ r ∈ N, Spn M r) : M = N := by
  have e := hM.leads_eq hN h1 h2
  subst e
  apply List.ext_getElem?
  intro i
  cases hm : M[i]? with
  | none =>
    rw [List.getElem?_eq_none_iff, hM.len, ← hN.len] at hm
    rw [List.getElem?_eq_none hm]
  | some r =>
    have hi := (List.getElem?_eq_some_iff.1 hm).1
    rw [List.getElem?_eq_getElem (by rw [hN.len, ← hM.len]; exact hi)]
    have hn : N[i]? = some (N[i]'(by rw [hN.len, ← hM.len]; exact hi)) := List.getElem?_eq_getElem _
    generalize N[i]'(by rw [hN.len, ← hM.len]; exact hi) = s at *
    congr 1
    rw [← hN.eq_lco (h1 r (List.mem_of_getElem? hm))]
    exact lco_unit N ls r i s hN.byt hN.len hn (hM.unit hm)
theorem RedV.le {M N : List (Nat → Nat)} {ls ms : List Nat} (hM : RedV M ls) (hN : RedV N ms) (h : ∀ r ∈ M, Spn N r) : M.length ≤ N.length := by
  rw [hM.len, hN.len]
  exact (up_nodup hM.up).length_le_of_subset fun l hl => hM.leads hN h l hl
/-- As many rows within: all is spanned. -/
theorem RedV.whole {M N : List (Nat → Nat)} {ls ms : List Nat} (hM : RedV M ls) (hN : RedV N ms) (h : ∀ r ∈ M, Spn N r) (hc : N.length ≤ M.length) {v : Nat → Nat} (hv : Spn N v) : Spn M v := by
  have hsub := hM.leads hN h
  have hms : ∀ l ∈ ms, l ∈ ls := by
    intro l hl
    apply Classical.byContradiction
    intro hn
    have h1 : (l :: ls).Nodup := List.nodup_cons.2 ⟨hn, up_nodup hM.up⟩
    have h2 := h1.length_le_of_subset (l₂ := ms) fun x hx => by
      rcases List.mem_cons.1 hx with e | e
      · subst e; exact hl
      · exact hsub x e
    have := hM.len
    have := hN.len
    simp at h2
    omega
  have hsp : ∀ (M : List (Nat → Nat)) ls, (∀ r ∈ M, Vb r) → ∀ v : Nat → Nat, Vb v → Spn M (lco M ls v) := by
    intro M
    induction M with
    | nil => intro ls _ v _; exact .zero
    | cons r M ih =>
      intro ls hb v hv
      cases ls with
      | nil => exact .zero
      | cons l ls => exact .add _ r _ (hv l) List.mem_cons_self ((ih ls (fun r hr => hb r (List.mem_cons_of_mem _ hr)) v hv).sub fun r hr => List.mem_cons_of_mem _ hr)
  have h1 := hsp M ls hM.byt v hv.vb
  have h2 : Spn N (vax 1 (lco M ls v) v) := Spn.ax hN.byt (by decide) (h1.trans hN.byt h) hv
  have h3 : vax 1 (lco M ls v) v = vz := by
    refine hN.eq_zero h2 fun l hl => ?_
    obtain ⟨i, hi⟩ := List.getElem?_of_mem (hms l hl)
    have e : lco M ls v l = v l := by
      obtain ⟨r, hr⟩ := hM.row hi
      have hu := hM.unit hr
      have : ∀ (M : List (Nat → Nat)) (ls' : List Nat) (i : Nat), M.length = ls'.length → ls'[i]? = some l → (∀ (k : Nat) r, M[k]? = some r → r l = if k = i then 1 else 0) → lco M ls' v l = v l := by
        intro M
        induction M with
        | nil => intro ls' i h1 h2 _; cases ls' with
          | nil => simp at h2
          | cons x y => simp at h1
        | cons r M ih =>
          intro ls' i h1 h2 h3
          cases ls' with
          | nil => simp at h1
          | cons x ls' =>
            have h0 := h3 0 r rfl
            cases i with
            | zero =>
              obtain rfl : x = l := by simpa using h2
              simp at h0
              have : lco M ls' v x = 0 := lco_at M ls' v x fun k s y hs hy => .inr (by have := h3 (k + 1) s (by simpa using hs); simpa using this)
              simp only [lco, vax]
              rw [this, h0, Nat.zero_xor, fm_one _ (hv.vb x)]
            | succ i =>
              simp at h0
              simp only [lco, vax]
              rw [h0, fm_zero_right, Nat.xor_zero]
              exact ih ls' i (by simpa using h1) (by simpa using h2) fun k s hs => by have := h3 (k + 1) s (by simpa using hs); simpa using this
      refine this M ls i hM.len hi fun k s hs => ?_
      split
      · rename_i e; subst e; exact hM.one k s l hs hi
      · rename_i e; exact hM.zero i k s l hs hi e
    unfold vax
    rw [e, fm_oneL _ (hv.vb l), Nat.xor_self]
  have h4 : v = lco M ls v := by
    funext j
    have := congrFun h3 j
    unfold vax vz at this
    rw [fm_oneL _ (h1.vb j)] at this
    exact xor_eq_zero' this
  rw [h4]; exact h1
end Go.Proofs.Ytfbhbjhfebkpfaa
