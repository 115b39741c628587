/- Matrices in memory: rows of the call's own, each in a block of its own; rows that are read. -/
import Derived.Test.YtfbhbjhfebkpfaaRowD
import Derived.Test.YtfbhbjhfebkpfaaSolve
import Derived.Test.YtfbhbjhfebkpfaaLinM
namespace Go.Proofs.Ytfbhbjhfebkpfaa
open Go.RowKit
set_option linter.unusedVariables false

theorem tne_hd : 5 ≠ 49 := by decide

/-- Rows of the call's own, each in a block of its own; vs: the rows' headers. -/
structure MOwnV (w : World) (C : Nat) (v : Value) (M : List (List Nat)) (vs : List Value) : Prop where
  hd : w.ownsRow C 49 1 v M.length vs
  row : ∀ (i : Nat) l, M[i]? = some l → ∃ u, vs[i]? = some u ∧ OwnB w C u l
  apart : ∀ (i j : Nat) u u', i ≠ j → vs[i]? = some u → vs[j]? = some u' → u.ownBlock = none ∨ u.ownBlock ≠ u'.ownBlock
def MOwn (w : World) (C : Nat) (v : Value) (M : List (List Nat)) : Prop := ∃ vs, MOwnV w C v M vs

theorem MOwnV.vlen {w : World} {C : Nat} {v : Value} {M : List (List Nat)} {vs : List Value} (h : MOwnV w C v M vs) : vs.length = M.length := by have := h.hd.1; omega
theorem MOwnV.len {w : World} {C : Nat} {a : Option Addr} {n c : Nat} {M : List (List Nat)} {vs : List Value} (h : MOwnV w C (.slice a n c) M vs) : M.length = n := by
  rcases h.hd.2 with ⟨h1, h2⟩ | ⟨g, cap, cur, h1, _⟩
  · injection h1 with _ h3; omega
  · injection h1 with _ h3; exact h3.symm
theorem MOwn.len {w : World} {C : Nat} {a : Option Addr} {n c : Nat} {M : List (List Nat)} (h : MOwn w C (.slice a n c) M) : M.length = n := by
  obtain ⟨vs, h⟩ := h; exact h.len
theorem MOwnV.of {w : World} {C : Nat} {v : Value} {M : List (List Nat)} {vs : List Value} (h : MOwnV w C v M vs) {i : Nat} {u : Value} (hu : vs[i]? = some u) : OwnB w C u (M.getD i []) ∧ M[i]? = some (M.getD i []) := by
  have hi : i < M.length := by have := (List.getElem?_eq_some_iff.1 hu).1; rw [h.vlen] at this; exact this
  have hl : M[i]? = some (M.getD i []) := by rw [List.getD_eq_getElem?_getD, List.getElem?_eq_getElem hi]; rfl
  obtain ⟨u', h1, h2⟩ := h.row i _ hl
  rw [hu] at h1
  rw [Option.some.inj h1]
  exact ⟨h2, hl⟩
theorem MOwnV.hdrow {w : World} {C : Nat} {v : Value} {M : List (List Nat)} {vs : List Value} (h : MOwnV w C v M vs) {i : Nat} {u : Value} (hu : vs[i]? = some u) : u.ownBlock = none ∨ u.ownBlock ≠ v.ownBlock :=
  own_ne (h.of hu).1 h.hd tne_hd
theorem MOwnV.form {w : World} {C : Nat} {v : Value} {M : List (List Nat)} {vs : List Value} (h : MOwnV w C v M vs) (h0 : 0 < M.length) : ∃ g cap, v = .slice (some ⟨g, 0, none⟩) M.length cap ∧ C ≤ g ∧ g < w.heap.size := h.hd.form h0
theorem MOwn.form {w : World} {C : Nat} {a : Option Addr} {n c : Nat} {M : List (List Nat)} (h : MOwn w C (.slice a n c) M) (h0 : 0 < n) : ∃ g, a = some ⟨g, 0, none⟩ ∧ C ≤ g ∧ g < w.heap.size := by
  have hl := h.len
  obtain ⟨vs, h⟩ := h
  obtain ⟨g, cap, e, h1, h2⟩ := h.form (by omega)
  injection e with e1
  exact ⟨g, e1, h1, h2⟩
theorem OwnB.lt {w : World} {C : Nat} {u : Value} {l : List Nat} (h : OwnB w C u l) : ∀ g, u.ownBlock = some g → C ≤ g ∧ g < w.heap.size := World.ownsRow.lt h
theorem OwnB.kept {w w' : World} {C : Nat} {u : Value} {l : List Nat} {r : Option Nat} (h : OwnB w C u l) (hg : w.grownBy w' r) (hr : u.ownBlock = none ∨ u.ownBlock ≠ r) : OwnB w' C u l := World.ownsRow.kept h hg hr

/-- One row's header, and the row. -/
theorem MOwn.at {w : World} {C g n c : Nat} {M : List (List Nat)} (h : MOwn w C (.slice (some ⟨g, 0, none⟩) n c) M) {i : Nat} (hi : i < n) :
    ∃ a' c', w.cell? ⟨g, i, none⟩ = some (.slice a' (M.getD i []).length c') ∧ w.frozen? ⟨g, i, none⟩ = false ∧ OwnB w C (.slice a' (M.getD i []).length c') (M.getD i []) := by
  have hl := h.len
  obtain ⟨vs, h⟩ := h
  have hiv : i < vs.length := by rw [h.vlen, hl]; exact hi
  have hu : vs[i]? = some vs[i] := List.getElem?_eq_getElem hiv
  obtain ⟨ho, _⟩ := h.of hu
  have hc : w.cell? ⟨g, i, none⟩ = some vs[i] := by rw [← hu]; have := h.hd; rw [hl] at this; exact this.cellAt i (by omega)
  have hf := by have := h.hd; rw [hl] at this; exact this.frozenAt i
  obtain ⟨a', c', e, _⟩ := ho.rd
  rw [e] at hc ho
  exact ⟨a', c', hc, hf, ho⟩

theorem MOwnV.new {w w' : World} {C : Nat} {v : Value} {M : List (List Nat)} {vs : List Value} (h : MOwnV w C v M vs) (hb : Below w.heap.size w w') : MOwnV w' C v M vs :=
  ⟨own_new h.hd hb, fun i l hl => by obtain ⟨u, h1, h2⟩ := h.row i l hl; exact ⟨u, h1, h2.below hb⟩, h.apart⟩
theorem MOwn.new {w w' : World} {C : Nat} {v : Value} {M : List (List Nat)} (h : MOwn w C v M) (hb : Below w.heap.size w w') : MOwn w' C v M := by
  obtain ⟨vs, h⟩ := h; exact ⟨vs, h.new hb⟩
theorem MOwn.drewN {w : World} {C : Nat} {v : Value} {M : List (List Nat)} (h : MOwn w C v M) (j : Nat) : MOwn (w.drewN j) C v M := h.new (below_drewN (Below.refl _ _) j)
theorem MOwn.base {w : World} {C C' : Nat} {v : Value} {M : List (List Nat)} (h : MOwn w C v M) (hC : C' ≤ C) : MOwn w C' v M := by
  obtain ⟨vs, h⟩ := h
  exact ⟨vs, own_base h.hd hC, fun i l hl => by obtain ⟨u, h1, h2⟩ := h.row i l hl; exact ⟨u, h1, h2.base hC⟩, h.apart⟩
theorem MOwn.nil (w : World) (C : Nat) : MOwn w C (.slice none 0 0) [] := ⟨[], World.ownsRow_nil _ _ _ _, by simp, by simp⟩

theorem set_get {α : Type} {l : List α} {i k : Nat} {x y : α} (h : (l.set i x)[k]? = some y) : (k = i ∧ y = x ∧ i < l.length) ∨ (k ≠ i ∧ l[k]? = some y) := by
  rw [List.getElem?_set] at h
  by_cases e : i = k
  · subst e
    rw [if_pos rfl] at h
    split at h
    · rename_i h2; exact .inl ⟨rfl, (Option.some.inj h).symm, h2⟩
    · cases h
  · rw [if_neg e] at h
    exact .inr ⟨fun h2 => e h2.symm, h⟩
theorem set_same {α : Type} {l : List α} {i : Nat} {x : α} (h : i < l.length) : (l.set i x)[i]? = some x := by rw [List.getElem?_set, if_pos rfl, if_pos h]
theorem set_far {α : Type} {l : List α} {i k : Nat} {x : α} (h : k ≠ i) : (l.set i x)[k]? = l[k]? := by rw [List.getElem?_set, if_neg (fun e => h e.symm)]

/-- Two headers change places. -/
theorem MOwn.swap {w : World} {C g n c : Nat} {M : List (List Nat)} (h : MOwn w C (.slice (some ⟨g, 0, none⟩) n c) M) {i j : Nat} (hi : i < n) (hj : j < n) {ui uj : Value} (hci : w.cell? ⟨g, i, none⟩ = some ui) (hcj : w.cell? ⟨g, j, none⟩ = some uj) :
    MOwn ((w.setCell ⟨g, i, none⟩ uj).setCell ⟨g, j, none⟩ ui) C (.slice (some ⟨g, 0, none⟩) n c) (swp M i j) := by
  have hl := h.len
  obtain ⟨vs, h⟩ := h
  have hv := h.vlen
  have hd := h.hd
  rw [hl] at hd
  have hui : vs[i]? = some ui := by rw [← hd.cellAt i (by omega)]; exact hci
  have huj : vs[j]? = some uj := by rw [← hd.cellAt j (by omega)]; exact hcj
  obtain ⟨d1, g1⟩ := hd.stored i uj
  obtain ⟨d2, g2⟩ := d1.stored j ui
  have hrow : ∀ (k : Nat) u, vs[k]? = some u → u.ownBlock = none ∨ u.ownBlock ≠ some g := fun k u hu => by have := h.hdrow hu; simpa [Value.ownBlock] using this
  have hkeep : ∀ (k : Nat) u, vs[k]? = some u → OwnB ((w.setCell ⟨g, i, none⟩ uj).setCell ⟨g, j, none⟩ ui) C u (M.getD k []) := fun k u hu => ((h.of hu).1.kept g1 (hrow k u hu)).kept g2 (hrow k u hu)
  have hsg : ∀ (k : Nat) u, ((vs.set i uj).set j ui)[k]? = some u → vs[sg i j k]? = some u := by
    intro k u hu
    unfold sg
    rcases set_get hu with ⟨rfl, rfl, _⟩ | ⟨h1, h2⟩
    · by_cases e : k = i
      · rw [if_pos e]; subst e; rw [hui] at huj; rw [← hui]
      · rw [if_neg e, if_pos rfl]; exact hui
    · rcases set_get h2 with ⟨rfl, rfl, _⟩ | ⟨h3, h4⟩
      · rw [if_pos rfl]; exact huj
      · rw [if_neg h3, if_neg h1]; exact h4
  have hln : (swp M i j).length = n := by rw [swp_len]; exact hl
  refine ⟨(vs.set i uj).set j ui, by rw [hln]; exact d2, fun k l hk => ?_, fun k k' u u' hne hu hu' => ?_⟩
  · have hkn : k < n := by have := (List.getElem?_eq_some_iff.1 hk).1; omega
    have hs : sg i j k < n := sg_lt hi hj hkn
    obtain ⟨u, hu⟩ : ∃ u, ((vs.set i uj).set j ui)[k]? = some u := ⟨_, List.getElem?_eq_getElem (by simp; omega)⟩
    refine ⟨u, hu, ?_⟩
    have := hkeep _ u (hsg k u hu)
    rw [← swp_row (by omega) (by omega) k] at this
    rw [List.getD_eq_getElem?_getD, hk] at this
    exact this
  · refine h.apart _ _ u u' (fun e => hne ?_) (hsg k u hu) (hsg k' u' hu')
    have := congrArg (sg i j) e
    rwa [sg_sg, sg_sg] at this

/-- A header is laid anew: a row made since. -/
theorem MOwn.put {w0 w : World} {C g n c : Nat} {M : List (List Nat)} (h : MOwn w0 C (.slice (some ⟨g, 0, none⟩) n c) M) (hb : Below w0.heap.size w0 w) {i : Nat} (hi : i < n) {u : Value} {l : List Nat} (ho : OwnB w w0.heap.size u l) (hC : C ≤ w0.heap.size) :
    MOwn (w.setCell ⟨g, i, none⟩ u) C (.slice (some ⟨g, 0, none⟩) n c) (M.set i l) := by
  have hl := h.len
  obtain ⟨vs, h⟩ := h
  have hv := h.vlen
  have hlt0 : ∀ (k : Nat) u', vs[k]? = some u' → ∀ b, u'.ownBlock = some b → b < w0.heap.size := fun k u' hu b hb => ((h.of hu).1.lt b hb).2
  replace h := h.new hb
  have hd := h.hd
  rw [hl] at hd
  obtain ⟨d1, g1⟩ := hd.stored i u
  have hgw : u.ownBlock = none ∨ u.ownBlock ≠ some g := by have := own_ne ho hd tne_hd; simpa [Value.ownBlock] using this
  have hrow : ∀ (k : Nat) u, vs[k]? = some u → u.ownBlock = none ∨ u.ownBlock ≠ some g := fun k u hu => by have := h.hdrow hu; simpa [Value.ownBlock] using this
  refine ⟨vs.set i u, by rw [List.length_set, hl]; exact d1, fun k l' hk => ?_, fun k k' u1 u2 hne hu1 hu2 => ?_⟩
  · rcases set_get hk with ⟨rfl, rfl, h3⟩ | ⟨h1, h2⟩
    · exact ⟨u, set_same (by omega), (ho.base hC).kept g1 hgw⟩
    · obtain ⟨u1, h3, h4⟩ := h.row k l' h2
      exact ⟨u1, by rw [set_far h1]; exact h3, h4.kept g1 (hrow k u1 h3)⟩
  · rcases set_get hu1 with ⟨rfl, rfl, h3⟩ | ⟨h1, h2⟩
    · rcases set_get hu2 with ⟨rfl, _, _⟩ | ⟨h1, h2⟩
      · exact absurd rfl hne
      · cases e : u1.ownBlock with
        | none => exact .inl rfl
        | some b =>
          right
          intro e2
          have := hlt0 _ _ h2 b e2.symm
          have := (ho.lt b e).1
          omega
    · rcases set_get hu2 with ⟨rfl, rfl, _⟩ | ⟨h3, h4⟩
      · cases e : u1.ownBlock with
        | none => exact .inl rfl
        | some b =>
          right
          intro e2
          have := hlt0 _ _ h2 b e
          have := (ho.lt b e2.symm).1
          omega
      · exact h.apart k k' u1 u2 hne h2 h4

/-- A row is written in its place. -/
theorem MOwn.wrote {w w' : World} {C g n c : Nat} {M : List (List Nat)} (h : MOwn w C (.slice (some ⟨g, 0, none⟩) n c) M) {i : Nat} (hi : i < n) {u : Value} {l : List Nat} (hc : w.cell? ⟨g, i, none⟩ = some u) (hg : w.grownBy w' u.ownBlock) (ho : OwnB w' C u l) :
    MOwn w' C (.slice (some ⟨g, 0, none⟩) n c) (M.set i l) := by
  have hl := h.len
  obtain ⟨vs, h⟩ := h
  have hv := h.vlen
  have hd := h.hd
  rw [hl] at hd
  have hui : vs[i]? = some u := by rw [← hd.cellAt i (by omega)]; exact hc
  have hne : (Value.slice (some ⟨g, 0, none⟩) n c).ownBlock = none ∨ (Value.slice (some ⟨g, 0, none⟩) n c).ownBlock ≠ u.ownBlock := by
    right
    rcases h.hdrow hui with h1 | h1
    · rw [h1]; simp [Value.ownBlock]
    · exact fun e => h1 e.symm
  refine ⟨vs, by rw [List.length_set, hl]; exact hd.kept hg hne, fun k l' hk => ?_, h.apart⟩
  rcases set_get hk with ⟨rfl, rfl, h3⟩ | ⟨h1, h2⟩
  · exact ⟨u, hui, ho⟩
  · obtain ⟨u1, h3, h4⟩ := h.row k l' h2
    exact ⟨u1, h3, h4.kept hg (h.apart k i u1 u h1 h3 hui)⟩
/-- A row more. -/
theorem MOwnV.snoc {w w' : World} {C D : Nat} {v v' : Value} {M : List (List Nat)} {vs : List Value} {u : Value} {l : List Nat} (h : MOwnV w C v M vs) (hD : ∀ (i : Nat) u', vs[i]? = some u' → ∀ b, u'.ownBlock = some b → b < D) (hC : C ≤ D) (ho : OwnB w D u l)
    (hown : w'.ownsRow C 49 1 v' (M.length + 1) (vs ++ [u])) (hg : w.grownBy w' v.ownBlock) : MOwnV w' C v' (M ++ [l]) (vs ++ [u]) := by
  have hv := h.vlen
  have huv : u.ownBlock = none ∨ u.ownBlock ≠ v.ownBlock := own_ne ho h.hd tne_hd
  have hcase : ∀ (k : Nat) u1, (vs ++ [u])[k]? = some u1 → (k < vs.length ∧ vs[k]? = some u1) ∨ (k = vs.length ∧ u1 = u) := by
    intro k u1 hk
    rw [List.getElem?_append] at hk
    split at hk
    · rename_i h1; exact .inl ⟨h1, hk⟩
    · rename_i h1
      have : k - vs.length = 0 := by
        rcases Nat.eq_zero_or_pos (k - vs.length) with h2 | h2
        · exact h2
        · rw [List.getElem?_eq_none (by simp; omega)] at hk; cases hk
      rw [this] at hk
      exact .inr ⟨by omega, (Option.some.inj hk).symm⟩
  refine ⟨by rw [List.length_append, List.length_singleton]; exact hown, fun k l' hk => ?_, fun k k' u1 u2 hne hu1 hu2 => ?_⟩
  · rw [List.getElem?_append] at hk
    split at hk
    · rename_i h1
      obtain ⟨u1, h3, h4⟩ := h.row k l' hk
      exact ⟨u1, by rw [List.getElem?_append_left (by omega)]; exact h3, h4.kept hg (h.hdrow h3)⟩
    · rename_i h1
      have : k - M.length = 0 := by
        rcases Nat.eq_zero_or_pos (k - M.length) with h2 | h2
        · exact h2
        · rw [List.getElem?_eq_none (by simp; omega)] at hk; cases hk
      rw [this] at hk
      obtain rfl : l = l' := by simpa using hk
      exact ⟨u, by rw [List.getElem?_append_right (by omega), hv, this]; rfl, (ho.base hC).kept hg huv⟩
  · rcases hcase k u1 hu1 with ⟨h1, h2⟩ | ⟨h1, rfl⟩
    · rcases hcase k' u2 hu2 with ⟨h3, h4⟩ | ⟨h3, rfl⟩
      · exact h.apart k k' u1 u2 hne h2 h4
      · cases e : u1.ownBlock with
        | none => exact .inl rfl
        | some b =>
          right
          intro e2
          have := hD _ _ h2 b e
          have := (ho.lt b e2.symm).1
          omega
    · rcases hcase k' u2 hu2 with ⟨h3, h4⟩ | ⟨h3, rfl⟩
      · cases e : u1.ownBlock with
        | none => exact .inl rfl
        | some b =>
          right
          intro e2
          have := hD _ _ h4 b e2.symm
          have := (ho.lt b e).1
          omega
      · omega
theorem MOwn.take {w : World} {C g n c : Nat} {M : List (List Nat)} (h : MOwn w C (.slice (some ⟨g, 0, none⟩) n c) M) {k : Nat} (hk : k ≤ n) : MOwn w C (.slice (some ⟨g, 0, none⟩) k c) (M.take k) := by
  have hl := h.len
  obtain ⟨vs, h⟩ := h
  have hv := h.vlen
  have hkl : (M.take k).length = k := by rw [List.length_take]; omega
  refine ⟨vs.take k, ?_, fun i l hi => ?_, fun i j u u' hne hu hu' => ?_⟩
  · rw [hkl]
    have hd := h.hd
    rw [hl] at hd
    refine ⟨by rw [List.length_take]; omega, ?_⟩
    rcases hd.2 with ⟨h1, _⟩ | ⟨g', cap, cur, h1, h2, h3, h4, h5, h6, h7⟩
    · simp at h1
    · injection h1 with e1 e2 e3
      subst e3
      refine .inr ⟨g', c, cur, by rw [e1], h2, h3, by omega, h5, h6, ?_⟩
      rw [← h7, List.take_take, Nat.mul_one, Nat.mul_one, Nat.min_eq_left hk]
  · rw [List.getElem?_take] at hi
    split at hi
    · rename_i h1
      obtain ⟨u, h2, h3⟩ := h.row i l hi
      exact ⟨u, by rw [List.getElem?_take, if_pos h1]; exact h2, h3⟩
    · cases hi
  · rw [List.getElem?_take] at hu hu'
    split at hu
    · split at hu'
      · exact h.apart i j u u' hne hu hu'
      · cases hu'
    · cases hu

/-- Rows that are read: a slice of headers, and what they lead to. -/
def RdM (w : World) (B : Nat) (a : Option Addr) (n : Nat) (M : List (List Nat)) : Prop :=
  M.length = n ∧ ∃ vs, Rd w B a n vs ∧ ∀ (i : Nat) l, M[i]? = some l → ∃ a' c', vs[i]? = some (.slice a' l.length c') ∧ Rd w B a' l.length (cellsB l) ∧ (a' = none → c' = 0) ∧ l.length ≤ c' ∧ c' ≤ maxLen
theorem RdM.len {w : World} {B : Nat} {a : Option Addr} {n : Nat} {M : List (List Nat)} (h : RdM w B a n M) : M.length = n := h.1
theorem RdM.keep {w w' : World} {B : Nat} {a : Option Addr} {n : Nat} {M : List (List Nat)} (h : RdM w B a n M) (hk : ∀ p : Addr, p.block < B → w'.cell? p = w.cell? p) : RdM w' B a n M := by
  obtain ⟨h1, vs, h2, h3⟩ := h
  refine ⟨h1, vs, h2.keep hk, fun i l hl => ?_⟩
  obtain ⟨a', c', h4, h5, h6⟩ := h3 i l hl
  exact ⟨a', c', h4, h5.keep hk, h6⟩
theorem RdM.more {w : World} {B B' : Nat} {a : Option Addr} {n : Nat} {M : List (List Nat)} (h : RdM w B a n M) (hB : B ≤ B') : RdM w B' a n M := by
  obtain ⟨h1, vs, h2, h3⟩ := h
  refine ⟨h1, vs, h2.more hB, fun i l hl => ?_⟩
  obtain ⟨a', c', h4, h5, h6⟩ := h3 i l hl
  exact ⟨a', c', h4, h5.more hB, h6⟩
theorem RdM.below {w w' : World} {B C : Nat} {a : Option Addr} {n : Nat} {M : List (List Nat)} (h : RdM w B a n M) (hb : Below C w w') (hC : B ≤ C) : RdM w' B a n M := h.keep fun _ hp => hb.cell (by omega)
theorem RdM.drewN {w : World} {B : Nat} {a : Option Addr} {n : Nat} {M : List (List Nat)} (h : RdM w B a n M) (j : Nat) : RdM (w.drewN j) B a n M := h
theorem RdM.nil (w : World) (B : Nat) (a : Option Addr) : RdM w B a 0 [] := ⟨rfl, [], rd_nil _ _ _, by simp⟩
theorem getD_some {M : List (List Nat)} {i : Nat} (h : i < M.length) : M[i]? = some (M.getD i []) := by rw [List.getD_eq_getElem?_getD, List.getElem?_eq_getElem h]; rfl
theorem RdM.at {w : World} {B : Nat} {a : Option Addr} {n : Nat} {M : List (List Nat)} (h : RdM w B a n M) {i : Nat} (hi : i < n) :
    ∃ b o a' c', a = some ⟨b, o, none⟩ ∧ b < B ∧ w.cell? ⟨b, o + i, none⟩ = some (.slice a' (M.getD i []).length c') ∧ Rd w B a' (M.getD i []).length (cellsB (M.getD i [])) ∧ (a' = none → c' = 0) ∧ (M.getD i []).length ≤ c' ∧ c' ≤ maxLen := by
  obtain ⟨h1, vs, h2, h3⟩ := h
  obtain ⟨a', c', h4, h5, h6⟩ := h3 i _ (getD_some (by omega))
  obtain ⟨b, o, rfl, hb, hc⟩ := h2.2 (by omega)
  exact ⟨b, o, a', c', rfl, hb, hc i _ h4, h5, h6⟩
theorem RdM.take {w : World} {B : Nat} {a : Option Addr} {n : Nat} {M : List (List Nat)} (h : RdM w B a n M) {k : Nat} (hk : k ≤ n) : RdM w B a k (M.take k) := by
  obtain ⟨h1, vs, h2, h3⟩ := h
  refine ⟨by rw [List.length_take]; omega, vs.take k, ⟨by rw [List.length_take, h2.1]; omega, fun h0 => ?_⟩, fun i l hl => ?_⟩
  · obtain ⟨b, o, e, hb, hc⟩ := h2.2 (by omega)
    refine ⟨b, o, e, hb, fun i u hu => hc i u ?_⟩
    rw [List.getElem?_take] at hu
    split at hu
    · exact hu
    · cases hu
  · rw [List.getElem?_take] at hl
    split at hl
    · rename_i h4
      obtain ⟨a', c', h5, h6⟩ := h3 i l hl
      exact ⟨a', c', by rw [List.getElem?_take, if_pos h4]; exact h5, h6⟩
    · cases hl
theorem OwnB.caps {w : World} {C : Nat} {a : Option Addr} {n c : Nat} {l : List Nat} (h : OwnB w C (.slice a n c) l) : (a = none → c = 0) ∧ n ≤ c ∧ c ≤ maxLen := by
  rcases h.2 with ⟨h1, _⟩ | ⟨g, cap, cur, h1, _, _, h4, h5, _⟩
  · injection h1 with e1 e2 e3
    subst e2 e3
    exact ⟨fun _ => rfl, Nat.le_refl _, Nat.zero_le _⟩
  · injection h1 with e1 e2 e3
    subst e2 e3
    exact ⟨fun e => (by rw [e] at e1; cases e1), h4, h5⟩
theorem MOwn.rdM {w : World} {C : Nat} {a : Option Addr} {n c : Nat} {M : List (List Nat)} (h : MOwn w C (.slice a n c) M) : RdM w w.heap.size a n M := by
  have hl := h.len
  obtain ⟨vs, h⟩ := h
  have hd := h.hd
  rw [hl] at hd
  obtain ⟨a1, c1, e, hr, _⟩ := rd_of_own' hd
  injection e with e1 e2 e3
  subst e1
  refine ⟨hl, vs, hr, fun i l hi => ?_⟩
  obtain ⟨u, hu, ho⟩ := h.row i l hi
  obtain ⟨a', c', rfl, hr'⟩ := ho.rd
  exact ⟨a', c', hu, hr', ho.caps⟩
theorem MOwn.caps {w : World} {C : Nat} {a : Option Addr} {n c : Nat} {M : List (List Nat)} (h : MOwn w C (.slice a n c) M) : (a = none → c = 0) ∧ n ≤ c ∧ c ≤ maxLen := by
  have hl := h.len
  obtain ⟨vs, h⟩ := h
  rcases h.hd.2 with ⟨h1, _⟩ | ⟨g, cap, cur, h1, _, _, h4, h5, _⟩
  · injection h1 with e1 e2 e3
    subst e2 e3
    exact ⟨fun _ => rfl, Nat.le_refl _, Nat.zero_le _⟩
  · injection h1 with e1 e2 e3
    subst e2 e3
    exact ⟨fun e => (by rw [e] at e1; cases e1), h4, h5⟩
theorem MOwn.val {w : World} {C : Nat} {v : Value} {M : List (List Nat)} (h : MOwn w C v M) : ∃ a c, v = .slice a M.length c := by
  obtain ⟨vs, h⟩ := h
  obtain ⟨a, c, rfl, _⟩ := rd_of_own' h.hd
  exact ⟨a, c, rfl⟩
def eRdM (a : Option Addr) (n : Nat) (M : List (List Nat)) : Ent := ⟨fun w => RdM w w.heap.size a n M, fun _ _ h hb => (h.below hb (Nat.le_refl _)).more hb.size⟩
def eMOwn (C : Nat) (v : Value) (M : List (List Nat)) : Ent := ⟨fun w => MOwn w C v M, fun _ _ h hb => h.new hb⟩
theorem Sx.rdM {w0 w : World} {L : List Ent} (h : Sx w0 w L) (i : Nat) {a : Option Addr} {n : Nat} {M : List (List Nat)} (hi : L[i]? = some (eRdM a n M)) : RdM w w.heap.size a n M := h.get i hi
theorem Sx.mown {w0 w : World} {L : List Ent} (h : Sx w0 w L) (i : Nat) {C : Nat} {v : Value} {M : List (List Nat)} (hi : L[i]? = some (eMOwn C v M)) : MOwn w C v M := h.get i hi
theorem MOwn.rdM2 {w : World} {C : Nat} {v : Value} {M : List (List Nat)} {n : Nat} (h : MOwn w C v M) (hn : M.length = n) : ∃ a c, v = .slice a n c ∧ (eRdM a n M).ok w ∧ (a = none → c = 0) ∧ n ≤ c ∧ c ≤ maxLen := by
  obtain ⟨a, c, rfl⟩ := h.val
  rw [hn] at h ⊢
  exact ⟨a, c, rfl, h.rdM, h.caps⟩
end Go.Proofs.Ytfbhbjhfebkpfaa
