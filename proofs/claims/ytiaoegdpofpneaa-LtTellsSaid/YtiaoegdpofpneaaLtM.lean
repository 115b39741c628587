/- law09, plain: which columns a symbol's row has; the row as bytes; what a seed and an ID turn to. -/
import Derived.Test.YtiaoegdpofpneaaChoG
import Derived.Test.YtiaoegdpofpneaaLaw06d
import Derived.Test.YtiaoegdpofpneaaPre
import Derived.Laws.BitsAllLaws
namespace Go.Proofs.Ytiaoegdpofpneaa
open Go.RowKit
set_option linter.unusedVariables false

/-- The columns, of n, of a Draw that stands at s. -/
def ltL (n s : Int) : List Nat := outL (drawS (tabI n) s) n (drawV (tabI n) s : Nat)
theorem ltL_len (n s : Int) : (ltL n s).length ≤ 64 := outL_len _ _ _
theorem draw_in {n : Nat} (h1 : 1 ≤ n) (h2 : n ≤ 64) (s : Int) : 1 ≤ drawV (tabI n) s ∧ drawV (tabI n) s ≤ n := by
  rw [tabI_in ⟨h1, h2⟩]
  have hne : tabN n ≠ [] := fun e => by have := tabN_len n; rw [e] at this; simp at this; omega
  unfold drawV
  rw [if_neg hne, tabN_len, tabN_get (by omega : n - 1 < n), show n - 1 + 1 = n by omega]
  have hp : 0 < sumN n n := by
    have := sum_rise h2 (show n - 1 < n by omega)
    rw [show n - 1 + 1 = n by omega] at this
    omega
  have hpI : (0 : Int) < (sumN n n : Nat) := by omega
  refine degP_in h1 h2 ?_ ?_
  · exact (bval_bd _ _).1
  · rw [bval_pos hpI]; exact Int.emod_lt_of_pos _ hpI
theorem ltL_in {n : Nat} (h1 : 1 ≤ n) (h2 : n ≤ 64) (s : Int) : 1 ≤ (ltL n s).length ∧ (∀ x ∈ ltL n s, x < n) ∧ (ltL n s).Pairwise (· < ·) := by
  obtain ⟨d1, d2⟩ := draw_in h1 h2 s
  unfold ltL outL okI
  rw [if_pos (decide_eq_true (by omega)), Int.toNat_natCast, Int.toNat_natCast]
  exact ⟨by rw [chosen_len d2]; exact d1, chosen_lt d2, chosen_rise d2⟩

/-- The row: noughts, with a 1 at each of L. -/
def onL (n : Nat) (L : List Nat) : List Nat := L.foldl (fun r i => r.set i 1) (List.replicate n 0)
theorem onL_snoc (n : Nat) (L : List Nat) (x : Nat) : onL n (L ++ [x]) = (onL n L).set x 1 := by unfold onL; rw [List.foldl_append]; rfl
theorem onL_spec (n : Nat) (L : List Nat) : (onL n L).length = n ∧ ∀ i, i < n → (onL n L).getD i 0 = if i ∈ L then 1 else 0 := by
  unfold onL
  suffices ∀ (M : List Nat) (r : List Nat) (P : Nat → Prop), r.length = n → (∀ i, i < n → (P i ∧ r.getD i 0 = 1) ∨ (¬ P i ∧ r.getD i 0 = 0)) →
      (M.foldl (fun r i => r.set i 1) r).length = n ∧ ∀ i, i < n → ((P i ∨ i ∈ M) ∧ (M.foldl (fun r i => r.set i 1) r).getD i 0 = 1) ∨ (¬ (P i ∨ i ∈ M) ∧ (M.foldl (fun r i => r.set i 1) r).getD i 0 = 0) by
    obtain ⟨h1, h2⟩ := this L (List.replicate n 0) (fun _ => False) (by simp) (fun i hi => .inr ⟨id, by rw [List.getD_eq_getElem?_getD, List.getElem?_replicate]; split <;> rfl⟩)
    refine ⟨h1, fun i hi => ?_⟩
    rcases h2 i hi with ⟨h, e⟩ | ⟨h, e⟩
    · rw [e, if_pos (by simpa using h)]
    · rw [e, if_neg (fun hm => h (.inr hm))]
  intro M
  induction M with
  | nil => intro r P h1 h2; exact ⟨h1, fun i hi => by simpa using h2 i hi⟩
  | cons x M ih =>
    intro r P h1 h2
    obtain ⟨h3, h4⟩ := ih (r.set x 1) (fun i => P i ∨ i = x) (by rw [List.length_set]; exact h1) (fun i hi => by
      rw [List.getD_eq_getElem?_getD, List.getElem?_set]
      by_cases e : x = i
      · subst e
        rw [if_pos rfl, if_pos (by omega)]
        exact .inl ⟨.inr rfl, rfl⟩
      · rw [if_neg e, ← List.getD_eq_getElem?_getD]
        rcases h2 i hi with ⟨h, e2⟩ | ⟨h, e2⟩
        · exact .inl ⟨.inl h, e2⟩
        · exact .inr ⟨fun h' => h'.elim h fun e3 => e e3.symm, e2⟩)
    refine ⟨h3, fun i hi => ?_⟩
    rcases h4 i hi with ⟨h, e⟩ | ⟨h, e⟩
    · left
      refine ⟨?_, e⟩
      rcases h with (h | h) | h
      · exact .inl h
      · exact .inr (by rw [h]; exact List.mem_cons_self)
      · exact .inr (List.mem_cons_of_mem _ h)
    · right
      refine ⟨fun h' => h ?_, e⟩
      rcases h' with h' | h'
      · exact .inl (.inl h')
      · rcases List.mem_cons.1 h' with h' | h'
        · exact .inl (.inr h')
        · exact .inr h'
theorem onL_len (n : Nat) (L : List Nat) : (onL n L).length = n := (onL_spec n L).1
theorem onL_get {n : Nat} {L : List Nat} {i : Nat} (hi : i < n) : (onL n L).getD i 0 = if i ∈ L then 1 else 0 := (onL_spec n L).2 i hi
theorem onL_zero (n : Nat) : onL n [] = List.replicate n 0 := rfl

/-- What an ID is mixed to. -/
def mixI (id : Int) : Int := IntKind.u32.wrap (id % 4294967296 * 2654435761)
theorem mixI_bd (id : Int) : 0 ≤ mixI id ∧ mixI id < 4294967296 := by unfold mixI; rw [IntKind.wrap_u32]; omega
def ltS (s id : Int) : Int := bits .xor .u32 s (mixI id)
theorem ltS_nat {s id : Int} (h0 : 0 ≤ s) (h1 : s < 4294967296) : ltS s id = ((s.toNat ^^^ (mixI id).toNat : Nat) : Int) := by
  have hm := mixI_bd id
  unfold ltS
  have := u32_xor_nat s.toNat (mixI id).toNat (by omega) (by omega)
  rwa [Int.toNat_of_nonneg h0, Int.toNat_of_nonneg hm.1] at this
theorem ltS_bd {s : Int} (id : Int) (h0 : 0 ≤ s) (h1 : s < 4294967296) : 0 ≤ ltS s id ∧ ltS s id < 4294967296 := by
  have hm := mixI_bd id
  rw [ltS_nat h0 h1]
  have := Nat.xor_lt_two_pow (n := 32) (x := s.toNat) (y := (mixI id).toNat) (by omega) (by omega)
  omega
/-- What both turn. -/
theorem ltS_turn {s id other : Int} (h0 : 0 ≤ s) (h1 : s < 4294967296) : ltS (bits .xor .u32 (ltS s id) (mixI other)) other = ltS s id := by
  have h2 := ltS_bd id h0 h1
  have h3 := ltS_bd (s := ltS s id) other h2.1 h2.2
  show ltS (ltS (ltS s id) other) other = ltS s id
  rw [ltS_nat h3.1 h3.2, ltS_nat h2.1 h2.2, Int.toNat_natCast, Nat.xor_assoc, Nat.xor_self, Nat.xor_zero, Int.toNat_of_nonneg h2.1]

/-- What lt.Cols answers. -/
def colL (K H S s id : Int) : List Nat := if okP K H S ∧ 0 ≤ id ∧ id ≤ 65535 then ltL (K + H) (nxt (ltS s id)) else []
/-- What lt.Row answers. -/
def rowL (K H S s id : Int) : List Nat := if okP K H S ∧ 0 ≤ id ∧ id ≤ 65535 then onL (K + H).toNat (ltL (K + H) (nxt (ltS s id))) else []
theorem colL_len (K H S s id : Int) : (colL K H S s id).length ≤ 64 := by
  unfold colL; split
  · exact ltL_len _ _
  · simp
theorem rowL_len (K H S s id : Int) : (rowL K H S s id).length ≤ 64 := by
  unfold rowL; split
  · rename_i h
    have := of_decide_eq_true h.1
    rw [onL_len]; omega
  · simp
/-- How many of L are below k. -/
def cntL (L : List Nat) (k : Nat) : Nat := (L.filter fun x => decide (x < k)).length
theorem cnt_step {L : List Nat} (h : L.Pairwise (· < ·)) (k : Nat) : cntL L (k + 1) = cntL L k + if k ∈ L then 1 else 0 := by
  unfold cntL
  induction L with
  | nil => simp
  | cons y L ih =>
    have h1 := (List.pairwise_cons.1 h).1
    have ih := ih (List.pairwise_cons.1 h).2
    rw [List.filter_cons, List.filter_cons]
    by_cases hy : y < k
    · rw [if_pos (decide_eq_true (by omega)), if_pos (decide_eq_true hy), List.length_cons, List.length_cons, ih]
      have : (k ∈ y :: L) ↔ k ∈ L := by simp; omega
      simp only [this]
      omega
    · by_cases hk : y = k
      · subst hk
        have hn : y ∉ L := fun hm => by have := h1 y hm; omega
        rw [if_neg hn] at ih
        rw [if_pos (decide_eq_true (by omega)), if_neg (by simp), List.length_cons, ih, if_pos List.mem_cons_self]
      · have : (k ∈ y :: L) ↔ k ∈ L := by simp; omega
        rw [if_neg (by simp; omega), if_neg (by simp; omega), ih]
        simp only [this]
theorem cnt_zero (L : List Nat) : cntL L 0 = 0 := by unfold cntL; simp
theorem cnt_all {L : List Nat} {n : Nat} (h : ∀ x ∈ L, x < n) : cntL L n = L.length := by
  unfold cntL
  rw [List.filter_eq_self.2 fun x hx => decide_eq_true (h x hx)]
theorem cnt_le (L : List Nat) (k : Nat) : cntL L k ≤ L.length := List.length_filter_le _ _
end Go.Proofs.Ytiaoegdpofpneaa
