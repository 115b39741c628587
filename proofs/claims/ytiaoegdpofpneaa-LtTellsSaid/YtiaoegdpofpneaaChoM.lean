/- Plain: what is chosen (law07): a shuffle's first k numbers, sorted. -/
import Derived.Test.YtiaoegdpofpneaaDraw
namespace Go.Proofs.Ytiaoegdpofpneaa
open Go.RowKit
set_option linter.unusedVariables false

def swapL (l : List Nat) (i j : Nat) : List Nat := (l.set i (l.getD j 0)).set j (l.getD i 0)
theorem swapL_len (l : List Nat) (i j : Nat) : (swapL l i j).length = l.length := by simp [swapL]
theorem getD_at {l : List Nat} {i : Nat} (h : i < l.length) : l.getD i 0 = l[i] := by rw [List.getD_eq_getElem?_getD, List.getElem?_eq_getElem h]; rfl
theorem swapL_perm {l : List Nat} {i j : Nat} (hi : i < l.length) (hj : j < l.length) : (swapL l i j).Perm l := by
  unfold swapL
  rw [getD_at hi, getD_at hj]
  exact List.set_set_perm hi hj
theorem swapL_take {l : List Nat} {i j k : Nat} (hi : k ≤ i) (hj : k ≤ j) : (swapL l i j).take k = l.take k := by
  unfold swapL
  rw [List.take_set_of_le hj, List.take_set_of_le hi]

/-- What is drawn: of a nil Draw 0. -/
def bN (nl : Bool) (s n : Int) : Nat := if nl then 0 else (bval s n).toNat
def sN (nl : Bool) (s n : Int) : Int := if nl then s else bst s n
theorem bN_lt {nl : Bool} {s n : Int} (h : 0 < n) : (bN nl s n : Int) < n := by
  unfold bN
  split
  · simpa using h
  · have h1 := (bval_bd s n).1
    have h2 := Int.emod_lt_of_pos (outOf s) h
    rw [bval_pos h] at h1 ⊢
    omega
def shufS (nl : Bool) (n : Nat) (s : Int) : Nat → Int | 0 => s | k + 1 => sN nl (shufS nl n s k) ((n : Int) - (k : Int))
def shufL (nl : Bool) (n : Nat) (s : Int) : Nat → List Nat | 0 => List.range n | k + 1 => swapL (shufL nl n s k) k (k + bN nl (shufS nl n s k) ((n : Int) - (k : Int)))
theorem shufL_len (nl : Bool) (n : Nat) (s : Int) (k : Nat) : (shufL nl n s k).length = n := by
  induction k with
  | zero => exact List.length_range
  | succ k ih => rw [shufL, swapL_len, ih]
theorem shuf_j {nl : Bool} {n : Nat} {s : Int} {k : Nat} (h : k < n) : k + bN nl (shufS nl n s k) ((n : Int) - (k : Int)) < n := by
  have := bN_lt (nl := nl) (s := shufS nl n s k) (n := (n : Int) - (k : Int)) (by omega)
  omega
theorem shufL_perm {nl : Bool} {n : Nat} {s : Int} {k : Nat} (h : k ≤ n) : (shufL nl n s k).Perm (List.range n) := by
  induction k with
  | zero => exact List.Perm.refl _
  | succ k ih => exact (swapL_perm (by rw [shufL_len]; omega) (by rw [shufL_len]; exact shuf_j (by omega))).trans (ih (by omega))
theorem shufL_keep (nl : Bool) (n : Nat) (s : Int) (k : Nat) : (shufL nl n s (k + 1)).take k = (shufL nl n s k).take k := swapL_take (Nat.le_refl _) (by omega)

def leB (x y : Nat) : Bool := decide (x ≤ y)
def Srt (l : List Nat) : Prop := l.Pairwise (· ≤ ·)
def chosen (nl : Bool) (n : Nat) (s : Int) (k : Nat) : List Nat := ((shufL nl n s k).take k).mergeSort leB
theorem sort_perm (l : List Nat) : (l.mergeSort leB).Perm l := List.mergeSort_perm l leB
theorem sort_srt (l : List Nat) : Srt (l.mergeSort leB) := by
  have h := List.pairwise_mergeSort (le := leB) (by intro a b c h1 h2; simp only [leB, decide_eq_true_eq] at *; omega) (by intro a b; simp only [leB, Bool.or_eq_true, decide_eq_true_eq]; omega) l
  exact h.imp fun h => by simpa [leB] using h
theorem srt_eq {l m : List Nat} (h : l.Perm m) (h1 : Srt l) (h2 : Srt m) : l = m := h.eq_of_pairwise (fun a b _ _ h3 h4 => Nat.le_antisymm h3 h4) h1 h2
theorem srt_sort {l m : List Nat} (h : l.Perm m) (h1 : Srt l) : l = m.mergeSort leB := srt_eq (h.trans (sort_perm m).symm) h1 (sort_srt m)
theorem chosen_len {nl : Bool} {n : Nat} {s : Int} {k : Nat} (h : k ≤ n) : (chosen nl n s k).length = k := by
  rw [chosen, (sort_perm _).length_eq, List.length_take, shufL_len]; omega
theorem take_nodup {nl : Bool} {n : Nat} {s : Int} {k : Nat} (h : k ≤ n) (j : Nat) : ((shufL nl n s k).take j).Nodup := ((shufL_perm h).nodup_iff.2 List.nodup_range).sublist (List.take_sublist _ _)
theorem chosen_lt {nl : Bool} {n : Nat} {s : Int} {k : Nat} (h : k ≤ n) : ∀ x ∈ chosen nl n s k, x < n := by
  intro x hx
  have h1 := (sort_perm _).mem_iff.1 hx
  exact List.mem_range.1 ((shufL_perm h).mem_iff.1 (List.mem_of_mem_take h1))
theorem chosen_rise {nl : Bool} {n : Nat} {s : Int} {k : Nat} (h : k ≤ n) : (chosen nl n s k).Pairwise (· < ·) := by
  have h1 : (chosen nl n s k).Nodup := (sort_perm _).nodup_iff.2 (take_nodup h k)
  exact (List.Pairwise.and (sort_srt _) h1).imp fun ⟨a, b⟩ => Nat.lt_of_le_of_ne a b
theorem chosen_all {nl : Bool} {n : Nat} {s : Int} : chosen nl n s n = List.range n := by
  unfold chosen
  rw [List.take_of_length_le (by rw [shufL_len]; exact Nat.le_refl _)]
  exact (srt_sort (shufL_perm (Nat.le_refl _)).symm (List.pairwise_lt_range.imp Nat.le_of_lt)).symm
theorem chosen_more {nl : Bool} {n : Nat} {s : Int} {k : Nat} {x : Nat} (hx : x ∈ chosen nl n s k) : x ∈ chosen nl n s (k + 1) := by
  have h1 := (sort_perm _).mem_iff.1 hx
  rw [← shufL_keep] at h1
  refine (sort_perm _).mem_iff.2 ?_
  rw [show List.take k (shufL nl n s (k + 1)) = ((shufL nl n s (k + 1)).take (k + 1)).take k by rw [List.take_take, Nat.min_eq_left (Nat.le_succ k)]] at h1
  exact List.mem_of_mem_take h1

/-- The insertion's inner loop: x, on its way down, stands at j: what is ahead of it and what is behind it are sorted, what is behind it is greater. -/
def Ins (L : List Nat) (i j : Nat) (P : List Nat) : Prop := ∃ (A B R : List Nat) (x : Nat), P = A ++ x :: (B ++ R) ∧ A.length = j ∧ j + B.length = i ∧ Srt (A ++ B) ∧ (∀ b ∈ B, x < b) ∧ P.Perm L
theorem Ins.start {L P : List Nat} {i : Nat} (h : i < P.length) (hs : Srt (P.take i)) (hp : P.Perm L) : Ins L i i P :=
  ⟨P.take i, [], P.drop (i + 1), P[i], by rw [List.nil_append, List.getElem_cons_drop, List.take_append_drop], by rw [List.length_take]; omega, rfl, by simpa using hs, by simp, hp⟩
theorem Ins.down {L P : List Nat} {i j : Nat} (h : Ins L i (j + 1) P) (hlt : P.getD (j + 1) 0 < P.getD j 0) : Ins L i j (swapL P (j + 1) j) := by
  obtain ⟨A, B, R, x, rfl, hA, hB, hs, hb, hp⟩ := h
  obtain ⟨A', a, rfl⟩ : ∃ A' a, A = A' ++ [a] := by
    rcases List.eq_nil_or_concat A with h | ⟨A', a, h⟩
    · rw [h] at hA; simp at hA
    · exact ⟨A', a, by rw [h, List.concat_eq_append]⟩
  have hA' : A'.length = j := by simpa using hA
  have g1 : (A' ++ [a] ++ x :: (B ++ R)).getD (j + 1) 0 = x := by
    rw [List.getD_eq_getElem?_getD, List.getElem?_append_right (by simp; omega)]; simp [hA']
  have g0 : (A' ++ [a] ++ x :: (B ++ R)).getD j 0 = a := by
    rw [List.getD_eq_getElem?_getD, List.append_assoc, List.getElem?_append_right (by omega)]; simp [hA']
  rw [g1, g0] at hlt
  have e : swapL (A' ++ [a] ++ x :: (B ++ R)) (j + 1) j = A' ++ x :: (a :: B ++ R) := by
    unfold swapL
    rw [g1, g0, List.set_append_right _ _ (by simp; omega)]
    have : j + 1 - (A' ++ [a]).length = 0 := by simp; omega
    rw [this, List.set_cons_zero, List.append_assoc, List.set_append_right _ _ (by omega), hA', Nat.sub_self]
    rfl
  have hlen : (A' ++ [a] ++ x :: (B ++ R)).length = j + 1 + 1 + (B ++ R).length := by simp; omega
  refine ⟨A', a :: B, R, x, e, hA', by simp; omega, by simpa using hs, ?_, (swapL_perm (by omega) (by omega)).trans hp⟩
  intro b hb'
  rcases List.mem_cons.1 hb' with rfl | h
  · exact hlt
  · exact hb b h
theorem Ins.stop {L P : List Nat} {i j : Nat} (h : Ins L i j P) (hge : j = 0 ∨ P.getD (j - 1) 0 ≤ P.getD j 0) : Srt (P.take (i + 1)) ∧ P.Perm L := by
  obtain ⟨A, B, R, x, rfl, hA, hB, hs, hb, hp⟩ := h
  refine ⟨?_, hp⟩
  have e : (A ++ x :: (B ++ R)).take (i + 1) = A ++ x :: B := by
    have : A ++ x :: (B ++ R) = (A ++ x :: B) ++ R := by simp
    rw [this, List.take_left' (by simp; omega)]
  rw [e]
  have hs' := List.pairwise_append.1 hs
  refine List.pairwise_append.2 ⟨hs'.1, List.pairwise_cons.2 ⟨fun b h => Nat.le_of_lt (hb b h), hs'.2.1⟩, fun a ha b hbm => ?_⟩
  have hax : a ≤ x := by
    rcases hge with h0 | hge
    · have : A = [] := List.eq_nil_of_length_eq_zero (by omega)
      rw [this] at ha; cases ha
    · rcases List.eq_nil_or_concat A with h | ⟨A', a', h⟩
      · rw [h] at ha; cases ha
      · rw [List.concat_eq_append] at h
        subst h
        have hj : A'.length + 1 = j := by simpa using hA
        have g1 : (A' ++ [a'] ++ x :: (B ++ R)).getD j 0 = x := by
          rw [List.getD_eq_getElem?_getD, List.getElem?_append_right (by simp; omega)]; simp [← hj]
        have g0 : (A' ++ [a'] ++ x :: (B ++ R)).getD (j - 1) 0 = a' := by
          rw [List.getD_eq_getElem?_getD, List.append_assoc, List.getElem?_append_right (by omega)]; simp [← hj]
        rw [g1, g0] at hge
        have h2 := List.pairwise_append.1 hs'.1
        rcases List.mem_append.1 ha with h3 | h3
        · exact Nat.le_trans (h2.2.2 a h3 a' (List.mem_singleton.2 rfl)) hge
        · rw [List.mem_singleton.1 h3]; exact hge
  rcases List.mem_cons.1 hbm with rfl | h
  · exact hax
  · exact Nat.le_trans hax (Nat.le_of_lt (hb b h))
end Go.Proofs.Ytiaoegdpofpneaa
