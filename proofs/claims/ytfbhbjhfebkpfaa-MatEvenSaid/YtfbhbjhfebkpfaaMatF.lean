/- Contract of mat.Solve. -/
import Derived.Test.YtfbhbjhfebkpfaaMatE
import Derived.Test.YtfbhbjhfebkpfaaSpanM
import Derived.Deep.DeepCutAuto
import Derived.Deep.RegionHeld3
namespace Go.Proofs.Ytfbhbjhfebkpfaa
open Go.RowKit
set_option linter.unusedVariables false

/-- A header is laid anew: its row may have moved. -/
theorem MOwn.reput {w w1 : World} {C g n c : Nat} {M : List (List Nat)} (h : MOwn w C (.slice (some ⟨g, 0, none⟩) n c) M) {i : Nat} (hi : i < n) {u u' : Value} {l : List Nat} (hc : w.cell? ⟨g, i, none⟩ = some u) (hg : w.grownBy w1 u.ownBlock) (ho : OwnB w1 C u' l)
    (hat : u'.ownBlock = u.ownBlock ∨ u'.ownBlock = some w.heap.size) : MOwn (w1.setCell ⟨g, i, none⟩ u') C (.slice (some ⟨g, 0, none⟩) n c) (M.set i l) := by
  have hl := h.len
  obtain ⟨vs, h⟩ := h
  have hv := h.vlen
  have hd := h.hd
  rw [hl] at hd
  have hui : vs[i]? = some u := by rw [← hd.cellAt i (by omega)]; exact hc
  have hne : (Value.slice (some ⟨g, 0, none⟩) n c).ownBlock = none ∨ (Value.slice (some ⟨g, 0, none⟩) n c).ownBlock ≠ u.ownBlock := by
    right
    rcases h.hdrow hui with h1 | h1
    · rw [h1]; simp [Value.ownBlock]
    · exact fun e => h1 e.symm
  have hd1 := hd.kept hg hne
  obtain ⟨d1, g1⟩ := hd1.stored i u'
  have hlt0 : ∀ (k : Nat) u', vs[k]? = some u' → ∀ b, u'.ownBlock = some b → b < w.heap.size := fun k u' hu b hb => ((h.of hu).1.lt b hb).2
  have hrow : ∀ (k : Nat) u, vs[k]? = some u → u.ownBlock = none ∨ u.ownBlock ≠ some g := fun k u hu => by have := h.hdrow hu; simpa [Value.ownBlock] using this
  have hgw : u'.ownBlock = none ∨ u'.ownBlock ≠ some g := by have := own_ne ho hd1 tne_hd; simpa [Value.ownBlock] using this
  have hap : ∀ (k : Nat) u2, k ≠ i → vs[k]? = some u2 → (u'.ownBlock = none ∨ u'.ownBlock ≠ u2.ownBlock) ∧ (u2.ownBlock = none ∨ u2.ownBlock ≠ u'.ownBlock) := fun k u2 hk hu2 => by
    rcases hat with e | e
    · rw [e]; exact ⟨h.apart i k u u2 (fun e => hk e.symm) hui hu2, h.apart k i u2 u hk hu2 hui⟩
    · have h1 : u2.ownBlock ≠ some w.heap.size := fun e2 => by have := hlt0 k u2 hu2 _ e2; omega
      rw [e]
      exact ⟨.inr (fun e2 => h1 e2.symm), .inr h1⟩
  refine ⟨vs.set i u', by rw [List.length_set, hl]; exact d1, fun k l' hk => ?_, fun k k' u1 u2 hne hu1 hu2 => ?_⟩
  · rcases set_get hk with ⟨rfl, rfl, h3⟩ | ⟨h1, h2⟩
    · exact ⟨u', set_same (by omega), ho.kept g1 hgw⟩
    · obtain ⟨u1, h3, h4⟩ := h.row k l' h2
      exact ⟨u1, by rw [set_far h1]; exact h3, (h4.kept hg (h.apart k i u1 u h1 h3 hui)).kept g1 (hrow k u1 h3)⟩
  · rcases set_get hu1 with ⟨rfl, rfl, h3⟩ | ⟨h1, h2⟩
    · rcases set_get hu2 with ⟨rfl, _, _⟩ | ⟨h1, h2⟩
      · exact absurd rfl hne
      · exact (hap k' u2 h1 h2).1
    · rcases set_get hu2 with ⟨rfl, rfl, _⟩ | ⟨h3, h4⟩
      · exact (hap k u1 h1 h2).2
      · exact h.apart k k' u1 u2 hne h2 h4

theorem mixG_set {α : Type} {X Y : List α} (h : X.length = Y.length) {k : Nat} (hk : k < Y.length) {x : α} (hx : X[k]? = some x) : (X.take k ++ Y.drop k).set k x = X.take (k + 1) ++ Y.drop (k + 1) := by
  have hkX : k < X.length := by omega
  rw [List.getElem?_eq_getElem hkX] at hx
  rw [List.set_append_right _ _ (by rw [List.length_take]; omega), List.length_take, Nat.min_eq_left (by omega), Nat.sub_self, List.drop_eq_getElem_cons hk, List.set_cons_zero, List.take_succ_eq_append_getElem hkX, List.append_assoc, List.singleton_append, Option.some.inj hx]
def sideK (A B : List (List Nat)) (r : Nat) : List (List Nat) := (sideM A B).take r ++ A.drop r
theorem sideK_zero (A B : List (List Nat)) : sideK A B 0 = A := rfl
theorem sideK_full {A B : List (List Nat)} (h : A.length = B.length) : sideK A B A.length = sideM A B := by
  unfold sideK
  rw [List.drop_length, List.append_nil, List.take_of_length_le (by rw [sideM_len h]; exact Nat.le_refl _)]
theorem sideK_row {A B : List (List Nat)} (h : A.length = B.length) {r : Nat} (hr : r < A.length) : (sideK A B r).getD r [] = A.getD r [] := by
  unfold sideK
  rw [List.getD_eq_getElem?_getD, List.getElem?_append_right (by rw [List.length_take, sideM_len h]; omega), List.length_take, sideM_len h, Nat.min_eq_left (by omega), Nat.sub_self, List.getElem?_drop, Nat.add_zero, List.getD_eq_getElem?_getD]
theorem sideK_set {A B : List (List Nat)} (h : A.length = B.length) {r : Nat} (hr : r < A.length) : (sideK A B r).set r (A.getD r [] ++ B.getD r []) = sideK A B (r + 1) := by
  unfold sideK
  refine mixG_set (sideM_len h) hr ?_
  rw [← sideM_row h r]
  exact getD_some (by rw [sideM_len h]; exact hr)
theorem sideK_len {A B : List (List Nat)} (h : A.length = B.length) {r : Nat} (hr : r ≤ A.length) : (sideK A B r).length = A.length := by
  unfold sideK
  rw [List.length_append, List.length_take, List.length_drop, sideM_len h]; omega

def clashB (X : List (List Nat)) (r : Nat) : Bool := (X.drop r).any fun x => decide (0 ≤ leadI x)
def solC (n : Nat) (A B : List (List Nat)) : Nat := if (redF (sideM A B) n).2 < n then 9 else if clashB (redF (sideM A B) n).1 (redF (sideM A B) n).2 then 10 else 0
def solR (n : Nat) (A B : List (List Nat)) : List (List Nat) := if solC n A B = 0 then ((redF (sideM A B) n).1.take (redF (sideM A B) n).2).map (List.drop n) else []
theorem clash_yes {X : List (List Nat)} {r t : Nat} (ht : t < (X.drop r).length) (h : 0 ≤ leadI ((X.drop r).getD t [])) : clashB X r = true := by
  unfold clashB
  rw [List.any_eq_true]
  exact ⟨_, getD_memr ht, decide_eq_true h⟩
theorem clash_no {X : List (List Nat)} {r : Nat} (h : ∀ t, t < (X.drop r).length → ¬ 0 ≤ leadI ((X.drop r).getD t [])) : clashB X r = false := by
  unfold clashB
  rw [List.any_eq_false]
  intro x hx
  obtain ⟨i, hi, rfl⟩ := List.getElem_of_mem hx
  have := h i hi
  rw [List.getD_eq_getElem?_getD, List.getElem?_eq_getElem hi] at this
  simpa using this

set_option maxRecDepth 100000 in
set_option maxHeartbeats 4000000 in
theorem mat_Solve_arg (p : Option Addr) (n k m l c d : Nat) (A B : List (List Nat)) (a b : Option Addr) (w : World) (hA : RdM w w.heap.size a m A) (hB : RdM w w.heap.size b l B) (hWA : Wf n A) (hWB : Wf k B) (hn : n ≤ 64) (hk : k ≤ 64) (hm : m ≤ 1000000) (hl : l ≤ 1000000) (hno : m ≠ l ∨ m = 0) :
    Calls Try.prog 68 #[.pointer p, .slice a m c, .slice b l d] w fun e w' => e = .returned (.tuple #[.slice none 0 0, .int .i64 1]) ∧ w = w' := by
  have C1 := Lib.hid (mat_may n m A _ a c w hA hWA hn hm)
  have C2 := Lib.hid (mat_may k l B _ b d w hB hWB hk hl)
  have hcase : (((m : Int) != (l : Int)) = true) ∨ (((m : Int) != (l : Int)) = false ∧ ((m : Int) == 0) = true) := by
    by_cases h : m = l
    · right
      rcases hno with h1 | h1
      · exact absurd h h1
      · exact ⟨by simp [h], by simp [h1]⟩
    · left; simp; omega
  clear hA hB hWA hWB hno
  go_enter Try.func68, Try.ntmps68
  go_wp2_with fail
  refine C1.out.mono ?_
  rintro e w1 ⟨rfl, rfl⟩
  go_wp2_with fail
  refine C2.out.mono ?_
  rintro e w1 ⟨rfl, rfl⟩
  rcases hcase with h1 | ⟨h1, h2⟩
  all_goals (
    go_wp2_with fail
    go_ret2
    exact ⟨rfl, rfl⟩)
end Go.Proofs.Ytfbhbjhfebkpfaa
