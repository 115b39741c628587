/- A slice of slices of bytes that came in, opened as rows; append of a make. -/
import Derived.Test.YtfbhbjhfebkpfaaMat
import Derived.Test.YtfbhbjhfebkpfaaLaw02a
import Derived.Test.YtfbhbjhfebkpfaaApz
import Derived.Deep.Matrix
namespace Go.Proofs.Ytfbhbjhfebkpfaa
open Go.RowKit
set_option linter.unusedVariables false

theorem rows_open {w : World} {base : Nat} (x : Addr) (len cap : Nat) (A : Nat → Option Addr) (L C : Nat → Nat) (Z : Nat → List Int) (hl : len ≤ cap)
    (hrow : ∀ r, r < cap → w.cell? (x.add r) = some (.slice (A r) (L r) (C r)) ∧ L r ≤ C r ∧ C r ≤ maxLen ∧ (Z r).length = C r ∧ (∀ n ∈ Z r, (Lit.int .u8 n).wf = true) ∧ (A r = none → C r = 0) ∧ ∀ a', A r = some a' → base ≤ a'.block ∧ ∀ c, c < C r → w.cell? (a'.add c) = some (.int .u8 ((Z r).getD c 0))) :
    ∃ M : List (List Nat), RdM w w.heap.size (some x) len M ∧ ∀ l ∈ M, By l := by
  have each : ∀ r, ∃ xs : List Nat, r < cap → ((Z r).take (L r)).map (Value.int .u8) = cellsB xs ∧ By xs := fun r => by
    by_cases h : r < cap
    · obtain ⟨xs, h1, h2⟩ := bytes_of (zs := (Z r).take (L r)) fun z hz => (hrow r h).2.2.2.2.1 z (List.mem_of_mem_take hz)
      exact ⟨xs, fun _ => ⟨h1, h2⟩⟩
    · exact ⟨[], fun h2 => absurd h2 h⟩
  obtain ⟨F, hF⟩ := Classical.axiomOfChoice each
  have hlen : ∀ r, r < cap → (F r).length = L r := fun r hr => by
    have h1 := congrArg List.length (hF r hr).1
    rw [cellsB_len, List.length_map, List.length_take] at h1
    have h2 := (hrow r hr).2.1
    have h3 := (hrow r hr).2.2.2.1
    omega
  refine ⟨(List.range len).map F, ⟨by simp, (List.range len).map fun r => .slice (A r) (L r) (C r), ⟨by simp, fun h0 => ?_⟩, fun i l hi => ?_⟩, fun l hl' => ?_⟩
  · have h1 := (hrow 0 (by omega)).1
    obtain ⟨b, o, sp⟩ := x
    have hsp : sp = none := by simpa [Addr.add] using World.cell?_spot h1
    subst hsp
    refine ⟨b, o, rfl, World.block_lt_of_cell? w ⟨b, o, none⟩ (by simpa [Addr.add] using h1), fun i u hu => ?_⟩
    rw [List.getElem?_map] at hu
    rcases Nat.lt_or_ge i len with hi | hi
    · rw [List.getElem?_range hi] at hu
      have h2 := (hrow i (by omega)).1
      rw [Addr.add_lit] at h2
      rw [h2]
      simpa using hu
    · rw [List.getElem?_eq_none (by simpa using hi)] at hu
      simp at hu
  · rw [List.getElem?_map] at hi
    rcases Nat.lt_or_ge i len with hi2 | hi2
    · rw [List.getElem?_range hi2] at hi
      obtain rfl : F i = l := by simpa using hi
      have hic : i < cap := by omega
      obtain ⟨h1, h2, h3, h4, h5, h6, h7⟩ := hrow i hic
      refine ⟨A i, C i, by rw [List.getElem?_map, List.getElem?_range hi2, hlen i hic]; rfl, ?_, h6, by rw [hlen i hic]; exact h2, h3⟩
      rw [hlen i hic, ← (hF i hic).1]
      cases hA : A i with
      | none =>
        have h0 : L i = 0 := by have := h6 hA; omega
        rw [h0, List.take_zero]
        exact rd_nil _ _ _
      | some a' => exact rd_of_ints .u8 a' (L i) (C i) (Z i) h2 h4 fun c hc => (h7 a' hA).2 c (by omega)
    · rw [List.getElem?_eq_none (by simpa using hi2)] at hi
      simp at hi
  · obtain ⟨r, hr, rfl⟩ := List.mem_map.1 hl'
    exact (hF r (by have := List.mem_range.1 hr; omega)).2

/-- 'append(x, make([]byte, k)...)', x nil or the call's own. -/
theorem wp_appZ {w : World} {ops : Array Oper} {rest : List Oper} {o : Oper} {a : Act} {Q : Exit → Act → World → Prop} (hgd : o.guard = none) (s x : Operand) {C : Nat} {v : Value} {xs : List Nat} {k : Nat}
    (ho : o.op = .call { callee := .builtin .append, args := #[s, x], argTypes := #[49, 3] })
    (h : OwnB w C v xs) (hC : C ≤ w.heap.size) (hl : xs.length + k ≤ 1000000) (hs : a.eval s = v) (hx : a.eval x = .int .i64 k)
    (K : ∀ v' w2, OwnB w2 C v' (xs ++ List.replicate k 0) → Below C w w2 → w.grownBy w2 v.ownBlock → (v'.ownBlock = v.ownBlock ∨ v'.ownBlock = some w.heap.size) → wpList Try.prog ops Q rest (a.put o.dst v') w2) :
    wpList Try.prog ops Q (o :: rest) a w := by
  obtain ⟨i0, hi, hz0, hz1, hz2⟩ := info_parts infoS_u8
  obtain ⟨v', w2, hr, hown, hg, hat⟩ := run_append_zeros (P := Try.prog) w C 49 3 o.type 5 i0 (.int .u8 0) (.int .u8 0) .i64 .i64 Try.underlying49 Try.underlying3 hi hz0 hz1 rfl rfl v xs.length (cellsB xs) h k hl (by rw [hz2]; omega) hC
  refine Lib.wpList_append_run _ hgd s x _ _ ho _ _ hs hx v' w2 hr (K v' w2 ?_ ((Below.refl _ _).grown hg hC fun g hg => (h.lt g hg).1) hg hat)
  unfold OwnB
  rw [List.length_append, List.length_replicate]
  have e : cellsB (xs ++ List.replicate k 0) = cellsB xs ++ List.replicate k (.int .u8 0) := by unfold cellsB; rw [List.map_append, List.map_replicate]; rfl
  rw [e]
  exact hown
end Go.Proofs.Ytfbhbjhfebkpfaa
