/- Lists of lists, read. -/
import Derived.Test.YtmaofhbnmkcimaaSetsC
import Derived.Test.YtmaofhbnmkcimaaSetsNum
namespace Go.Proofs.Ytmaofhbnmkcimaa
open Go.RowKit
set_option linter.unusedVariables false

/-- A list of lists that lies below B reads as L. -/
def RdL (w : World) (B : Nat) (a : Option Addr) (L : List (List Nat)) : Prop :=
  ∃ vs : List Value, Rd w B a L.length vs ∧ ∀ (i : Nat) (l : List Nat), L[i]? = some l → ∃ a' c', vs[i]? = some (Value.slice a' l.length c') ∧ Rd w B a' l.length (cellsI l)
theorem RdL.below {w w' : World} {B C : Nat} {a : Option Addr} {L : List (List Nat)} (h : RdL w B a L) (hb : Below C w w') (hC : B ≤ C) : RdL w' B a L := by
  obtain ⟨vs, h1, h2⟩ := h
  refine ⟨vs, h1.below hb hC, fun i l hl => ?_⟩
  obtain ⟨a', c', e, h3⟩ := h2 i l hl
  exact ⟨a', c', e, h3.below hb hC⟩
theorem RdL.more {w : World} {B C : Nat} {a : Option Addr} {L : List (List Nat)} (h : RdL w B a L) (hC : B ≤ C) : RdL w C a L := by
  obtain ⟨vs, h1, h2⟩ := h
  refine ⟨vs, h1.more hC, fun i l hl => ?_⟩
  obtain ⟨a', c', e, h3⟩ := h2 i l hl
  exact ⟨a', c', e, h3.more hC⟩
theorem rdl_of_out {w : World} {C : Nat} {v : Value} {L : List (List Nat)} (h : OutOk w C v L) : ∃ a c, v = .slice a L.length c ∧ RdL w w.heap.size a L := by
  obtain ⟨vs, h1, h2⟩ := h
  obtain ⟨a, c, rfl, hr⟩ := rd_of_own h1
  refine ⟨a, c, rfl, vs, hr, fun i l hl => ?_⟩
  obtain ⟨u, hu, ho⟩ := h2 i l hl
  obtain ⟨a', c', rfl, h3⟩ := rd_of_own ho
  exact ⟨a', c', hu, h3⟩
/-- One list of the lists: where it lies, and how it reads. -/
theorem RdL.at {w : World} {B : Nat} {a : Option Addr} {L : List (List Nat)} (h : RdL w B a L) {i : Nat} {l : List Nat} (hl : L[i]? = some l) :
    ∃ b o a' c', a = some ⟨b, o, none⟩ ∧ b < B ∧ w.cell? ⟨b, o + i, none⟩ = some (.slice a' l.length c') ∧ Rd w B a' l.length (cellsI l) := by
  obtain ⟨vs, h1, h2⟩ := h
  obtain ⟨a', c', e, h3⟩ := h2 i l hl
  have hi : i < L.length := (List.getElem?_eq_some_iff.1 hl).1
  obtain ⟨b, o, rfl, hb, hc⟩ := h1.2 (by omega)
  exact ⟨b, o, a', c', rfl, hb, hc i _ e, h3⟩
theorem Rd.at {w : World} {B : Nat} {a : Option Addr} {l : List Nat} (h : Rd w B a l.length (cellsI l)) {i : Nat} (hi : i < l.length) :
    ∃ b o, a = some ⟨b, o, none⟩ ∧ b < B ∧ w.cell? ⟨b, o + i, none⟩ = some (.int .i64 (l.getD i 0 : Nat)) := by
  obtain ⟨b, o, rfl, hb, hc⟩ := h.2 (by omega)
  refine ⟨b, o, rfl, hb, hc i _ ?_⟩
  simp [cellsI, List.getD, List.getElem?_eq_getElem hi]
theorem fromL_zero (n : Nat) : fromL n 0 0 = [[]] := rfl
end Go.Proofs.Ytmaofhbnmkcimaa
