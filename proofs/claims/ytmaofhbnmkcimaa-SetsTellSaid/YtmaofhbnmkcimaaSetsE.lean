/- Lists that rise; the sets one after another. -/
import Derived.Test.YtmaofhbnmkcimaaSetsD
import Derived.Deep.QuietTactic
import Derived.BigQuiet
namespace Go.Proofs.Ytmaofhbnmkcimaa
open Go.RowKit
set_option linter.unusedVariables false

theorem cellsI_get {l : List Nat} {i : Nat} (h : i < l.length) : (cellsI l)[i]? = some (.int .i64 (l.getD i 0 : Nat)) := by
  simp [cellsI, List.getD, List.getElem?_eq_getElem h]
/-- It rises. -/
def Up (l : List Nat) : Prop := ∀ i, i + 1 < l.length → l.getD i 0 < l.getD (i + 1) 0
theorem getD_mem {l : List Nat} {i : Nat} (h : i < l.length) : l.getD i 0 ∈ l := by
  rw [List.getD_eq_getElem?_getD, List.getElem?_eq_getElem h]
  exact List.getElem_mem h
theorem fromL_up (n : Nat) : ∀ (t a : Nat) (l : List Nat), l ∈ fromL n t a → Up l := by
  intro t
  induction t with
  | zero => intro a l h; simp [fromL] at h; subst h; intro i hi; simp at hi
  | succ t ih =>
    intro a l h
    simp only [fromL, List.mem_flatMap, List.mem_map] at h
    obtain ⟨x, _, m, hm, rfl⟩ := h
    intro i hi
    cases i with
    | zero =>
      have := fromL_bd n t (x + 1) m hm (m.getD 0 0) (getD_mem (by simpa using hi))
      simpa using (by omega : x < m.getD 0 0)
    | succ i =>
      have := ih (x + 1) m hm i (by simpa using hi)
      simpa using this
theorem nextS_lex (n : Nat) : ∀ (p s : List Nat), nextS n p = some s → ∃ k, k < p.length ∧ (∀ j, j < k → s.getD j 0 = p.getD j 0) ∧ p.getD k 0 < s.getD k 0 := by
  intro p
  induction p with
  | nil => intro s h; simp [nextS] at h
  | cons x l ih =>
    intro s h
    rw [nextS] at h
    cases hn : nextS n l with
    | some m =>
      simp only [hn, Option.some.injEq] at h
      subst h
      obtain ⟨k, hk, h1, h2⟩ := ih m hn
      refine ⟨k + 1, by simpa using hk, fun j hj => ?_, by simpa using h2⟩
      cases j with
      | zero => rfl
      | succ j => simpa using h1 j (by omega)
    | none =>
      simp only [hn] at h
      split at h
      · simp only [Option.some.injEq] at h
        subst h
        exact ⟨0, by simp, fun j hj => by omega, by simp [List.getD]⟩
      · simp at h

set_option maxRecDepth 100000 in
set_option maxHeartbeats 1000000 in
theorem keep_rises (a : Option Addr) (c B : Nat) (l : List Nat) (w : World) (hb : ∀ x ∈ l, x < 4096) (hlen : l.length ≤ 4096) (hu : Up l) (hr : Rd w B a l.length (cellsI l)) :
    Calls Try.prog 26 #[.slice a l.length c] w fun e w' => e = .returned (.bool true) ∧ ∃ j, w' = w.drewN j := by
  obtain ⟨t, ht⟩ : ∃ t, t = l.length := ⟨_, rfl⟩
  rw [← ht] at hlen hr ⊢
  have HT := Lib.hid ht
  have HU := Lib.hid hu
  have HR := Lib.hid hr
  have HBD := Lib.hid hb
  clear ht hu hr hb
  go_enter Try.func26, Try.ntmps26
  go_wp2_with fail
  go_loopw [3] (fun i wr => ∃ k : Nat, k ≤ t + 1 ∧ 1 ≤ k ∧ i = .int .i64 k ∧ Hid (∃ j, wr = w.drewN j)) (fun i _ => t + 1 - (intOf i).toNat)
  case atStart => exact ⟨1, by omega, by omega, rfl, Lib.hid ⟨0, rfl⟩⟩
  case round =>
    obtain ⟨k, hk, hk1, rfl, HJ⟩ := hrel
    obtain ⟨j, rfl⟩ := HJ.out
    by_cases hlt : k < t
    · obtain ⟨q, rfl⟩ : ∃ q, k = q + 1 := ⟨k - 1, by omega⟩
      obtain ⟨b, o, rfl, hbB, hc⟩ := HR.out.2 (by omega)
      have c1 := hc (q + 1) _ (cellsI_get (by have := HT.out; omega))
      have c2 := hc q _ (cellsI_get (by have := HT.out; omega))
      have u := HU.out q (by have := HT.out; omega)
      have d1 := HBD.out _ (getD_mem (l := l) (i := q) (by have := HT.out; omega))
      have d2 := HBD.out _ (getD_mem (l := l) (i := q + 1) (by have := HT.out; omega))
      generalize l.getD q 0 = x at *
      generalize l.getD (q + 1) 0 = y at *
      clear hc
      have i1 : 0 ≤ (q : Int) + 1 := by omega
      have i2 : (q : Int) + 1 < (t : Int) := by omega
      have i3 : (q : Int) < (t : Int) := by omega
      have i4 : ((q : Int) + 1).toNat = q + 1 := by omega
      have hle : ¬ (y : Int) ≤ x := by omega
      have e1 : ((q + 1 : Nat) : Int) - 1 = (q : Int) := by omega
      have e2 : IntKind.i64.wrap (((q + 1 : Nat) : Int) - 1) = (q : Int) := by rw [e1]; simp [IntKind.wrap, IntKind.bits, IntKind.signed]; omega
      go_wp2_with fail
      go_quiet (fail)
      rw [show decide (y ≤ x) = false from decide_eq_false (by omega)]
      go_wp2_with fail
      go_roundw
      case rel => exact ⟨q + 1 + 1, by omega, by omega, by go_num, Lib.hid (by first | exact ⟨_, rfl⟩ | exact ⟨_, World.drewN_drewN _ _ _⟩)⟩
      case measure => simp [intOf]; omega
    · go_wp2_with fail
      go_ret
      exact ⟨rfl, j, rfl⟩
end Go.Proofs.Ytmaofhbnmkcimaa
