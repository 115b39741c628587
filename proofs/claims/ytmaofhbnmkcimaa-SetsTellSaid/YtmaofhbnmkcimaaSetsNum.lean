/- How many sets there are, plainly. -/
import Derived.Test.YtmaofhbnmkcimaaSetsMath
namespace Go.Proofs.Ytmaofhbnmkcimaa

/-- Sets of k of n things. -/
def ch : Nat → Nat → Nat
  | _, 0 => 1
  | 0, _ + 1 => 0
  | n + 1, k + 1 => ch n k + ch n (k + 1)
theorem ch_big : ∀ (n k : Nat), n < k → ch n k = 0 := by
  intro n
  induction n with
  | zero => intro k h; cases k with
    | zero => omega
    | succ k => rfl
  | succ n ih => intro k h; cases k with
    | zero => omega
    | succ k => rw [ch, ih k (by omega), ih (k + 1) (by omega)]
theorem ch_zero (n : Nat) : ch n 0 = 1 := by cases n <;> rfl
theorem ch_self (n : Nat) : ch n n = 1 := by
  induction n with
  | zero => rfl
  | succ n ih => rw [ch, ih, ch_big n (n + 1) (by omega)]

theorem fromL_count (n : Nat) : ∀ (t a : Nat), a ≤ n → (fromL n t a).length = ch (n - a) t := by
  intro t
  induction t with
  | zero => intro a _; rw [ch_zero]; rfl
  | succ t ih =>
    have key : ∀ (m a : Nat), a + m + t = n → ((List.range' a m).flatMap fun i => (fromL n t (i + 1)).map (i :: ·)).length = ch (n - a) (t + 1) := by
      intro m
      induction m with
      | zero => intro a h; rw [ch_big _ _ (by omega)]; rfl
      | succ m ihm =>
        intro a h
        rw [List.range'_succ, List.flatMap_cons, List.length_append, List.length_map, ih (a + 1) (by omega), ihm (a + 1) (by omega)]
        obtain ⟨q, hq⟩ : ∃ q, n - a = q + 1 := ⟨n - a - 1, by omega⟩
        rw [show n - (a + 1) = q by omega, hq, ch]
    intro a h
    rw [fromL]
    rcases Nat.lt_or_ge n (a + t) with h1 | h1
    · rw [show n - t - a = 0 by omega, ch_big _ _ (by omega)]; rfl
    · exact key _ a (by omega)

/-- A row of the triangle out of the one ahead. -/
def pasS : List Nat → Nat → List Nat
  | [], p => [p]
  | x :: r, p => (p + x) :: pasS r x
def pas : Nat → List Nat
  | 0 => [1]
  | n + 1 => pasS (pas n) 0
theorem pasS_get : ∀ (l : List Nat) (p k : Nat), (pasS l p).getD k 0 = (p :: l).getD k 0 + l.getD k 0 := by
  intro l
  induction l with
  | nil => intro p k; cases k <;> simp [pasS]
  | cons x r ih =>
    intro p k
    cases k with
    | zero => simp [pasS]
    | succ k => rw [pasS, List.getD_cons_succ, ih x k, List.getD_cons_succ, List.getD_cons_succ]
theorem pas_get : ∀ (n k : Nat), (pas n).getD k 0 = ch n k := by
  intro n
  induction n with
  | zero => intro k; cases k <;> simp [pas, ch]
  | succ n ih =>
    intro k
    rw [pas, pasS_get]
    cases k with
    | zero => rw [List.getD_cons_zero, ih, ch_zero, ch_zero]
    | succ k => rw [List.getD_cons_succ, ih, ih, ch]

def tabC : Bool := (List.range 65).all fun n => (pas n).zipIdx.all fun p => cnt n p.2 == min p.1 4097
theorem tabC_ok : tabC = true := by decide +kernel
theorem pas_len (n : Nat) : (pas n).length = n + 1 := by
  have h : ∀ (l : List Nat) (p : Nat), (pasS l p).length = l.length + 1 := by
    intro l
    induction l with
    | nil => intro p; rfl
    | cons x r ih => intro p; simp [pasS, ih]
  induction n with
  | zero => rfl
  | succ n ih => rw [pas, h, ih]
theorem cnt_ch {n t : Nat} (hn : n ≤ 64) (ht : t ≤ n) : cnt n t = min (ch n t) 4097 := by
  have h1 := List.all_eq_true.1 tabC_ok n (List.mem_range.2 (by omega))
  have hlt : t < (pas n).length := by rw [pas_len]; omega
  have h2 : ((pas n)[t], t) ∈ (pas n).zipIdx := by
    rw [List.mem_zipIdx_iff_getElem?]
    exact List.getElem?_eq_getElem hlt
  have h3 := List.all_eq_true.1 h1 _ h2
  have h4 := pas_get n t
  rw [List.getD_eq_getElem?_getD, List.getElem?_eq_getElem hlt] at h4
  simp only [Option.getD_some] at h4
  simp only [beq_iff_eq, h4] at h3
  exact h3
theorem cnt_flip (n t : Nat) (h : t ≤ n) : cnt n (n - t) = cnt n t := by
  unfold cnt
  rw [show n - (n - t) = t by omega, Nat.min_comm]
theorem cntI_in {n t : Int} (h0 : 0 ≤ n) (h1 : n ≤ 64) (h2 : 0 ≤ t) (h3 : t ≤ n) : cntI n t = cnt n.toNat t.toNat := by
  unfold cntI
  rw [show mayB n t = true from decide_eq_true ⟨h0, h1, h2, h3⟩]
  rfl
theorem cntI_out {n t : Int} (h : n < 0 ∨ 64 < n ∨ t < 0 ∨ n < t) : cntI n t = 0 := by
  unfold cntI
  rw [show mayB n t = false from decide_eq_false (by omega)]
  rfl
theorem cnt_le {n t : Nat} (hn : n ≤ 64) (ht : t ≤ n) : cnt n t ≤ 4097 := by rw [cnt_ch hn ht]; omega
theorem sets_len {n t : Nat} (hn : n ≤ 64) (ht : t ≤ n) (hc : cnt n t ≤ 4096) : (fromL n t 0).length = cnt n t := by
  rw [fromL_count n t 0 (Nat.zero_le _), Nat.sub_zero]
  rw [cnt_ch hn ht] at hc ⊢
  omega
theorem ch_step {n t : Nat} (hn : 0 < n) (ht : 0 < t) : ch n t = ch (n - 1) t + ch (n - 1) (t - 1) := by
  obtain ⟨m, rfl⟩ : ∃ m, n = m + 1 := ⟨n - 1, by omega⟩
  obtain ⟨s, rfl⟩ : ∃ s, t = s + 1 := ⟨t - 1, by omega⟩
  rw [ch, Nat.add_sub_cancel, Nat.add_sub_cancel]
  omega
end Go.Proofs.Ytmaofhbnmkcimaa
