/- Contracts: Lead, Unit of the package row, Lead of the document, Cut and Copy of wellspringkeep. -/
import Derived.Test.YtfbhbjhfebkpfaaRowB
import Derived.Maps.AppendAt
namespace Go.Proofs.Ytfbhbjhfebkpfaa
open Go.RowKit
set_option linter.unusedVariables false

theorem leadI_at {l : List Nat} {k : Nat} (h0 : ∀ i, i < k → l.getD i 0 = 0) (hk : l.getD k 0 ≠ 0) : leadI l = (k : Int) := by
  obtain ⟨h1, h2⟩ := leadN_spec hk h0
  unfold leadI
  rw [h1, if_pos h2]
theorem leadI_none {l : List Nat} (h0 : ∀ i, i < l.length → l.getD i 0 = 0) : leadI l = -1 := by
  unfold leadI
  split
  · rename_i h
    exact absurd (h0 _ h) (leadN_at h).1
  · rfl

set_option maxRecDepth 100000 in
set_option maxHeartbeats 2000000 in
theorem ref_lead (xs : List Nat) (B : Nat) (a : Option Addr) (n d : Nat) (w : World) (hx : Rd w B a n (cellsB xs)) (hbx : By xs) (hn : n ≤ maxLen) :
    Calls Try.prog 57 #[.slice a n d] w fun e w' => e = .returned (.int .i64 (leadI xs)) ∧ ∃ j, w' = w.drewN j := by
  unfold maxLen at hn
  have HLX : Hid (xs.length = n) := Lib.hid (by have := hx.len; rwa [cellsB_len] at this)
  have HX := Lib.hid hx
  have HBX := Lib.hid hbx
  clear hx hbx
  go_enter Try.func57, Try.ntmps57
  go_wp2_with fail
  go_loopw [3, 6] (fun _ i wr => ∃ k : Nat, k ≤ n ∧ i = .int .i64 k ∧ Hid (∀ i, i < k → xs.getD i 0 = 0) ∧ Hid (∃ j, wr = w.drewN j)) (fun _ i _ => n - (intOf i).toNat)
  case atStart => exact ⟨0, by omega, rfl, Lib.hid fun i h => absurd h (by omega), Lib.hid ⟨0, rfl⟩⟩
  case round =>
    obtain ⟨k, hk, rfl, H0, HJ⟩ := hrel
    obtain ⟨j, hj⟩ := HJ.out
    clear HJ
    by_cases hlt : k < n
    · obtain ⟨bx, ox, rfl, _, hcx⟩ := HX.out.atB hlt
      have cx : wr.cell? ⟨bx, ox + k, none⟩ = some (.int .u8 (xs.getD k 0 : Nat)) := by rw [hj]; exact hcx k hlt
      have HG : Hid (xs.getD k 0 = xs.getD k 0) := Lib.hid rfl
      clear hcx
      generalize hg : xs.getD k 0 = x at HG cx
      have HGX := Lib.hid hg
      have hlt' : (k : Int) < (n : Int) := by omega
      have HJ := Lib.hid hj
      clear hj hg HG
      by_cases hx0 : x = 0
      · subst hx0
        go_wp2_with fail
        go_roundw
        case rel => exact ⟨k + 1, by omega, by go_num, Lib.hid fun i h => by rcases Nat.lt_or_ge i k with h1 | h1; exact H0.out i h1; rw [show i = k by omega]; exact HGX.out, Lib.hid ⟨j, HJ.out⟩⟩
        case measure => simp [intOf]; omega
      · have hne : ((x : Int) != 0) = true := by simp; omega
        have hl := leadI_at H0.out (by rw [HGX.out]; exact hx0)
        have HLD := Lib.hid hl
        clear hl
        go_wp2_with fail
        go_ret
        exact ⟨by rw [HLD.out]; rfl, j, HJ.out⟩
    · obtain rfl : k = n := by omega
      have hl := leadI_none (l := xs) fun i h => H0.out i (by rw [← HLX.out]; exact h)
      have HLD := Lib.hid hl
      clear hl
      go_wp2_with fail
      go_ret
      exact ⟨by rw [HLD.out]; rfl, j, rfl⟩

set_option maxRecDepth 100000 in
set_option maxHeartbeats 2000000 in
theorem lead_fn (x : Nat) (w : World) (hx : x < 256) :
    Calls Try.prog 86 #[.int .u8 x] w fun e w' => e = .returned (.bool (decide (x ≠ 0))) ∧ w = w' := by
  go_enter Try.func86, Try.ntmps86
  go_wp2_with fail
  go_ret
  exact ⟨by congr 2; by_cases h : x = 0 <;> simp [h], rfl⟩

set_option maxRecDepth 100000 in
set_option maxHeartbeats 2000000 in
theorem index_lead (xs : List Nat) (B : Nat) (a : Option Addr) (n d : Nat) (w : World) (hx : Rd w B a n (cellsB xs)) (hbx : By xs) (hn : n ≤ maxLen) :
    Calls Try.prog 85 #[.slice a n d, .func (.func 86) #[] #[]] w fun e w' => e = .returned (.int .i64 (leadI xs)) ∧ ∃ j, w' = w.drewN j := by
  unfold maxLen at hn
  have HLX : Hid (xs.length = n) := Lib.hid (by have := hx.len; rwa [cellsB_len] at this)
  have HX := Lib.hid hx
  have HBX := Lib.hid hbx
  clear hx hbx
  go_enter Try.func85, Try.ntmps85
  go_wp2_with fail
  go_loopw [5, 8] (fun _ i wr => ∃ k : Nat, k ≤ n ∧ i = .int .i64 k ∧ Hid (∀ i, i < k → xs.getD i 0 = 0) ∧ Hid (∃ j, wr = w.drewN j)) (fun _ i _ => n - (intOf i).toNat)
  case atStart => exact ⟨0, by omega, rfl, Lib.hid fun i h => absurd h (by omega), Lib.hid ⟨0, rfl⟩⟩
  case round =>
    obtain ⟨k, hk, rfl, H0, HJ⟩ := hrel
    obtain ⟨j, hj⟩ := HJ.out
    clear HJ
    by_cases hlt : k < n
    · obtain ⟨bx, ox, rfl, _, hcx⟩ := HX.out.atB hlt
      have cx : wr.cell? ⟨bx, ox + k, none⟩ = some (.int .u8 (xs.getD k 0 : Nat)) := by rw [hj]; exact hcx k hlt
      have hx1 := getD_lt HBX.out k
      clear hcx
      generalize hg : xs.getD k 0 = x at cx hx1
      have HGX := Lib.hid hg
      have CL := Lib.hid fun w => lead_fn x w hx1
      have hlt' : (k : Int) < (n : Int) := by omega
      have HJ := Lib.hid hj
      clear hj hg
      by_cases hx0 : x = 0
      · subst hx0
        go_wp2_with fail
        refine (CL.out _).mono ?_
        rintro e w2 ⟨rfl, rfl⟩
        go_wp2_with fail
        go_roundw
        case rel => exact ⟨k + 1, by omega, by go_num, Lib.hid fun i h => by rcases Nat.lt_or_ge i k with h1 | h1; exact H0.out i h1; rw [show i = k by omega]; exact HGX.out, Lib.hid ⟨j, HJ.out⟩⟩
        case measure => simp [intOf]; omega
      · have hd : decide (x ≠ 0) = true := decide_eq_true hx0
        have hl := leadI_at H0.out (by rw [HGX.out]; exact hx0)
        have HLD := Lib.hid hl
        rw [hd] at CL
        clear hl hd
        go_wp2_with fail
        refine (CL.out _).mono ?_
        rintro e w2 ⟨rfl, rfl⟩
        go_wp2_with fail
        go_ret
        exact ⟨by rw [HLD.out]; rfl, j, HJ.out⟩
    · obtain rfl : k = n := by omega
      have hl := leadI_none (l := xs) fun i h => H0.out i (by rw [← HLX.out]; exact h)
      have HLD := Lib.hid hl
      clear hl
      go_wp2_with fail
      go_ret
      exact ⟨by rw [HLD.out]; rfl, j, rfl⟩

set_option maxRecDepth 100000 in
set_option maxHeartbeats 2000000 in
theorem row_lead (xs : List Nat) (B : Nat) (a : Option Addr) (n d : Nat) (w : World) (hx : Rd w B a n (cellsB xs)) (hbx : By xs) (hn : n ≤ maxLen) :
    Calls Try.prog 56 #[.slice a n d] w fun e w' => e = .returned (.int .i64 (leadI xs)) ∧ ∃ j, w' = w.drewN j := by
  have CI := Lib.hid (index_lead xs B a n d w hx hbx hn)
  clear hx hbx hn
  go_enter Try.func56, Try.ntmps56
  go_wp2_with fail
  refine CI.out.mono ?_
  rintro e w2 ⟨rfl, j, rfl⟩
  go_wp2_with fail
  go_ret
  exact ⟨rfl, j, rfl⟩

/-- One 1. -/
def eRow (n k : Nat) : List Nat := (List.replicate n 0).set k 1
theorem eRow_len (n k : Nat) : (eRow n k).length = n := by simp [eRow]
theorem eRow_by (n k : Nat) : By (eRow n k) := by
  intro x hx
  rcases List.mem_or_eq_of_mem_set hx with h | h
  · exact By.zeros n x h
  · subst h; decide
theorem eRow_get (n k i : Nat) : (eRow n k).getD i 0 = if i = k ∧ k < n then 1 else 0 := by
  unfold eRow
  rw [List.getD_eq_getElem?_getD, List.getElem?_set, List.length_replicate]
  by_cases h : k = i
  · subst h
    rw [if_pos rfl]
    by_cases h2 : k < n
    · rw [if_pos h2, if_pos ⟨rfl, h2⟩]; rfl
    · rw [if_neg h2, if_neg (fun h => h2 h.2)]; rfl
  · rw [if_neg h, if_neg (fun h2 => h h2.1.symm), List.getElem?_replicate]
    split <;> rfl

set_option maxRecDepth 100000 in
set_option maxHeartbeats 2000000 in
theorem row_unit_un (n at_ : Int) (w : World) (hno : ¬ (1 ≤ n ∧ n ≤ 64 ∧ 0 ≤ at_ ∧ at_ < n)) :
    Calls Try.prog 61 #[.int .i64 n, .int .i64 at_] w fun e w' => e = .returned (.slice none 0 0) ∧ w = w' := by
  go_enter Try.func61, Try.ntmps61
  go_wp2_with fail
  all_goals first | omega | (go_ret; exact ⟨rfl, rfl⟩) | skip

set_option maxRecDepth 100000 in
set_option maxHeartbeats 2000000 in
theorem row_unit (n k : Nat) (w : World) (hn : n ≤ 64) (hk : k < n) :
    Calls Try.prog 61 #[.int .i64 n, .int .i64 k] w fun e w' => ∃ v, e = .returned v ∧ OwnB w' w.heap.size v (eRow n k) ∧ Below w.heap.size w w' := by
  have hmk := make_bytes (n := n) (by omega)
  have h1 : ¬ (n : Int) < 1 := by omega
  have h2 : ¬ (n : Int) > 64 := by omega
  have h3 : ¬ (k : Int) < 0 := by omega
  have h4 : (k : Int) < (n : Int) := by omega
  have hget : (rowB (List.replicate n 0))[k]? = some (.int .u8 0) := by
    rw [rowB_get (by rw [List.length_replicate]; exact hk), List.getD_eq_getElem?_getD, List.getElem?_replicate, if_pos hk]; rfl
  go_enter Try.func61, Try.ntmps61
  go_wp2_with (simp only [hmk])
  go_ret
  have he : (rowB (List.replicate n 0)).setIfInBounds k (.int .u8 1) = rowB (eRow n k) := rowB_set _ _ 1
  have HO := own_of_blk (l := eRow n k) (Blk.new w 5 (rowB (eRow n k))) (Nat.le_refl _) (by rw [eRow_len]; omega)
  rw [eRow_len] at HO
  rw [he]
  exact ⟨_, rfl, HO, (Below.refl _ _).alloc (Nat.le_refl _) _⟩

set_option maxRecDepth 100000 in
set_option maxHeartbeats 2000000 in
theorem keep_cut (a : Option Addr) (n c m : Nat) (w : World) (hc : n ≤ c) (hx : c ≤ maxLen) (hm : m ≤ maxLen) (hnil : a = none → c = 0) :
    Calls Try.prog 46 #[.slice a n c, .int .i64 m] w fun e w' => e = .returned (.slice a (Nat.min n m) c) ∧ w = w' := by
  unfold maxLen at hx hm
  go_enter Try.func46, Try.ntmps46
  go_wp2_with fail
  · have : Nat.min n m = m := Nat.min_eq_right (by omega)
    go_ret
    exact ⟨by rw [this]; rfl, rfl⟩
  · have : Nat.min n m = n := Nat.min_eq_left (by omega)
    go_ret
    exact ⟨by rw [this]; rfl, rfl⟩
end Go.Proofs.Ytfbhbjhfebkpfaa
