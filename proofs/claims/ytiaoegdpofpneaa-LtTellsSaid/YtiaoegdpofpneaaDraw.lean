/- Contracts of the package draw (and the reference's Draw): what each call does to memory. -/
import Derived.Test.YtiaoegdpofpneaaKit
namespace Go.Proofs.Ytiaoegdpofpneaa
open Go.RowKit
set_option linter.unusedVariables false

/-- How a Draw goes on. -/
def nxt (s : Int) : Int := IntKind.u64.wrap (IntKind.u64.wrap (s * 6364136223846793005) + 1442695040888963407)
/-- Which bits are told. -/
def outOf (s : Int) : Int := nxt s / 4294967296

theorem nxt_bd (s : Int) : 0 ≤ nxt s ∧ nxt s < 18446744073709551616 := by
  unfold nxt; rw [IntKind.wrap_u64]; omega
theorem outOf_bd (s : Int) : 0 ≤ outOf s ∧ outOf s ≤ 4294967295 := by
  have := nxt_bd s; unfold outOf; omega
theorem outOf_mod (s : Int) : outOf s % 4294967296 = outOf s := by
  have := outOf_bd s; omega
theorem nxt_eq (s : Int) : IntKind.u64.wrap (IntKind.u64.wrap (s * 6364136223846793005) + 1442695040888963407) = nxt s := rfl
theorem out_eq (s : Int) : nxt s / 4294967296 % 4294967296 = outOf s := outOf_mod s

set_option maxHeartbeats 400000 in
theorem draw_new (s : Int) (w : World) (h0 : 0 ≤ s) (h1 : s ≤ 4294967295) :
    Calls Try.prog 19 #[.int .u32 s] w fun e w' => e = .returned (.pointer (some ⟨w.heap.size, 0, none⟩)) ∧ w.alloc (.cells #[.int .u64 s] 74) = w' := by
  go_enter Try.func19, Try.ntmps19
  go_wp2
  go_ret
  exact ⟨rfl, rfl⟩

set_option maxHeartbeats 400000 in
theorem draw_next (s : Int) (p : Addr) (w : World) (hc : w.cell? p = some (.int .u64 s)) (hf : w.frozen? p = false) :
    Calls Try.prog 20 #[.pointer (some p)] w fun e w' => e = .returned (.int .u32 (outOf s)) ∧ w.setCell p (.int .u64 (nxt s)) = w' := by
  go_enter Try.func20, Try.ntmps20
  go_wp2
  go_ret
  exact ⟨congrArg (fun x => Ending.returned (.int .u32 x)) (out_eq s), rfl⟩

set_option maxHeartbeats 400000 in
theorem draw_next_nil (w : World) :
    Calls Try.prog 20 #[.pointer none] w fun e w' => e = .returned (.int .u32 0) ∧ w = w' := by
  go_enter Try.func20, Try.ntmps20
  go_wp2
  go_ret
  exact ⟨rfl, rfl⟩

set_option maxHeartbeats 400000 in
theorem rdraw_next (s : Int) (p : Addr) (w : World) (hc : w.cell? p = some (.int .u64 s)) (hf : w.frozen? p = false) :
    Calls Try.prog 22 #[.pointer (some p)] w fun e w' => e = .returned (.int .u32 (outOf s)) ∧ w.setCell p (.int .u64 (nxt s)) = w' := by
  go_enter Try.func22, Try.ntmps22
  go_wp2
  go_ret
  exact ⟨congrArg (fun x => Ending.returned (.int .u32 x)) (out_eq s), rfl⟩


theorem setCell_self (w : World) (p : Addr) (v : Value) (h : w.cell? p = some v) : w.setCell p v = w := by
  obtain ⟨b, o, sp⟩ := p
  have hsp : sp = none := World.cell?_spot h
  subst hsp
  obtain ⟨heap, tape, drawn, os, output⟩ := w
  simp only [World.setCell, World.mk.injEq, and_true]
  apply Array.ext_getElem?
  intro i
  rw [Array.getElem?_modify]
  split
  · rename_i hi
    subst hi
    simp only [World.cell?] at h
    cases hb : heap[b]? with
    | none => simp
    | some ob =>
      rw [hb] at h
      cases ob with
      | cells c t fr =>
        simp at h
        simp only [Option.map_some, Option.isSome_none]
        congr 2
        apply Array.ext_getElem?
        intro j
        rw [if_neg (by simp), Array.getElem?_setIfInBounds]
        split
        · rename_i hj; subst hj; split
          · exact h.symm
          · rename_i hh; rw [Array.getElem?_eq_none (by omega)] at h; cases h
        · rfl
      | _ => simp
  · rfl

/-- What Below tells, and where the Draw then is. -/
def bval (s n : Int) : Int := if n ≤ 0 then 0 else outOf s % n
def bst (s n : Int) : Int := if n ≤ 0 then s else nxt s
theorem bval_pos {s n : Int} (h : 0 < n) : bval s n = outOf s % n := by unfold bval; rw [if_neg (by omega)]
theorem bval_neg {s n : Int} (h : n ≤ 0) : bval s n = 0 := by unfold bval; rw [if_pos h]
theorem bst_pos {s n : Int} (h : 0 < n) : bst s n = nxt s := by unfold bst; rw [if_neg (by omega)]
theorem bst_neg {s n : Int} (h : n ≤ 0) : bst s n = s := by unfold bst; rw [if_pos h]
theorem bval_bd (s n : Int) : 0 ≤ bval s n ∧ bval s n ≤ 4294967295 := by
  have := outOf_bd s
  unfold bval
  split
  · omega
  · have h1 := Int.emod_nonneg (outOf s) (show n ≠ 0 by omega)
    have h2 := Int.emod_def (outOf s) n
    have h3 := Int.mul_nonneg (show 0 ≤ n by omega) (Int.ediv_nonneg this.1 (show 0 ≤ n by omega))
    omega

set_option maxHeartbeats 400000 in
theorem draw_below (s n : Int) (p : Addr) (w : World) (hc : w.cell? p = some (.int .u64 s)) (hf : w.frozen? p = false) (hn : -9223372036854775808 ≤ n ∧ n ≤ 9223372036854775807) :
    Calls Try.prog 23 #[.pointer (some p), .int .i64 n] w fun e w' => e = .returned (.int .i64 (bval s n)) ∧ w.setCell p (.int .u64 (bst s n)) = w' := by
  have hself := Lib.hid (setCell_self w p _ hc)
  by_cases h0 : n ≤ 0
  · have hv := Lib.hid (bval_neg (s := s) h0)
    have hs := Lib.hid (bst_neg (s := s) h0)
    go_enter Try.func23, Try.ntmps23
    go_wp2_with fail
    go_ret
    rw [hv.out, hs.out, hself.out]
    exact ⟨rfl, rfl⟩
  · have hv := Lib.hid (bval_pos (s := s) (n := n) (by omega))
    have hs := Lib.hid (bst_pos (s := s) (n := n) (by omega))
    have ho := outOf_bd s
    have h1 := Int.emod_nonneg (outOf s) (show n ≠ 0 by omega)
    have h2 := Int.emod_lt_of_pos (outOf s) (show 0 < n by omega)
    go_enter Try.func23, Try.ntmps23
    go_wp2_with fail
    refine (draw_next s p _ hc hf).mono ?_
    rintro e w1 ⟨rfl, rfl⟩
    go_wp2_with fail
    go_ret
    rw [hv.out, hs.out]
    exact ⟨rfl, rfl⟩

set_option maxHeartbeats 400000 in
theorem rdraw_below (s n : Int) (p : Addr) (w : World) (hc : w.cell? p = some (.int .u64 s)) (hf : w.frozen? p = false) (hn : -9223372036854775808 ≤ n ∧ n ≤ 9223372036854775807) :
    Calls Try.prog 24 #[.pointer (some p), .int .i64 n] w fun e w' => e = .returned (.int .i64 (bval s n)) ∧ w.setCell p (.int .u64 (bst s n)) = w' := by
  have hself := Lib.hid (setCell_self w p _ hc)
  by_cases h0 : n ≤ 0
  · have hv := Lib.hid (bval_neg (s := s) h0)
    have hs := Lib.hid (bst_neg (s := s) h0)
    go_enter Try.func24, Try.ntmps24
    go_wp2_with fail
    go_ret
    rw [hv.out, hs.out, hself.out]
    exact ⟨rfl, rfl⟩
  · have hv := Lib.hid (bval_pos (s := s) (n := n) (by omega))
    have hs := Lib.hid (bst_pos (s := s) (n := n) (by omega))
    have ho := outOf_bd s
    have h1 := Int.emod_nonneg (outOf s) (show n ≠ 0 by omega)
    have h2 := Int.emod_lt_of_pos (outOf s) (show 0 < n by omega)
    go_enter Try.func24, Try.ntmps24
    go_wp2_with fail
    refine (rdraw_next s p _ hc hf).mono ?_
    rintro e w1 ⟨rfl, rfl⟩
    go_wp2_with fail
    go_ret
    rw [hv.out, hs.out]
    exact ⟨rfl, rfl⟩

set_option maxHeartbeats 400000 in
theorem draw_clone (s : Int) (p : Addr) (w : World) (hc : w.cell? p = some (.int .u64 s)) :
    Calls Try.prog 26 #[.pointer (some p)] w fun e w' => e = .returned (.pointer (some ⟨w.heap.size, 0, none⟩)) ∧ w.alloc (.cells #[.int .u64 s] 74) = w' := by
  go_enter Try.func26, Try.ntmps26
  go_wp2_with fail
  go_ret
  exact ⟨rfl, rfl⟩
set_option maxHeartbeats 400000 in
theorem draw_clone_nil (w : World) :
    Calls Try.prog 26 #[.pointer none] w fun e w' => e = .returned (.pointer none) ∧ w = w' := by
  go_enter Try.func26, Try.ntmps26
  go_wp2_with fail
  go_ret
  exact ⟨rfl, rfl⟩
set_option maxHeartbeats 400000 in
theorem draw_below_nil (n : Int) (w : World) :
    Calls Try.prog 23 #[.pointer none, .int .i64 n] w fun e w' => e = .returned (.int .i64 0) ∧ w = w' := by
  go_enter Try.func23, Try.ntmps23
  go_wp2_with fail
  go_ret
  exact ⟨rfl, rfl⟩

theorem wakes_out : outOf 0 = 335903614 := by decide +kernel

set_option maxHeartbeats 1000000 in
theorem wakes05 (w : World) : Calls Try.prog 21 #[] w fun e w' => e = .returned (.bool true) ∧ Below w.heap.size w w' := by
  have ho := wakes_out
  go_enter Try.func21, Try.ntmps21
  go_wp2_with fail
  refine (draw_new 0 _ (by omega) (by omega)).mono ?_
  rintro e w1 ⟨rfl, rfl⟩
  go_wp2_with fail
  refine (draw_new 0 _ (by omega) (by omega)).mono ?_
  rintro e w1 ⟨rfl, rfl⟩
  go_wp2_with fail
  refine (draw_next 0 _ _ (by go_simp) (by go_simp)).mono ?_
  rintro e w1 ⟨rfl, rfl⟩
  go_wp2_with fail
  go_ret
  exact ⟨rfl, ((Below.refl _ _).alloc (Nat.le_refl _) _).alloc (by simp) _⟩
end Go.Proofs.Ytiaoegdpofpneaa
