/- Contracts of the package draw (and the reference's Draw): what each call does to memory. -/
import Derived.Test.YtiaoegdpofpneaaRows
import Derived.Test.YtiaoegdpofpneaaKit
namespace Go.Proofs.Ytiaoegdpofpneaa
open Go.RowKit

/-- How a Draw goes on. -/
def nxt (s : Int) : Int := IntKind.u64.wrap (IntKind.u64.wrap (s * 6364136223846793005) + 1442695040888963407)
/-- Which bits are told. -/
def outOf (s : Int) : Int := nxt s / 4294967296

theorem nxt_bd (s : Int) : 0 ≤ nxt s ∧ nxt s < 18446744073709551616 := by
  unfold nxt; rw [IntKind.wrap_u64]; omega
theorem outOf_bd (s : Int) : 0 ≤ outOf s ∧ outOf s ≤ 4294967295 := by
  have := nxt_bd s; unfold outOf; omega
theorem outOf_mod (s : Int) : outOf s % 4294967296 = outOf s := by
  have := outOf_bd s; omega
theorem nxt_eq (s : Int) : IntKind.u64.wrap (IntKind.u64.wrap (s * 6364136223846793005) + 1442695040888963407) = nxt s := rfl
theorem out_eq (s : Int) : nxt s / 4294967296 % 4294967296 = outOf s := outOf_mod s

set_option maxHeartbeats 400000 in
theorem draw_new (s : Int) (w : World) (h0 : 0 ≤ s) (h1 : s ≤ 4294967295) :
    Calls Try.prog 19 #[.int .u32 s] w fun e w' => e = .returned (.pointer (some ⟨w.heap.size, 0, none⟩)) ∧ w.alloc (.cells #[.int .u64 s] 74) = w' := by
  go_enter Try.func19, Try.ntmps19
  go_wp2
  go_ret
  exact ⟨rfl, rfl⟩

set_option maxHeartbeats 400000 in
theorem draw_next (s : Int) (p : Addr) (w : World) (hc : w.cell? p = some (.int .u64 s)) (hf : w.frozen? p = false) :
    Calls Try.prog 20 #[.pointer (some p)] w fun e w' => e = .returned (.int .u32 (outOf s)) ∧ w.setCell p (.int .u64 (nxt s)) = w' := by
  go_enter Try.func20, Try.ntmps20
  go_wp2
  go_ret
  exact ⟨congrArg (fun x => Ending.returned (.int .u32 x)) (out_eq s), rfl⟩

set_option maxHeartbeats 400000 in
theorem draw_next_nil (w : World) :
    Calls Try.prog 20 #[.pointer none] w fun e w' => e = .returned (.int .u32 0) ∧ w = w' := by
  go_enter Try.func20, Try.ntmps20
  go_wp2
  go_ret
  exact ⟨rfl, rfl⟩

set_option maxHeartbeats 400000 in
theorem rdraw_next (s : Int) (p : Addr) (w : World) (hc : w.cell? p = some (.int .u64 s)) (hf : w.frozen? p = false) :
    Calls Try.prog 22 #[.pointer (some p)] w fun e w' => e = .returned (.int .u32 (outOf s)) ∧ w.setCell p (.int .u64 (nxt s)) = w' := by
  go_enter Try.func22, Try.ntmps22
  go_wp2
  go_ret
  exact ⟨congrArg (fun x => Ending.returned (.int .u32 x)) (out_eq s), rfl⟩

theorem wakes_out : outOf 0 = 335903614 := by decide +kernel

set_option maxHeartbeats 1000000 in
theorem wakes05 (w : World) : Calls Try.prog 21 #[] w fun e w' => e = .returned (.bool true) ∧ Below w.heap.size w w' := by
  have ho := wakes_out
  go_enter Try.func21, Try.ntmps21
  go_wp2_with fail
  refine (draw_new 0 _ (by omega) (by omega)).mono ?_
  rintro e w1 ⟨rfl, rfl⟩
  go_wp2_with fail
  refine (draw_new 0 _ (by omega) (by omega)).mono ?_
  rintro e w1 ⟨rfl, rfl⟩
  go_wp2_with fail
  refine (draw_next 0 _ _ (by go_simp) (by go_simp)).mono ?_
  rintro e w1 ⟨rfl, rfl⟩
  go_wp2_with fail
  go_ret
  exact ⟨rfl, ((Below.refl _ _).alloc (Nat.le_refl _) _).alloc (by simp) _⟩
end Go.Proofs.Ytiaoegdpofpneaa
