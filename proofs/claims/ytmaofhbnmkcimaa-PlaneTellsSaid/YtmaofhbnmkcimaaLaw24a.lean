/- The walks of wellspringlaw24: wakes, PlaneSpots. -/
import Derived.Test.YtmaofhbnmkcimaaSpiralB
import Derived.Test.YtmaofhbnmkcimaaKeep
namespace Go.Proofs.Ytmaofhbnmkcimaa
open Go.RowKit
set_option linter.unusedVariables false

theorem fz_neg_one : Fz 13830554455654793216 (-1) := ⟨true, 1, 52, by decide +kernel, rfl⟩
/-- Spot at a whole place. -/
theorem plane_spotI (zr zi : Nat) (x y : Int) (h : Cz zr zi x y) (w : World) :
    Calls Try.prog 13 #[.complex .f64 zr zi] w fun e w' => e = .returned (spotV (spF x y)) ∧ Below w.heap.size w w' :=
  plane_spot zr zi (spF x y) w fun k ar ai _ hz => cz_eq hz h

set_option maxRecDepth 100000 in
set_option maxHeartbeats 1000000 in
theorem wakes24 (w : World) : Calls Try.prog 15 #[] w fun e w' => e = .returned (.bool true) ∧ Below w.heap.size w w' := by
  have h1 : spotV (spF 1 0) = .tuple #[.int .i64 1, .bool true] := spot_found (k := 1) (by omega) (by decide) (by decide)
  have h5 : atN 5 = (-1, 0) := by decide
  have H1 := Lib.hid h1
  have H5 := Lib.hid h5
  clear h1 h5
  go_enter Try.func15, Try.ntmps15
  go_wp2_with fail
  refine (plane_spotI _ _ 1 0 ⟨fz_one, fz_zero⟩ _).mono ?_
  rintro e w1 ⟨rfl, hb1⟩
  rw [H1.out]
  go_wp2_with fail
  refine (plane_at 5 (by omega) _).mono ?_
  rintro e w2 ⟨r, i, rfl, hz, hb2⟩
  rw [H5.out] at hz
  have hq := cz_eq hz ⟨fz_neg_one, fz_zero⟩
  rw [show decide ((-1 : Int) = -1 ∧ (0 : Int) = 0) = true from rfl] at hq
  go_wp2_with fail
  go_ret
  exact ⟨rfl, hb1.trans (hb2.mono hb1.size)⟩
end Go.Proofs.Ytmaofhbnmkcimaa
