/- A field or a nil one: the same contracts for both. -/
import Derived.Test.YtfbhbjhfebkpfaaGfC
namespace Go.Proofs.Ytfbhbjhfebkpfaa
open Go.RowKit
set_option linter.unusedVariables false

theorem Fp.nil (w : World) : Fp w none := .inl rfl
theorem Fp.of {w : World} {g : Nat} (h : Fld w g) : Fp w (some ⟨g, 0, none⟩) := .inr ⟨g, rfl, h⟩
theorem Fp.below {w w' : World} {p : Option Addr} {B : Nat} (h : Fp w p) (hb : Below B w w') (hB : w.heap.size ≤ B) : Fp w' p := by
  rcases h with rfl | ⟨g, rfl, hF⟩
  · exact .inl rfl
  · exact .inr ⟨g, rfl, hF.below hb (Nat.lt_of_lt_of_le (Blk.lt hF) hB)⟩
theorem below_drewN0 (w : World) (n : Nat) : Below w.heap.size w (w.drewN n) := below_drewN (Below.refl _ _) n

theorem fp_mul (p : Option Addr) (x y : Int) (w : World) (hx : 0 ≤ x ∧ x ≤ 255) (hy : 0 ≤ y ∧ y ≤ 255) (hF : Fp w p) :
    Calls Try.prog 26 #[.pointer p, .int .u8 x, .int .u8 y] w fun e w' => e = .returned (.int .u8 (fm x.toNat y.toNat : Nat)) ∧ Below w.heap.size w w' := by
  obtain ⟨a, rfl⟩ := Int.eq_ofNat_of_zero_le hx.1
  obtain ⟨b, rfl⟩ := Int.eq_ofNat_of_zero_le hy.1
  rcases hF with rfl | ⟨g, rfl, hF⟩
  · exact gf_mul_nil a b (by omega) (by omega) w
  · exact (gf_mul g a b (by omega) (by omega) w hF).mono fun e w' ⟨h, j, hj⟩ => ⟨h, hj ▸ below_drewN0 w j⟩
theorem fp_inv (p : Option Addr) (x : Int) (w : World) (hx : 0 ≤ x ∧ x ≤ 255) (hF : Fp w p) :
    Calls Try.prog 29 #[.pointer p, .int .u8 x] w fun e w' => e = .returned (.int .u8 (fi x.toNat : Nat)) ∧ Below w.heap.size w w' := by
  obtain ⟨a, rfl⟩ := Int.eq_ofNat_of_zero_le hx.1
  rcases hF with rfl | ⟨g, rfl, hF⟩
  · exact gf_inv_nil a (by omega) w
  · exact (gf_inv g a (by omega) w hF).mono fun e w' ⟨h, j, hj⟩ => ⟨h, hj ▸ below_drewN0 w j⟩
theorem fp_exp (p : Option Addr) (n : Int) (hn : -9223372036854775808 ≤ n ∧ n ≤ 9223372036854775807) (w : World) (hF : Fp w p) :
    Calls Try.prog 31 #[.pointer p, .int .i64 n] w fun e w' => e = .returned (.int .u8 (exI n : Nat)) ∧ Below w.heap.size w w' := by
  rcases hF with rfl | ⟨g, rfl, hF⟩
  · exact gf_exp_nil n hn w
  · exact (gf_exp g n hn w hF).mono fun e w' ⟨h, j, hj⟩ => ⟨h, hj ▸ below_drewN0 w j⟩
theorem fp_div (p : Option Addr) (a b : Nat) (ha : a < 256) (hb : b < 256) (w : World) (hF : Fp w p) :
    Calls Try.prog 28 #[.pointer p, .int .u8 a, .int .u8 b] w fun e w' => e = .returned (.tuple #[.int .u8 (fm a (fi b) : Nat), .bool ((b : Int) != 0)]) ∧ Below w.heap.size w w' := by
  have e1 : (if b = 0 then 0 else fm a (fi b)) = fm a (fi b) := by
    split
    · rename_i h; subst h; exact (fm_zero_right a).symm
    · rfl
  have e2 : decide (b ≠ 0) = ((b : Int) != 0) := by by_cases h : b = 0 <;> simp [h]
  rw [← e1, ← e2]
  rcases hF with rfl | ⟨g, rfl, hF⟩
  · exact gf_div_nil a b ha hb w
  · exact (gf_div g a b ha hb w hF).mono fun e w' ⟨h, j, hj⟩ => ⟨h, hj ▸ below_drewN0 w j⟩
theorem fp_log (p : Option Addr) (a : Nat) (ha : a < 256) (w : World) (hF : Fp w p) :
    Calls Try.prog 32 #[.pointer p, .int .u8 a] w fun e w' => e = .returned (.tuple #[.int .i64 ((if a = 0 then 0 else lg a) : Nat), .bool ((a : Int) != 0)]) ∧ Below w.heap.size w w' := by
  have e2 : decide (a ≠ 0) = ((a : Int) != 0) := by by_cases h : a = 0 <;> simp [h]
  rw [← e2]
  rcases hF with rfl | ⟨g, rfl, hF⟩
  · exact gf_log_nil a ha w
  · exact (gf_log g a ha w hF).mono fun e w' ⟨h, j, hj⟩ => ⟨h, hj ▸ below_drewN0 w j⟩
end Go.Proofs.Ytfbhbjhfebkpfaa
