/- The package gf: the field's own functions. -/
import Derived.Test.YtfbhbjhfebkpfaaGfB
namespace Go.Proofs.Ytfbhbjhfebkpfaa
open Go.RowKit
set_option linter.unusedVariables false

theorem fld_exp {w : World} {g : Nat} (h : Fld w g) {i : Nat} (hi : i < 255) : w.cell? ⟨g, i, none⟩ = some (.int .u8 (ex i : Nat)) := by
  rw [h.cell i]
  unfold fldRow
  rw [Array.getElem?_append, if_pos (by rw [pwRow_size]; exact hi), pwRow_get 255 i hi, if_pos hi]
theorem fld_log {w : World} {g : Nat} (h : Fld w g) {a : Nat} (h0 : a ≠ 0) (ha : a < 256) : w.cell? ⟨g, 255 + a, none⟩ = some (.int .i64 (lg a : Nat)) := by
  rw [h.cell (255 + a)]
  unfold fldRow
  rw [Array.getElem?_append, if_neg (by rw [pwRow_size]; omega), pwRow_size, show 255 + a - 255 = a by omega, lgRow_get 255 a ha, if_pos ⟨h0, lg_bd (by omega) ha⟩]
theorem Fld.below {w w' : World} {g B : Nat} (h : Fld w g) (hb : Below B w w') (hg : g < B) : Fld w' g := Blk.below h hb hg
theorem Fld.drewN {w : World} {g : Nat} (h : Fld w g) (n : Nat) : Fld (w.drewN n) g := h

set_option maxHeartbeats 400000 in
theorem gf_own (g : Nat) (w : World) :
    Calls Try.prog 83 #[.pointer (some ⟨g, 0, none⟩)] w fun e w' => e = .returned (.pointer (some ⟨g, 0, none⟩)) ∧ w = w' := by
  go_enter Try.func83, Try.ntmps83
  go_wp2_with fail
  go_ret
  exact ⟨rfl, rfl⟩
set_option maxHeartbeats 400000 in
theorem gf_own_nil (w : World) :
    Calls Try.prog 83 #[.pointer none] w fun e w' => ∃ g, e = .returned (.pointer (some ⟨g, 0, none⟩)) ∧ w.heap.size ≤ g ∧ Fld w' g ∧ Below w.heap.size w w' := by
  go_enter Try.func83, Try.ntmps83
  go_wp2_with fail
  refine (gf_new _).mono ?_
  rintro e w1 ⟨g, rfl, hg, hF, hb⟩
  go_wp2_with fail
  go_ret
  exact ⟨g, rfl, hg, hF, hb⟩

set_option maxHeartbeats 400000 in
theorem gf_add (p : Value) (a b : Nat) (ha : a < 256) (hb : b < 256) (w : World) :
    Calls Try.prog 25 #[p, .int .u8 a, .int .u8 b] w fun e w' => e = .returned (.int .u8 (a ^^^ b : Nat)) ∧ w = w' := by
  have e1 := u8_xor_nat a b ha hb
  go_enter Try.func25, Try.ntmps25
  go_wp2_with fail
  go_ret
  exact ⟨rfl, rfl⟩

theorem fm_ne {a b : Nat} (h0 : a ≠ 0) (h1 : b ≠ 0) : fm a b = ex ((lg a + lg b) % 255) := by unfold fm; rw [if_neg (by omega)]
theorem fi_ne {a : Nat} (h0 : a ≠ 0) : fi a = ex ((255 - lg a) % 255) := by unfold fi; rw [if_neg h0]

/-- Where the field is read: the field itself, or a nil one, for which a new field is made. -/
def Fp (w : World) (p : Option Addr) : Prop := p = none ∨ ∃ g, p = some ⟨g, 0, none⟩ ∧ Fld w g

set_option maxRecDepth 100000 in
set_option maxHeartbeats 1000000 in
theorem gf_mul (g a b : Nat) (ha : a < 256) (hb : b < 256) (w : World) (hF : Fld w g) :
    Calls Try.prog 26 #[.pointer (some ⟨g, 0, none⟩), .int .u8 a, .int .u8 b] w fun e w' => e = .returned (.int .u8 (fm a b : Nat)) ∧ ∃ j, w' = w.drewN j := by
  by_cases h0 : a = 0
  · subst h0
    have hz := Lib.hid (fm_zero_left b)
    go_enter Try.func26, Try.ntmps26
    go_wp2_with fail
    go_ret
    exact ⟨ret_u8 hz.out.symm, 0, rfl⟩
  · have ha0 : ((a : Int) == 0) = false := by simpa using h0
    by_cases h1 : b = 0
    · subst h1
      have hz := Lib.hid (fm_zero_right a)
      go_enter Try.func26, Try.ntmps26
      go_wp2_with fail
      go_ret
      exact ⟨ret_u8 hz.out.symm, 0, rfl⟩
    · have hb0 : ((b : Int) == 0) = false := by simpa using h1
      have hv := Lib.hid (fm_ne h0 h1)
      have ca := fld_log hF h0 ha
      have cb := fld_log hF h1 hb
      have hla := lg_bd (by omega) ha
      have hlb := lg_bd (by omega) hb
      have ce := fld_exp hF (Nat.mod_lt (lg a + lg b) (by omega : 255 > 0))
      generalize lg a = x at *
      generalize lg b = y at *
      have s1 : IntKind.i64.wrap ((x : Int) + y) = x + y := by rw [IntKind.wrap_i64]; omega
      have s2 : ((x : Int) + y).tmod 255 = (x + y) % 255 := by rw [Int.tmod_eq_emod_of_nonneg (by omega)]
      have s3 : (((x : Int) + y) % 255).toNat = (x + y) % 255 := by omega
      have s4 : (0 : Int) ≤ ((x : Int) + y) % 255 := by omega
      have s5 : ((x : Int) + y) % 255 < 255 := by omega
      have s6 : IntKind.i64.wrap (((x : Int) + y) % 255) = ((x : Int) + y) % 255 := by rw [IntKind.wrap_i64]; omega
      go_enter Try.func26, Try.ntmps26
      go_wp2_with fail
      refine (gf_own g _).mono ?_
      rintro e w1 ⟨rfl, rfl⟩
      go_wp2_with fail
      go_quiet (fail)
      clear s1 s2 s3 s4 s5 s6
      go_wp2_with fail
      go_ret
      exact ⟨ret_u8 hv.out.symm, by first | exact ⟨_, rfl⟩ | exact ⟨_, World.drewN_drewN _ _ _⟩⟩

set_option maxRecDepth 100000 in
set_option maxHeartbeats 1000000 in
theorem gf_mul_nil (a b : Nat) (ha : a < 256) (hb : b < 256) (w : World) :
    Calls Try.prog 26 #[.pointer none, .int .u8 a, .int .u8 b] w fun e w' => e = .returned (.int .u8 (fm a b : Nat)) ∧ Below w.heap.size w w' := by
  by_cases h0 : a = 0
  · subst h0
    have hz := Lib.hid (fm_zero_left b)
    go_enter Try.func26, Try.ntmps26
    go_wp2_with fail
    go_ret
    exact ⟨ret_u8 hz.out.symm, Below.refl _ _⟩
  · have ha0 : ((a : Int) == 0) = false := by simpa using h0
    by_cases h1 : b = 0
    · subst h1
      have hz := Lib.hid (fm_zero_right a)
      go_enter Try.func26, Try.ntmps26
      go_wp2_with fail
      go_ret
      exact ⟨ret_u8 hz.out.symm, Below.refl _ _⟩
    · have hb0 : ((b : Int) == 0) = false := by simpa using h1
      have hv := Lib.hid (fm_ne h0 h1)
      have hla := lg_bd (by omega) ha
      have hlb := lg_bd (by omega) hb
      go_enter Try.func26, Try.ntmps26
      go_wp2_with fail
      refine (gf_own_nil _).mono ?_
      rintro e w1 ⟨g, rfl, hg, hF, hb1⟩
      have ca := fld_log hF h0 ha
      have cb := fld_log hF h1 hb
      have ce := fld_exp hF (Nat.mod_lt (lg a + lg b) (by omega : 255 > 0))
      generalize lg a = x at *
      generalize lg b = y at *
      have s1 : IntKind.i64.wrap ((x : Int) + y) = x + y := by rw [IntKind.wrap_i64]; omega
      have s2 : ((x : Int) + y).tmod 255 = (x + y) % 255 := by rw [Int.tmod_eq_emod_of_nonneg (by omega)]
      have s3 : (((x : Int) + y) % 255).toNat = (x + y) % 255 := by omega
      have s4 : (0 : Int) ≤ ((x : Int) + y) % 255 := by omega
      have s5 : ((x : Int) + y) % 255 < 255 := by omega
      have s6 : IntKind.i64.wrap (((x : Int) + y) % 255) = ((x : Int) + y) % 255 := by rw [IntKind.wrap_i64]; omega
      go_wp2_with fail
      go_quiet (fail)
      clear s1 s2 s3 s4 s5 s6
      go_wp2_with fail
      go_ret
      exact ⟨ret_u8 hv.out.symm, below_drewN hb1 _⟩

set_option maxRecDepth 100000 in
set_option maxHeartbeats 1000000 in
theorem gf_inv (g a : Nat) (ha : a < 256) (w : World) (hF : Fld w g) :
    Calls Try.prog 29 #[.pointer (some ⟨g, 0, none⟩), .int .u8 a] w fun e w' => e = .returned (.int .u8 (fi a : Nat)) ∧ ∃ j, w' = w.drewN j := by
  by_cases h0 : a = 0
  · subst h0
    go_enter Try.func29, Try.ntmps29
    go_wp2_with fail
    go_ret
    exact ⟨rfl, 0, rfl⟩
  · have ha0 : ((a : Int) == 0) = false := by simpa using h0
    have hv := Lib.hid (fi_ne h0)
    have hla := lg_bd (by omega) ha
    go_enter Try.func29, Try.ntmps29
    go_wp2_with fail
    refine (gf_own g _).mono ?_
    rintro e w1 ⟨rfl, rfl⟩
    have ca := fld_log hF h0 ha
    have ce := fld_exp hF (Nat.mod_lt (255 - lg a) (by omega : 255 > 0))
    generalize lg a = x at *
    have s5 : (255 - x) % 255 < 255 := Nat.mod_lt _ (by omega)
    have s2 : (255 - (x : Int)).tmod 255 = ((255 - x) % 255 : Nat) := by rw [Int.tmod_eq_emod_of_nonneg (by omega)]; omega
    generalize (255 - x) % 255 = m at *
    have s1 : IntKind.i64.wrap (255 - (x : Int)) = 255 - x := by rw [IntKind.wrap_i64]; omega
    have s6 : IntKind.i64.wrap (m : Int) = m := by rw [IntKind.wrap_i64]; omega
    go_wp2_with fail
    go_quiet (fail)
    clear s1 s2 s6
    go_wp2_with fail
    go_ret
    exact ⟨ret_u8 hv.out.symm, by first | exact ⟨_, rfl⟩ | exact ⟨_, World.drewN_drewN _ _ _⟩⟩

set_option maxRecDepth 100000 in
set_option maxHeartbeats 1000000 in
theorem gf_inv_nil (a : Nat) (ha : a < 256) (w : World) :
    Calls Try.prog 29 #[.pointer none, .int .u8 a] w fun e w' => e = .returned (.int .u8 (fi a : Nat)) ∧ Below w.heap.size w w' := by
  by_cases h0 : a = 0
  · subst h0
    go_enter Try.func29, Try.ntmps29
    go_wp2_with fail
    go_ret
    exact ⟨rfl, Below.refl _ _⟩
  · have ha0 : ((a : Int) == 0) = false := by simpa using h0
    have hv := Lib.hid (fi_ne h0)
    have hla := lg_bd (by omega) ha
    go_enter Try.func29, Try.ntmps29
    go_wp2_with fail
    refine (gf_own_nil _).mono ?_
    rintro e w1 ⟨g, rfl, hg, hF, hb1⟩
    have ca := fld_log hF h0 ha
    have ce := fld_exp hF (Nat.mod_lt (255 - lg a) (by omega : 255 > 0))
    generalize lg a = x at *
    have s5 : (255 - x) % 255 < 255 := Nat.mod_lt _ (by omega)
    have s2 : (255 - (x : Int)).tmod 255 = ((255 - x) % 255 : Nat) := by rw [Int.tmod_eq_emod_of_nonneg (by omega)]; omega
    generalize (255 - x) % 255 = m at *
    have s1 : IntKind.i64.wrap (255 - (x : Int)) = 255 - x := by rw [IntKind.wrap_i64]; omega
    have s6 : IntKind.i64.wrap (m : Int) = m := by rw [IntKind.wrap_i64]; omega
    go_wp2_with fail
    go_quiet (fail)
    clear s1 s2 s6
    go_wp2_with fail
    go_ret
    exact ⟨ret_u8 hv.out.symm, below_drewN hb1 _⟩

/-- A power, whatever the number. -/
def exI (n : Int) : Nat := ex (n % 255).toNat
theorem tmod_255 (n : Int) : (if n.tmod 255 < 0 then n.tmod 255 + 255 else n.tmod 255) = n % 255 := by
  rw [Int.tmod_eq_emod]
  have h1 := Int.emod_nonneg n (show (255 : Int) ≠ 0 by omega)
  have h2 := Int.emod_lt_of_pos n (show (0 : Int) < 255 by omega)
  split <;> split <;> omega

set_option maxRecDepth 100000 in
set_option maxHeartbeats 1000000 in
theorem gf_div (g a b : Nat) (ha : a < 256) (hb : b < 256) (w : World) (hF : Fld w g) :
    Calls Try.prog 28 #[.pointer (some ⟨g, 0, none⟩), .int .u8 a, .int .u8 b] w fun e w' => e = .returned (.tuple #[.int .u8 ((if b = 0 then 0 else fm a (fi b)) : Nat), .bool (decide (b ≠ 0))]) ∧ ∃ j, w' = w.drewN j := by
  by_cases h0 : b = 0
  · subst h0
    go_enter Try.func28, Try.ntmps28
    go_wp2_with fail
    go_ret2
    exact ⟨rfl, 0, rfl⟩
  · have hb0 : ((b : Int) == 0) = false := by simpa using h0
    rw [if_neg h0, decide_eq_true h0]
    go_enter Try.func28, Try.ntmps28
    go_wp2_with fail
    refine (gf_inv g b hb _ hF).mono ?_
    rintro e w1 ⟨rfl, j, rfl⟩
    go_wp2_with fail
    refine (gf_mul g a (fi b) ha (fi_bd b) _ (hF.drewN j)).mono ?_
    rintro e w2 ⟨rfl, k, rfl⟩
    go_wp2_with fail
    go_ret2
    exact ⟨rfl, by first | exact ⟨_, rfl⟩ | exact ⟨_, World.drewN_drewN _ _ _⟩⟩

set_option maxRecDepth 100000 in
set_option maxHeartbeats 1000000 in
theorem gf_div_nil (a b : Nat) (ha : a < 256) (hb : b < 256) (w : World) :
    Calls Try.prog 28 #[.pointer none, .int .u8 a, .int .u8 b] w fun e w' => e = .returned (.tuple #[.int .u8 ((if b = 0 then 0 else fm a (fi b)) : Nat), .bool (decide (b ≠ 0))]) ∧ Below w.heap.size w w' := by
  by_cases h0 : b = 0
  · subst h0
    go_enter Try.func28, Try.ntmps28
    go_wp2_with fail
    go_ret2
    exact ⟨rfl, Below.refl _ _⟩
  · have hb0 : ((b : Int) == 0) = false := by simpa using h0
    rw [if_neg h0, decide_eq_true h0]
    go_enter Try.func28, Try.ntmps28
    go_wp2_with fail
    refine (gf_inv_nil b hb _).mono ?_
    rintro e w1 ⟨rfl, hb1⟩
    go_wp2_with fail
    refine (gf_mul_nil a (fi b) ha (fi_bd b) _).mono ?_
    rintro e w2 ⟨rfl, hb2⟩
    go_wp2_with fail
    go_ret2
    exact ⟨rfl, hb1.trans (hb2.mono hb1.size)⟩

set_option maxRecDepth 100000 in
set_option maxHeartbeats 1000000 in
theorem gf_exp (g : Nat) (n : Int) (hn : -9223372036854775808 ≤ n ∧ n ≤ 9223372036854775807) (w : World) (hF : Fld w g) :
    Calls Try.prog 31 #[.pointer (some ⟨g, 0, none⟩), .int .i64 n] w fun e w' => e = .returned (.int .u8 (exI n : Nat)) ∧ ∃ j, w' = w.drewN j := by
  have h1 := Int.emod_nonneg n (show (255 : Int) ≠ 0 by omega)
  have h2 := Int.emod_lt_of_pos n (show (0 : Int) < 255 by omega)
  have h3 := Lib.hid (tmod_255 n)
  have hv : exI n = ex (n % 255).toNat := rfl
  obtain ⟨m, hm⟩ := Int.eq_ofNat_of_zero_le h1
  rw [hm] at h2 h3
  rw [hv, hm, Int.toNat_natCast]
  have hmlt : m < 255 := by omega
  clear hv hm h1
  by_cases hneg : n.tmod 255 < 0
  · obtain ⟨q, hq⟩ : ∃ q, q = n.tmod 255 := ⟨_, rfl⟩
    have h4 := h3.out
    rw [if_pos hneg] at h4
    have h5 : q = (m : Int) - 255 := by omega
    subst hq
    go_enter Try.func31, Try.ntmps31
    rw [show n.tmod 255 = (m : Int) - 255 from h5] at hneg
    have h6 : n.tmod 255 = (m : Int) - 255 := h5
    clear h3 h4
    go_wp2_with fail
    refine (gf_own g _).mono ?_
    rintro e w1 ⟨rfl, rfl⟩
    have ce := fld_exp hF hmlt
    go_wp2_with fail
    go_ret
    exact ⟨rfl, 0, rfl⟩
  · have h4 := h3.out
    rw [if_neg hneg] at h4
    clear h3
    go_enter Try.func31, Try.ntmps31
    go_wp2_with fail
    refine (gf_own g _).mono ?_
    rintro e w1 ⟨rfl, rfl⟩
    have ce := fld_exp hF hmlt
    go_wp2_with fail
    go_ret
    exact ⟨rfl, 0, rfl⟩

set_option maxRecDepth 100000 in
set_option maxHeartbeats 1000000 in
theorem gf_exp_nil (n : Int) (hn : -9223372036854775808 ≤ n ∧ n ≤ 9223372036854775807) (w : World) :
    Calls Try.prog 31 #[.pointer none, .int .i64 n] w fun e w' => e = .returned (.int .u8 (exI n : Nat)) ∧ Below w.heap.size w w' := by
  have h1 := Int.emod_nonneg n (show (255 : Int) ≠ 0 by omega)
  have h2 := Int.emod_lt_of_pos n (show (0 : Int) < 255 by omega)
  have h3 := Lib.hid (tmod_255 n)
  have hv : exI n = ex (n % 255).toNat := rfl
  obtain ⟨m, hm⟩ := Int.eq_ofNat_of_zero_le h1
  rw [hm] at h2 h3
  rw [hv, hm, Int.toNat_natCast]
  have hmlt : m < 255 := by omega
  clear hv hm h1
  by_cases hneg : n.tmod 255 < 0
  · obtain ⟨q, hq⟩ : ∃ q, q = n.tmod 255 := ⟨_, rfl⟩
    have h4 := h3.out
    rw [if_pos hneg] at h4
    have h5 : q = (m : Int) - 255 := by omega
    subst hq
    go_enter Try.func31, Try.ntmps31
    rw [show n.tmod 255 = (m : Int) - 255 from h5] at hneg
    have h6 : n.tmod 255 = (m : Int) - 255 := h5
    clear h3 h4
    go_wp2_with fail
    refine (gf_own_nil _).mono ?_
    rintro e w1 ⟨g, rfl, hg, hF, hb1⟩
    have ce := fld_exp hF hmlt
    go_wp2_with fail
    go_ret
    exact ⟨rfl, hb1⟩
  · have h4 := h3.out
    rw [if_neg hneg] at h4
    clear h3
    go_enter Try.func31, Try.ntmps31
    go_wp2_with fail
    refine (gf_own_nil _).mono ?_
    rintro e w1 ⟨g, rfl, hg, hF, hb1⟩
    have ce := fld_exp hF hmlt
    go_wp2_with fail
    go_ret
    exact ⟨rfl, hb1⟩

set_option maxRecDepth 100000 in
set_option maxHeartbeats 1000000 in
theorem gf_log (g a : Nat) (ha : a < 256) (w : World) (hF : Fld w g) :
    Calls Try.prog 32 #[.pointer (some ⟨g, 0, none⟩), .int .u8 a] w fun e w' => e = .returned (.tuple #[.int .i64 ((if a = 0 then 0 else lg a) : Nat), .bool (decide (a ≠ 0))]) ∧ ∃ j, w' = w.drewN j := by
  by_cases h0 : a = 0
  · subst h0
    go_enter Try.func32, Try.ntmps32
    go_wp2_with fail
    go_ret2
    exact ⟨rfl, 0, rfl⟩
  · have ha0 : ((a : Int) == 0) = false := by simpa using h0
    rw [if_neg h0, decide_eq_true h0]
    go_enter Try.func32, Try.ntmps32
    go_wp2_with fail
    refine (gf_own g _).mono ?_
    rintro e w1 ⟨rfl, rfl⟩
    have ca := fld_log hF h0 ha
    go_wp2_with fail
    go_ret2
    exact ⟨rfl, 0, rfl⟩

set_option maxRecDepth 100000 in
set_option maxHeartbeats 1000000 in
theorem gf_log_nil (a : Nat) (ha : a < 256) (w : World) :
    Calls Try.prog 32 #[.pointer none, .int .u8 a] w fun e w' => e = .returned (.tuple #[.int .i64 ((if a = 0 then 0 else lg a) : Nat), .bool (decide (a ≠ 0))]) ∧ Below w.heap.size w w' := by
  by_cases h0 : a = 0
  · subst h0
    go_enter Try.func32, Try.ntmps32
    go_wp2_with fail
    go_ret2
    exact ⟨rfl, Below.refl _ _⟩
  · have ha0 : ((a : Int) == 0) = false := by simpa using h0
    rw [if_neg h0, decide_eq_true h0]
    go_enter Try.func32, Try.ntmps32
    go_wp2_with fail
    refine (gf_own_nil _).mono ?_
    rintro e w1 ⟨g, rfl, hg, hF, hb1⟩
    have ca := fld_log hF h0 ha
    go_wp2_with fail
    go_ret2
    exact ⟨rfl, hb1⟩

/-- The same, bytes as whatever numbers stand at the call. -/
theorem gf_mulI (g : Nat) (x y : Int) (w : World) (hx : 0 ≤ x ∧ x ≤ 255) (hy : 0 ≤ y ∧ y ≤ 255) (hF : Fld w g) :
    Calls Try.prog 26 #[.pointer (some ⟨g, 0, none⟩), .int .u8 x, .int .u8 y] w fun e w' => e = .returned (.int .u8 (fm x.toNat y.toNat : Nat)) ∧ ∃ j, w' = w.drewN j := by
  obtain ⟨a, rfl⟩ := Int.eq_ofNat_of_zero_le hx.1
  obtain ⟨b, rfl⟩ := Int.eq_ofNat_of_zero_le hy.1
  exact gf_mul g a b (by omega) (by omega) w hF
theorem gf_addI (p : Value) (x y : Int) (w : World) (hx : 0 ≤ x ∧ x ≤ 255) (hy : 0 ≤ y ∧ y ≤ 255) :
    Calls Try.prog 25 #[p, .int .u8 x, .int .u8 y] w fun e w' => e = .returned (.int .u8 (x.toNat ^^^ y.toNat : Nat)) ∧ w = w' := by
  obtain ⟨a, rfl⟩ := Int.eq_ofNat_of_zero_le hx.1
  obtain ⟨b, rfl⟩ := Int.eq_ofNat_of_zero_le hy.1
  exact gf_add p a b (by omega) (by omega) w
theorem gf_invI (g : Nat) (x : Int) (w : World) (hx : 0 ≤ x ∧ x ≤ 255) (hF : Fld w g) :
    Calls Try.prog 29 #[.pointer (some ⟨g, 0, none⟩), .int .u8 x] w fun e w' => e = .returned (.int .u8 (fi x.toNat : Nat)) ∧ ∃ j, w' = w.drewN j := by
  obtain ⟨a, rfl⟩ := Int.eq_ofNat_of_zero_le hx.1
  exact gf_inv g a (by omega) w hF
end Go.Proofs.Ytfbhbjhfebkpfaa
