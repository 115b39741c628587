/- The package plane: Turn, start, on. -/
import Derived.Test.YtmaofhbnmkcimaaKit
import Derived.Test.YtmaofhbnmkcimaaIeee
import Derived.WalkLawsBesides
import Derived.StillTailTactics
namespace Go.Proofs.Ytmaofhbnmkcimaa
open Go.RowKit
set_option linter.unusedVariables false

/-- Turned to the left, so often. -/
def rotN : Nat → Int × Int → Int × Int | 0, p => p | k + 1, p => (-(rotN k p).2, (rotN k p).1)
theorem rotN_abs (k : Nat) (x y : Int) : ((rotN k (x, y)).1.natAbs = x.natAbs ∧ (rotN k (x, y)).2.natAbs = y.natAbs) ∨ ((rotN k (x, y)).1.natAbs = y.natAbs ∧ (rotN k (x, y)).2.natAbs = x.natAbs) := by
  induction k with
  | zero => exact .inl ⟨rfl, rfl⟩
  | succ k ih => simp only [rotN, Int.natAbs_neg]; rcases ih with h | h; exact .inr ⟨h.2, h.1⟩; exact .inl ⟨h.2, h.1⟩
theorem rotN_add (k m : Nat) (p : Int × Int) : rotN (k + m) p = rotN k (rotN m p) := by
  induction k with
  | zero => rw [Nat.zero_add]; rfl
  | succ k ih => rw [show k + 1 + m = (k + m) + 1 by omega]; simp only [rotN, ih]
theorem rotN_4 (p : Int × Int) : rotN 4 p = p := by obtain ⟨x, y⟩ := p; simp [rotN]
theorem mod4 (n : Int) : (n.tmod 4 + 4).tmod 4 = n % 4 := by
  have h1 := Int.emod_nonneg n (show (4 : Int) ≠ 0 by omega)
  have h2 := Int.emod_lt_of_pos n (show (0 : Int) < 4 by omega)
  rw [Int.tmod_eq_emod (a := n)]
  split
  · rw [Int.tmod_eq_emod_of_nonneg (by omega)]; omega
  · rw [Int.tmod_eq_emod_of_nonneg (by omega)]; omega

set_option maxRecDepth 100000 in
set_option maxHeartbeats 1000000 in
theorem plane_turn (r i : Nat) (x y n : Int) (hn : -9223372036854775808 ≤ n ∧ n ≤ 9223372036854775807) (w : World) (h : Cz r i x y) (hx : x.natAbs < 9007199254740992) (hy : y.natAbs < 9007199254740992) :
    Calls Try.prog 19 #[.complex .f64 r i, .int .i64 n] w fun e w' => ∃ r' i', e = .returned (.complex .f64 r' i') ∧ Cz r' i' (rotN (n % 4).toNat (x, y)).1 (rotN (n % 4).toNat (x, y)).2 ∧ w = w' := by
  have h4 := mod4 n
  have h1 := Int.emod_nonneg n (show (4 : Int) ≠ 0 by omega)
  have h2 := Int.emod_lt_of_pos n (show (0 : Int) < 4 by omega)
  generalize n % 4 = m at *
  obtain ⟨m, rfl⟩ := Int.eq_ofNat_of_zero_le h1
  rw [Int.toNat_natCast]
  have ht : -4 < n.tmod 4 ∧ n.tmod 4 < 4 := by
    rw [Int.tmod_eq_emod]
    have e1 := Int.emod_nonneg n (show (4 : Int) ≠ 0 by omega)
    have e2 := Int.emod_lt_of_pos n (show (0 : Int) < 4 by omega)
    split <;> omega
  have hm4 : m < 4 := by omega
  have HZ := Lib.hid h
  clear h h2
  generalize hgt : n.tmod 4 = t at *
  go_enter Try.func19, Try.ntmps19
  go_wp2_with fail
  go_loop [0, 9] (fun z k' => ∃ (k r i : Nat), k ≤ m ∧ k' = .int .i64 k ∧ z = .complex .f64 r i ∧ Hid (Cz r i (rotN k (x, y)).1 (rotN k (x, y)).2)) (fun _ k' => m - (intOf k').toNat)
  case atStart => exact ⟨0, r, i, by omega, rfl, rfl, HZ⟩
  case round =>
    obtain ⟨k, r1, i1, hk, rfl, rfl, HK⟩ := hrel
    have hab := rotN_abs k x y
    by_cases hlt : k < m
    · obtain ⟨r2, i2, hc, hz⟩ := cz_turn HK.out (by omega) (by omega)
      have hop := fun t w => run_complex_mul (P := Try.prog) w t r1 i1 0 4607182418800017408 r2 i2 hc
      have HZ2 := Lib.hid hz
      go_wp2_with (simp only [hop])
      go_round
      case rel => exact ⟨k + 1, r2, i2, by omega, by go_num, rfl, HZ2⟩
      case measure => simp [intOf] <;> omega
    · obtain rfl : k = m := by omega
      go_wp2_with fail
      go_ret
      exact ⟨r1, i1, rfl, HK.out, rfl⟩

/-- Somewhere on the way. -/
structure Sp where
  x : Int
  y : Int
  dx : Int
  dy : Int
  left : Int
  leg : Int
  sec : Bool
def Sp.start : Sp := ⟨0, 0, 1, 0, 1, 1, false⟩
def Sp.leg' (s : Sp) : Int := if s.sec then s.leg + 1 else s.leg
def Sp.on (s : Sp) : Sp :=
  if 0 < s.left - 1 then ⟨s.x + s.dx, s.y + s.dy, s.dx, s.dy, s.left - 1, s.leg, s.sec⟩
  else ⟨s.x + s.dx, s.y + s.dy, -s.dy, s.dx, s.leg', s.leg', !s.sec⟩
def Sp.small (s : Sp) : Prop := s.x.natAbs < 1000000 ∧ s.y.natAbs < 1000000 ∧ s.dx.natAbs < 1000000 ∧ s.dy.natAbs < 1000000 ∧ (0 ≤ s.left ∧ s.left < 1000000) ∧ (0 ≤ s.leg ∧ s.leg < 1000000)
/-- It lies in block g. -/
def SpAt (w : World) (g : Nat) (s : Sp) : Prop := ∃ ar ai sr si : Nat, Cz ar ai s.x s.y ∧ Cz sr si s.dx s.dy ∧
  Blk w g 51 #[.complex .f64 ar ai, .complex .f64 sr si, .int .i64 s.left, .int .i64 s.leg, .bool s.sec]

set_option maxRecDepth 100000 in
set_option maxHeartbeats 1000000 in
theorem plane_start (w : World) :
    Calls Try.prog 27 #[] w fun e w' => ∃ g, e = .returned (.pointer (some ⟨g, 0, none⟩)) ∧ w.heap.size ≤ g ∧ SpAt w' g Sp.start ∧ Below w.heap.size w w' := by
  go_enter Try.func27, Try.ntmps27
  go_wp2_with fail
  go_ret
  exact ⟨_, rfl, Nat.le_refl _, ⟨0, 0, 4607182418800017408, 0, ⟨fz_zero, fz_zero⟩, ⟨fz_one, fz_zero⟩, Blk.new _ _ _⟩, (Below.refl _ _).alloc (Nat.le_refl _) _⟩

theorem store_complex (P : Program) (w : World) (a : Addr) (m : Mode) (k : FloatKind) (x y : Nat) : (store a (.complex k x y) m).run P w = stored P w a (.complex k x y) m := run_store P w a _ m rfl
attribute [local go_sem] store_complex

theorem grown_set {w w' : World} {g : Nat} (h : w.grownBy w' (some g)) (i : Nat) (v : Value) : w.grownBy (w'.setCell ⟨g, i, none⟩ v) (some g) :=
  ⟨h.os, h.tape, h.output, by have := h.size; simpa using this, fun j hj hk => (heap_setCell_other w' ⟨g, i, none⟩ j _ (fun e => hk (by simp [e]))).trans (h.block j hj hk)⟩

set_option maxRecDepth 100000 in
set_option maxHeartbeats 2000000 in
theorem plane_on (g : Nat) (s : Sp) (w : World) (h : SpAt w g s) (hs : s.small) :
    Calls Try.prog 28 #[.pointer (some ⟨g, 0, none⟩)] w fun e w' => (∃ v, e = .returned v) ∧ SpAt w' g s.on ∧ w.grownBy w' (some g) := by
  obtain ⟨x, y, dx, dy, left, leg, sec⟩ := s
  obtain ⟨ar, ai, sr, si, hz1, hz2, hB⟩ := h
  obtain ⟨b1, b2, b3, b4, b5, b6⟩ := hs
  simp only at b1 b2 b3 b4 b5 b6 hz1 hz2 hB
  obtain ⟨ar', ai', hc, hz3⟩ := cz_add hz1 hz2 (by omega) (by omega)
  have hop := fun t w => run_complex_sum (P := Try.prog) w .add (Or.inl rfl) t .f64 ar ai sr si ar' ai' hc
  have c0 := hB.cell 0
  have c1 := hB.cell 1
  have c2 := hB.cell 2
  have c3 := hB.cell 3
  have c4 := hB.cell 4
  have f0 := hB.frozen 0
  simp at c0 c1 c2 c3 c4
  go_enter Try.func28, Try.ntmps28
  go_wp2_with (simp only [hop])
  go_still_tail 11, (by kernel_rfl)
  change wpList _ _ _ _ _ w.drew
  clear c0 c1 c2 c3 c4 f0 hop hc
  have hB2 : Blk w.drew g 51 #[.complex .f64 ar ai, .complex .f64 sr si, .int .i64 left, .int .i64 leg, .bool sec] := hB
  have hG : w.grownBy w.drew (some g) := ⟨rfl, rfl, rfl, Nat.le_refl _, fun _ _ _ => rfl⟩
  clear hB
  generalize w.drew = w2 at *
  have f0 := hB2.frozen 0
  have f1 := hB2.frozen 1
  have f2 := hB2.frozen 2
  have f3 := hB2.frozen 3
  have f4 := hB2.frozen 4
  have c0 := hB2.cell 0
  have c1 := hB2.cell 1
  have c2 := hB2.cell 2
  have c3 := hB2.cell 3
  have c4 := hB2.cell 4
  simp at c0 c1 c2 c3 c4
  have HB := Lib.hid hB2
  have HG := Lib.hid hG
  clear hB2 hG
  by_cases hl : 0 < left - 1
  · go_wp2_with fail
    (try simp only [Exit.inBlock, Exit.then])
    refine bodyPost_ret (results_none rfl _ _ _) rfl ?_
    refine ⟨⟨_, rfl⟩, ?_, grown_set (grown_set HG.out _ _) _ _⟩
    rw [Sp.on, if_pos hl]
    exact ⟨ar', ai', sr, si, hz3, hz2, (HB.out.set 0 _).set 2 _⟩
  · have hn : ¬ 1 < left := by omega
    have HN := Lib.hid hn
    go_wp2_with fail
    refine (plane_turn sr si dx dy 1 (by omega) _ hz2 (by omega) (by omega)).mono ?_
    rintro e w3 ⟨r2, i2, rfl, hz, rfl⟩
    have HT : Hid (Cz r2 i2 (-dy) dx) := Lib.hid hz
    clear hz
    have HZ3 := Lib.hid hz3
    have HHL := Lib.hid hl
    clear hz3 hl
    cases sec
    · go_wp2_with fail
      go_end0
      refine ⟨⟨_, rfl⟩, ?_, grown_set (grown_set (grown_set (grown_set (grown_set HG.out _ _) _ _) _ _) _ _) _ _⟩
      rw [Sp.on, if_neg (Int.not_lt.2 HHL.out)]
      exact ⟨ar', ai', r2, i2, HZ3.out, HT.out, ((((HB.out.set 0 _).set 2 _).set 1 _).set 4 _).set 2 _⟩
    · go_wp2_with fail
      go_end0
      refine ⟨⟨_, rfl⟩, ?_, grown_set (grown_set (grown_set (grown_set (grown_set (grown_set HG.out _ _) _ _) _ _) _ _) _ _) _ _⟩
      rw [Sp.on, if_neg (Int.not_lt.2 HHL.out)]
      exact ⟨ar', ai', r2, i2, HZ3.out, HT.out, (((((HB.out.set 0 _).set 2 _).set 1 _).set 3 _).set 4 _).set 2 _⟩
end Go.Proofs.Ytmaofhbnmkcimaa
