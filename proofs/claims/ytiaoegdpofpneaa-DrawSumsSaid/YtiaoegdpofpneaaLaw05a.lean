/- The walk of wellspringlaw05.DrawSums. -/
import Derived.Test.YtiaoegdpofpneaaDraw
namespace Go.Proofs.Ytiaoegdpofpneaa
open Go.RowKit

theorem info_u32 : (Try.prog.info? 23).map (fun i => (i.zero, i.size, i.bytes)) = some (some (.int .u32 0), 1, 4) := by kernel_rfl

def sums (x y : Int) : List Int := [x, y, x + y, 0]
theorem sums_len (x y : Int) : (sums x y).length = 4 := rfl
theorem sums_bd (x y : Int) (hx : 0 ≤ x ∧ x ≤ 2147483647) (hy : 0 ≤ y ∧ y ≤ 2147483647) (k : Nat) : 0 ≤ (sums x y).getD k 0 ∧ (sums x y).getD k 0 ≤ 4294967295 := by
  unfold sums
  match k with
  | 0 => simp; omega
  | 1 => simp; omega
  | 2 => simp; omega
  | 3 => simp
  | k + 4 => simp
def outs (x y : Int) (k : Nat) : List Value := ((sums x y).take k).map fun s => Value.int .u32 (outOf s)
theorem outs_succ (x y : Int) (k : Nat) (h : k < 4) : outs x y (k + 1) = outs x y k ++ [Value.int .u32 (outOf ((sums x y).getD k 0))] := by
  unfold outs
  rw [List.take_succ_eq_append_getElem (by simpa [sums] using h), List.map_append]
  simp [List.getD, List.getElem?_eq_getElem (show k < (sums x y).length by simpa [sums] using h)]
theorem outs_len (x y : Int) (k : Nat) (h : k ≤ 4) : (outs x y k).length = k := by
  simp [outs, sums]; omega

theorem by_core (X Y Z W k : Int) (h : X + Y = Z + W + 18446744073709551616 * k) :
    (X / 4294967296 + Y / 4294967296 - Z / 4294967296 - W / 4294967296 + 1) % 4294967296 ≤ 2 := by
  have h1 : X / 4294967296 + Y / 4294967296 - Z / 4294967296 - W / 4294967296 - 4294967296 * k ≤ 1 := by omega
  have h2 : -1 ≤ X / 4294967296 + Y / 4294967296 - Z / 4294967296 - W / 4294967296 - 4294967296 * k := by omega
  generalize X / 4294967296 + Y / 4294967296 - Z / 4294967296 - W / 4294967296 = t at *
  have : (t + 1) % 4294967296 = (t - 4294967296 * k + 1) % 4294967296 := by omega
  rw [this]; omega
theorem by_lin (x y : Int) : ∃ k : Int, nxt x + nxt y = nxt (x + y) + nxt 0 + 18446744073709551616 * k := by
  simp only [nxt, IntKind.wrap_u64, Int.emod_add_emod]
  exact ⟨-((x * 6364136223846793005 + 1442695040888963407) / 18446744073709551616) - ((y * 6364136223846793005 + 1442695040888963407) / 18446744073709551616) + (((x + y) * 6364136223846793005 + 1442695040888963407) / 18446744073709551616) + ((0 * 6364136223846793005 + 1442695040888963407) / 18446744073709551616), by omega⟩
theorem by_law (x y : Int) : (outOf x + outOf y - outOf (x + y) - outOf 0 + 1) % 4294967296 ≤ 2 := by
  obtain ⟨k, hk⟩ := by_lin x y
  exact by_core _ _ _ _ k hk

set_option maxRecDepth 100000 in
set_option maxHeartbeats 1000000 in
theorem drawSums_walk (a : Int) (_ha : 0 ≤ a ∧ a ≤ 18446744073709551615) (b : Int) (_hb : 0 ≤ b ∧ b ≤ 18446744073709551615) (w : World) :
    Calls Try.prog 3 #[.int .u64 a, .int .u64 b] w fun e w' => e = .returned (.bool true) ∧ Below w.heap.size w w' := by
  obtain ⟨i0, hi, hz0, hz1, hz2⟩ := info_parts info_u32
  go_enter Try.func3, Try.ntmps3
  go_wp2_with fail
  have hx : 0 ≤ a % 4294967296 / 2 ∧ a % 4294967296 / 2 ≤ 2147483647 := by omega
  have hy : 0 ≤ b % 4294967296 / 2 ∧ b % 4294967296 / 2 ≤ 2147483647 := by omega
  generalize a % 4294967296 / 2 = x at *
  generalize b % 4294967296 / 2 = y at *
  generalize hw0 : w.alloc (Obj.cells #[Value.int IntKind.u32 x, Value.int IntKind.u32 y, Value.int IntKind.u32 (x + y), Value.int IntKind.u32 0] 23) = w0
  have hsz : w.heap.size + 1 ≤ w0.heap.size := by subst hw0; simp
  have hbel0 : Below w.heap.size w w0 := by subst hw0; exact (Below.refl _ _).alloc (Nat.le_refl _) _
  have hc0 : Hid (∀ k, k < 4 → w0.cell? ⟨w.heap.size, k, none⟩ = some (.int .u32 ((sums x y).getD k 0))) := by
    intro k hk
    subst hw0
    rw [cell_lit]
    match k, hk with
    | 0, _ => rfl
    | 1, _ => rfl
    | 2, _ => rfl
    | 3, _ => rfl
  clear hw0
  go_loopw [7, 25] (fun v i wr => ∃ k : Nat, k ≤ 4 ∧ i = .int .i64 k ∧ wr.ownsRow (w.heap.size + 1) 23 1 v k (outs x y k) ∧ Below (w.heap.size + 1) w0 wr)
    (fun _ i _ => 4 - (intOf i).toNat)
  case atStart => exact ⟨0, by omega, rfl, World.ownsRow_nil _ _ _ _, Below.refl _ _⟩
  case round =>
    obtain ⟨k, hk, rfl, hown, hbel⟩ := hrel
    by_cases hlt : k < 4
    · have hcell : wr.cell? ⟨w.heap.size, k, none⟩ = some (.int .u32 ((sums x y).getD k 0)) := (hbel.cell (by exact Nat.lt_succ_self _)).trans (hc0.out k hlt)
      have hos := Lib.hid (outs_succ x y k hlt)
      have hsb := sums_bd x y hx hy k
      generalize (sums x y).getD k 0 = s at *
      have hws : w.heap.size + 1 ≤ wr.heap.size := Nat.le_trans hsz hbel.size
      go_wp2_with fail
      refine (draw_new s _ (by omega) (by omega)).mono ?_
      rintro e w1 ⟨rfl, rfl⟩
      go_wp2_with fail
      refine (draw_next s _ _ (by go_simp) (by go_simp)).mono ?_
      rintro e w1 ⟨rfl, rfl⟩
      go_wp2_with (at_builtin; refine wp_app1 _ rfl _ _ 24 rfl (w.heap.size + 1) 23 (.int .u32 0) 4 Try.underlying24 info_u32 rfl _ k (outs x y k) rfl ?o1 _ (.int .u32 (outOf s)) rfl ?o2 rfl ?o3 ?o4 ?o5 ?_)
      case o1 => exact (hown.alloc _).alloc _
      case o2 => rw [show wr.heap.size + 1 = (wr.alloc (Obj.cells #[Value.int IntKind.u64 (nxt s)] 74)).heap.size by simp, cell_lit]; rfl
      case o3 => omega
      case o4 => unfold maxLen; omega
      case o5 => simp; omega
      intro v1 w1 hown1 hg1 _
      rw [← hos.out] at hown1
      have hb1 : Below (w.heap.size + 1) w0 w1 := ((hbel.alloc hws _).alloc (by simp; omega) _).grown hg1 (by simp; omega) (fun g hg => (hown.lt g hg).1)
      clear hg1 hos hown hcell
      go_wp2_with fail
      go_roundw
      case rel => exact ⟨k + 1, by omega, by go_num, hown1, hb1⟩
      case measure => simp [intOf]; omega
    · obtain rfl : k = 4 := by omega
      have hlaw := by_law x y
      obtain ⟨g, cap, hv, _, hglt⟩ := hown.form (by omega)
      subst hv
      have h0 := (hown.cellAt 0 (by omega)).trans (show (outs x y 4)[0]? = some (.int .u32 (outOf x)) from rfl)
      have h1 := (hown.cellAt 1 (by omega)).trans (show (outs x y 4)[1]? = some (.int .u32 (outOf y)) from rfl)
      have h2 := (hown.cellAt 2 (by omega)).trans (show (outs x y 4)[2]? = some (.int .u32 (outOf (x + y))) from rfl)
      have h3 := (hown.cellAt 3 (by omega)).trans (show (outs x y 4)[3]? = some (.int .u32 (outOf 0)) from rfl)
      have hbw : Below w.heap.size w wr := hbel0.trans (hbel.mono (Nat.le_succ _))
      have hbd0 := outOf_bd x
      have hbd1 := outOf_bd y
      have hbd2 := outOf_bd (x + y)
      have hbd3 := outOf_bd 0
      clear hown hbel hbel0 hc0
      go_wp2_with fail
      go_quiet (fail)
      go_wp2_with fail
      refine (wakes05 _).mono ?_
      rintro e w2 ⟨rfl, hb2⟩
      go_wp2_with fail
      go_ret
      exact ⟨rfl, (below_drewN hbw _).trans (hb2.mono (by have := hbw.size; simp; omega))⟩
end Go.Proofs.Ytiaoegdpofpneaa
