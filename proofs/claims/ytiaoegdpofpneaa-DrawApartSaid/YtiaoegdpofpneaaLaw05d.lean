/- The walk of wellspringlaw05.DrawApart. -/
import Derived.Test.YtiaoegdpofpneaaDraw
import Derived.Test.YtiaoegdpofpneaaKeep
namespace Go.Proofs.Ytiaoegdpofpneaa
open Go.RowKit
set_option linter.unusedVariables false

theorem info_u32' : (Try.prog.info? 23).map (fun i => (i.zero, i.size, i.bytes)) = some (some (.int .u32 0), 1, 4) := by kernel_rfl

/-- The state behind k numbers; the first k numbers. -/
def adv (s : Int) : Nat → Int | 0 => s | k + 1 => nxt (adv s k)
def told (s : Int) : Nat → List Int | 0 => [] | k + 1 => told s k ++ [outOf (adv s k)]
theorem told_len (s : Int) (k : Nat) : (told s k).length = k := by
  induction k with
  | zero => rfl
  | succ k ih => simp [told, ih]

set_option maxRecDepth 100000 in
set_option maxHeartbeats 4000000 in
theorem drawApart_walk (w : World) (sd : Int) (hsd : 0 ≤ sd ∧ sd ≤ 18446744073709551615) (n : Int) (hn : -9223372036854775808 ≤ n ∧ n ≤ 9223372036854775807) (k0 : Int) (hk0 : -9223372036854775808 ≤ k0 ∧ k0 ≤ 9223372036854775807) :
    Calls Try.prog 6 #[.int .u64 sd, .int .i64 n, .int .i64 k0] w fun e w' => e = .returned (.bool true) ∧ Below w.heap.size w w' := by
  go_enter Try.func6, Try.ntmps6
  go_wp2_with fail
  refine (draw_new _ _ (by omega) (by omega)).mono ?_
  rintro e w1 ⟨rfl, rfl⟩
  go_wp2_with fail
  have hs : 0 ≤ sd % 4294967296 ∧ sd % 4294967296 ≤ 4294967295 := by omega
  generalize sd % 4294967296 = s0 at *
  generalize hw0 : (w.alloc (Obj.cells #[Value.int IntKind.u64 s0] 74)) = w0
  have hm0 := Int.emod_nonneg n (show (50 : Int) ≠ 0 by omega)
  have hm1 := Int.emod_lt_of_pos n (show (0 : Int) < 50 by omega)
  have hq : ∀ w : World, Calls Try.prog 25 #[.int .i64 n, .int .i64 50] w fun e w' => e = .returned (.int .i64 (n % 50)) ∧ w = w' := fun w => keep_within n 50 w hn (by omega) (by omega)
  generalize n % 50 = m at *
  have HQ := Lib.hid hq
  clear hq
  go_loopw [8] (fun i wr => ∃ (k : Nat) (s : Int), (k : Int) ≤ m ∧ i = .int .i64 k ∧ wr.cell? ⟨w.heap.size, 0, none⟩ = some (.int .u64 s) ∧ wr.frozen? ⟨w.heap.size, 0, none⟩ = false ∧ w.heap.size < wr.heap.size ∧ Below w.heap.size w wr)
    (fun i _ => (m - intOf i).toNat)
  case atStart =>
    subst hw0
    exact ⟨0, s0, by omega, rfl, by simp [go_sem], by simp [go_sem], by simp, ((Below.refl _ _).alloc (Nat.le_refl _) _)⟩
  case round =>
    obtain ⟨k, s, hk, rfl, hc0, hf0, hz0, hb⟩ := hrel
    clear hw0
    by_cases hlt : (k : Int) < m
    · go_wp2_with fail
      refine (HQ.out _).mono ?_
      rintro e w1 ⟨rfl, rfl⟩
      go_wp2_with fail
      refine (draw_next s _ _ (by go_simp) (by go_simp)).mono ?_
      rintro e w1 ⟨rfl, rfl⟩
      go_wp2_with fail
      go_roundw
      case rel => exact ⟨k + 1, nxt s, by omega, by go_num, by go_simp, by go_simp, by simpa using hz0, (hb.setCell (by simp) _)⟩
      case measure => simp [intOf]; omega
    · go_wp2_with fail
      refine (HQ.out _).mono ?_
      rintro e w1 ⟨rfl, rfl⟩
      clear HQ
      go_wp2_with fail
      refine (draw_clone s _ _ (by go_simp)).mono ?_
      rintro e w1 ⟨rfl, rfl⟩
      go_wp2_with fail
      refine (keep_within k0 20 _ hk0 (by omega) (by omega)).mono ?_
      rintro e w1 ⟨rfl, rfl⟩
      have hp0 := Int.emod_nonneg k0 (show (20 : Int) ≠ 0 by omega)
      have hp1 := Int.emod_lt_of_pos k0 (show (0 : Int) < 20 by omega)
      obtain ⟨q, hq⟩ := Int.eq_ofNat_of_zero_le hp0
      rw [hq] at hp1 ⊢
      clear hq hp0
      go_wp2_with fail
      obtain ⟨wo, rfl⟩ : ∃ wo : World, wo = wr := ⟨_, rfl⟩
      have aD : At (wo.alloc (Obj.cells #[Value.int IntKind.u64 s] 74)) ⟨w.heap.size, 0, none⟩ (.int .u64 s) := At.alloc ⟨hc0, hf0⟩ _
      have aC : At (wo.alloc (Obj.cells #[Value.int IntKind.u64 s] 74)) ⟨wo.heap.size, 0, none⟩ (.int .u64 s) := At.new _ _ _
      have bW : Below w.heap.size w (wo.alloc (Obj.cells #[Value.int IntKind.u64 s] 74)) := hb.alloc (by omega) _
      have zW : wo.heap.size + 1 ≤ (wo.alloc (Obj.cells #[Value.int IntKind.u64 s] 74)).heap.size := by simp
      generalize wo.alloc (Obj.cells #[Value.int IntKind.u64 s] 74) = w3 at *
      generalize hC : wo.heap.size = C at *
      clear hC hb hc0 hf0 hk
      go_loopw [10, 13] (fun v i wr => ∃ (k : Nat), k ≤ 1 + q ∧ i = .int .i64 k ∧ wr.ownsRow (C + 1) 23 1 v k ((told s k).map (Value.int .u32)) ∧ At wr ⟨w.heap.size, 0, none⟩ (.int .u64 s) ∧
          At wr ⟨C, 0, none⟩ (.int .u64 (adv s k)) ∧ Below w.heap.size w wr ∧ C + 1 ≤ wr.heap.size)
        (fun _ i _ => 1 + q - (intOf i).toNat)
      case atStart => exact ⟨0, by omega, rfl, World.ownsRow_nil _ _ _ _, aD, aC, bW, zW⟩
      case round =>
        clear aD aC bW zW
        obtain ⟨k, hk, rfl, hown, aD, aC, bW, zW⟩ := hrel
        by_cases hlt : k < 1 + q
        · obtain ⟨hc, hf⟩ := aC
          go_wp2_with fail
          refine (draw_next (adv s k) _ _ hc hf).mono ?_
          rintro e w1 ⟨rfl, rfl⟩
          go_wp2_with (at_builtin; refine wp_app1 _ rfl _ _ 24 rfl (C + 1) 23 (.int .u32 0) 4 Try.underlying24 info_u32' rfl _ k ((told s k).map (Value.int .u32)) rfl ?o1 _ (.int .u32 (outOf (adv s k))) rfl ?o2 rfl ?o3 ?o4 ?o5 ?_)
          case o1 => exact (ownsRow_setCell_below hown (a := ⟨C, 0, none⟩) (Nat.lt_succ_self _) _).alloc _
          case o2 => go_simp
          case o3 => omega
          case o4 => unfold maxLen; omega
          case o5 => simp; omega
          intro v1 w1 hown1 hg1 _
          have aC1 := (((show At wr _ _ from ⟨hc, hf⟩).put (.int .u64 (nxt (adv s k)))).alloc _).grown hg1 (ne_own hown (Nat.lt_succ_self _))
          have aD1 := ((aD.far (q := ⟨C, 0, none⟩) (by simp; omega) (.int .u64 (nxt (adv s k)))).alloc _).grown hg1 (ne_own hown (by simp; omega))
          have bW1 := ((bW.setCell (p := ⟨C, 0, none⟩) (by simp; omega) (.int .u64 (nxt (adv s k)))).alloc (by simp; omega) _).grown hg1 (by simp; omega) (fun g hg => by have := (hown.lt g hg).1; omega)
          have zW1 := hg1.size
          simp at zW1
          clear hg1 hown aD bW hc hf
          go_wp2_with fail
          go_roundw
          case rel => exact ⟨k + 1, by omega, by go_num, by simpa [told] using hown1, aD1, aC1, bW1, by omega⟩
          case measure => simp [intOf]; omega
        · obtain rfl : k = 1 + q := by omega
          clear hk
          go_wp2_with fail
          have ec : ((1 + q : Nat) : Int) = 1 + (q : Int) := by omega
          rw [ec]
          clear ec
          obtain ⟨wp, rfl⟩ : ∃ wp : World, wp = wr := ⟨_, rfl⟩
          have hA : ∀ g, u10.ownBlock = some g → g < wp.heap.size := fun g hg => (hown.lt g hg).2
          have HA := Lib.hid hA
          clear hA
          generalize hE : wp.heap.size = E at *
          have zE : E ≤ wp.heap.size := by omega
          clear hE aC
          go_loopw [11, 14] (fun v i wr => ∃ (k : Nat), k ≤ 1 + q ∧ i = .int .i64 k ∧ wr.ownsRow (C + 1) 23 1 u10 (1 + q) ((told s (1 + q)).map (Value.int .u32)) ∧ wr.ownsRow E 23 1 v k ((told s k).map (Value.int .u32)) ∧ At wr ⟨w.heap.size, 0, none⟩ (.int .u64 (adv s k)) ∧
              Below w.heap.size w wr ∧ E ≤ wr.heap.size)
            (fun _ i _ => 1 + q - (intOf i).toNat)
          case atStart => exact ⟨0, by omega, rfl, hown, World.ownsRow_nil _ _ _ _, aD, bW, zE⟩
          case round =>
            clear hown aD bW zE
            obtain ⟨k, hk, rfl, howa, hown, aD, bW, zE⟩ := hrel
            by_cases hlt : k < 1 + q
            · obtain ⟨hc, hf⟩ := aD
              go_wp2_with fail
              refine (draw_next (adv s k) _ _ hc hf).mono ?_
              rintro e w1 ⟨rfl, rfl⟩
              go_wp2_with (at_builtin; refine wp_app1 _ rfl _ _ 24 rfl E 23 (.int .u32 0) 4 Try.underlying24 info_u32' rfl _ k ((told s k).map (Value.int .u32)) rfl ?p1 _ (.int .u32 (outOf (adv s k))) rfl ?p2 rfl ?p3 ?p4 ?p5 ?_)
              case p1 => exact (ownsRow_setCell_below hown (a := ⟨w.heap.size, 0, none⟩) (by simp; omega) _).alloc _
              case p2 => go_simp
              case p3 => omega
              case p4 => unfold maxLen; omega
              case p5 => simp; omega
              intro v1 w1 hown1 hg1 _
              have aD1 := (((show At wr _ _ from ⟨hc, hf⟩).put (.int .u64 (nxt (adv s k)))).alloc _).grown hg1 (ne_own hown (by simp; omega))
              have howa1 := own_kept ((ownsRow_setCell_below howa (a := ⟨w.heap.size, 0, none⟩) (by simp; omega) (.int .u64 (nxt (adv s k)))).alloc _) hg1 HA.out (fun g hg => (hown.lt g hg).1)
              have bW1 := ((bW.setCell (p := ⟨w.heap.size, 0, none⟩) (by simp) (.int .u64 (nxt (adv s k)))).alloc (by simp; omega) _).grown hg1 (by simp; omega) (fun g hg => by have := (hown.lt g hg).1; omega)
              have zE1 := hg1.size
              simp at zE1
              clear hg1 hown howa bW hc hf
              go_wp2_with fail
              go_roundw
              case rel => exact ⟨k + 1, by omega, by go_num, howa1, by simpa [told] using hown1, aD1, bW1, by omega⟩
              case measure => simp [intOf]; omega
            · obtain rfl : k = 1 + q := by omega
              clear hk HA aD
              go_wp2_with fail
              obtain ⟨xa, xc, rfl, hxa⟩ := rd_of_own howa
              obtain ⟨ya, yc, rfl, hxb⟩ := rd_of_own hown
              clear howa hown
              refine (same_u32 _ _ _ _ _ _ _ _ _ hxa hxb (by unfold maxLen; omega) (by unfold maxLen; omega)).mono ?_
              rintro e w1 ⟨rfl, j, rfl⟩
              rw [decide_eq_true rfl]
              clear hxa hxb
              have bW1 := below_drewN bW j
              have zE1 : E ≤ (wr.drewN j).heap.size := zE
              generalize wr.drewN j = w5 at *
              go_wp2_with fail
              refine (draw_next_nil _).mono ?_
              rintro e w1 ⟨rfl, rfl⟩
              go_wp2_with fail
              refine (draw_below_nil _ _).mono ?_
              rintro e w1 ⟨rfl, rfl⟩
              go_wp2_with fail
              refine (draw_clone_nil _).mono ?_
              rintro e w1 ⟨rfl, rfl⟩
              go_wp2_with fail
              refine (wakes05 _).mono ?_
              rintro e w2 ⟨rfl, hb2⟩
              go_wp2_with fail
              go_ret
              exact ⟨rfl, bW1.trans (hb2.mono (by have := bW1.size; omega))⟩
end Go.Proofs.Ytiaoegdpofpneaa
