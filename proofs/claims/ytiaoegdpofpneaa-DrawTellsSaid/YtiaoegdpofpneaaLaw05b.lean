/- The walks of wellspringlaw05.DrawTells and its fellows. -/
import Derived.Test.YtiaoegdpofpneaaDraw
import Derived.Test.YtiaoegdpofpneaaKeep
namespace Go.Proofs.Ytiaoegdpofpneaa
open Go.RowKit
set_option linter.unusedVariables false

set_option maxRecDepth 100000 in
set_option maxHeartbeats 2000000 in
theorem drawTells_walk (w : World) (sd : Int) (hsd : 0 ≤ sd ∧ sd ≤ 18446744073709551615) (a1 : Option Addr) (len1 cap1 : Nat) (z1 : List Int) (s1 : Rd w w.heap.size a1 len1 (z1.map (Value.int .i64)))
    (c1 : len1 ≤ cap1 ∧ cap1 ≤ maxLen ∧ (a1 = none → cap1 = 0)) (b1 : ∀ z ∈ z1, (Lit.int .i64 z).wf = true) :
    Calls Try.prog 4 #[.int .u64 sd, .slice a1 len1 cap1] w fun e w' => e = .returned (.bool true) ∧ Below w.heap.size w w' := by
  have hl : len1 ≤ 9223372036854775807 := by have := c1.1; have := c1.2.1; unfold maxLen at *; omega
  have hz : z1.length = len1 := by simpa using s1.1
  have HZ := Lib.hid hz
  have S1 := Lib.hid s1
  clear hz s1 c1
  go_enter Try.func4, Try.ntmps4
  go_wp2_with fail
  refine (draw_new _ _ (by omega) (by omega)).mono ?_
  rintro e w1 ⟨rfl, rfl⟩
  go_wp2_with fail
  have hs : 0 ≤ sd % 4294967296 ∧ sd % 4294967296 ≤ 4294967295 := by omega
  generalize sd % 4294967296 = s0 at *
  generalize hw0 : (w.alloc (Obj.cells #[Value.int IntKind.u64 s0] 74)).alloc (Obj.cells #[Value.int IntKind.u64 s0] 34) = w0
  go_loopw [7] (fun i wr => ∃ (k : Nat) (s : Int), k ≤ len1 ∧ i = .int .i64 k ∧ wr.cell? ⟨w.heap.size, 0, none⟩ = some (.int .u64 s) ∧ wr.frozen? ⟨w.heap.size, 0, none⟩ = false ∧ wr.cell? ⟨w.heap.size + 1, 0, none⟩ = some (.int .u64 s) ∧ wr.frozen? ⟨w.heap.size + 1, 0, none⟩ = false ∧ Below w.heap.size w wr)
    (fun i _ => len1 - (intOf i).toNat)
  case atStart =>
    subst hw0
    exact ⟨0, s0, by omega, rfl, by simp [go_sem], by simp [go_sem], by simp [go_sem], by simp [go_sem], ((Below.refl _ _).alloc (Nat.le_refl _) _).alloc (by simp) _⟩
  case round =>
    obtain ⟨k, s, hk, rfl, hc0, hf0, hc1, hf1, hb⟩ := hrel
    clear hw0
    by_cases hlt : (k : Int) < len1
    · by_cases h60 : (k : Int) < 60
      · by_cases h4 : (k : Int) % 4 = 3
        · have h4' : ((k : Int) % 4 == 3) = true := by simpa using h4
          have H4 := Lib.hid h4
          clear h4
          go_wp2_with fail
          refine (draw_next s _ _ hc0 hf0).mono ?_
          rintro e w1 ⟨rfl, rfl⟩
          go_wp2_with fail
          refine (rdraw_next s _ _ (by go_simp) (by go_simp)).mono ?_
          rintro e w1 ⟨rfl, rfl⟩
          go_wp2_with fail
          go_roundw
          case rel => exact ⟨k + 1, nxt s, by omega, by go_num, by go_simp, by go_simp, by go_simp, by go_simp, (hb.setCell (by simp) _).setCell (by simp) _⟩
          case measure => simp [intOf]; omega
        · have h4' : ((k : Int) % 4 == 3) = false := by simpa using h4
          have H4 := Lib.hid h4
          clear h4
          obtain ⟨bx, ox, rfl, hbx, hcx⟩ := S1.out.2 (by omega)
          have hkx : k < z1.length := by rw [HZ.out]; omega
          have cx := (hb.cell (p := ⟨bx, ox + k, none⟩) hbx).trans (hcx k (.int .i64 z1[k]) (by simp [hkx]))
          have bd := bounds_i64 (b1 z1[k] (List.getElem_mem hkx))
          generalize z1[k] = z at *
          clear hkx hcx S1
          have hn0 : w.heap.size ≠ bx := by omega
          have hn1 : w.heap.size + 1 ≠ bx := by omega
          go_wp2_with fail
          go_region_held3 (fun w' => w'.cell? ⟨bx, ox + k, none⟩ = some (.int .i64 z)) (go_keep)
            (first
              | (go_at_call 23; refine (draw_below s _ _ _ (by go_simp) (by go_simp) bd).mono ?_; rintro e w1 ⟨rfl, rfl⟩)
              | (go_at_call 24; refine (rdraw_below s _ _ _ (by go_simp) (by go_simp) bd).mono ?_; rintro e w1 ⟨rfl, rfl⟩))
          go_wp2_with fail
          go_roundw
          case rel => exact ⟨k + 1, bst s z, by omega, by go_num, by go_simp, by go_simp, by go_simp, by go_simp, ((hb.setCell (by simp) _).setCell (by simp) _).drew⟩
          case measure => simp [intOf]; omega
      · go_wp2_with fail
        refine (draw_next s _ _ hc0 hf0).mono ?_
        rintro e w1 ⟨rfl, rfl⟩
        go_wp2_with fail
        refine (rdraw_next s _ _ (by go_simp) (by go_simp)).mono ?_
        rintro e w1 ⟨rfl, rfl⟩
        go_wp2_with fail
        refine (wakes05 _).mono ?_
        rintro e w2 ⟨rfl, hb2⟩
        go_wp2_with fail
        go_ret
        exact ⟨rfl, ((hb.setCell (by simp) _).setCell (by simp) _).trans (hb2.mono (by have := hb.size; simpa using this))⟩
    · go_wp2_with fail
      refine (draw_next s _ _ hc0 hf0).mono ?_
      rintro e w1 ⟨rfl, rfl⟩
      go_wp2_with fail
      refine (rdraw_next s _ _ (by go_simp) (by go_simp)).mono ?_
      rintro e w1 ⟨rfl, rfl⟩
      go_wp2_with fail
      refine (wakes05 _).mono ?_
      rintro e w2 ⟨rfl, hb2⟩
      go_wp2_with fail
      go_ret
      exact ⟨rfl, ((hb.setCell (by simp) _).setCell (by simp) _).trans (hb2.mono (by have := hb.size; simpa using this))⟩
end Go.Proofs.Ytiaoegdpofpneaa
