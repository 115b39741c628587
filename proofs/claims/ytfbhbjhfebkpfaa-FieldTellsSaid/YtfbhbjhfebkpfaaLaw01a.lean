/- The walks of wellspringlaw01.FieldLaws, FieldSquares. -/
import Derived.Test.YtfbhbjhfebkpfaaGfC
namespace Go.Proofs.Ytfbhbjhfebkpfaa
open Go.RowKit
set_option linter.unusedVariables false

theorem wakes_fm : fm 2 128 = 27 := by decide +kernel

set_option maxRecDepth 100000 in
set_option maxHeartbeats 1000000 in
theorem wakes01 (w : World) : Calls Try.prog 27 #[] w fun e w' => e = .returned (.bool true) ∧ Below w.heap.size w w' := by
  have hm := wakes_fm
  go_enter Try.func27, Try.ntmps27
  go_wp2_with fail
  refine (gf_new _).mono ?_
  rintro e w1 ⟨g1, rfl, hg1, hF1, hb1⟩
  go_wp2_with fail
  refine (gf_new _).mono ?_
  rintro e w2 ⟨g2, rfl, hg2, hF2, hb2⟩
  go_wp2_with fail
  refine (gf_mul g2 2 128 (by omega) (by omega) _ hF2).mono ?_
  rintro e w3 ⟨rfl, j, rfl⟩
  go_wp2_with fail
  go_ret
  exact ⟨rfl, below_drewN (hb1.trans (hb2.mono hb1.size)) _⟩

/-- Bytes as numbers. -/
theorem byte_nat {a : Int} (h : 0 ≤ a ∧ a ≤ 255) : ∃ n : Nat, a = (n : Int) ∧ n < 256 := by
  obtain ⟨n, rfl⟩ := Int.eq_ofNat_of_zero_le h.1
  exact ⟨n, rfl, by omega⟩

set_option maxRecDepth 100000 in
set_option maxHeartbeats 4000000 in
theorem fieldLaws_walk (w : World) (x : Int) (hx : 0 ≤ x ∧ x ≤ 255) (y : Int) (hy : 0 ≤ y ∧ y ≤ 255) (z : Int) (hz : 0 ≤ z ∧ z ≤ 255) :
    Calls Try.prog 3 #[.int .u8 x, .int .u8 y, .int .u8 z] w fun e w' => e = .returned (.bool true) ∧ Below w.heap.size w w' := by
  obtain ⟨a, rfl, ha⟩ := byte_nat hx
  obtain ⟨b, rfl, hb⟩ := byte_nat hy
  obtain ⟨c, rfl, hc⟩ := byte_nat hz
  clear hx hy hz
  have e1 : b ^^^ a = a ^^^ b := Nat.xor_comm _ _
  have e2 : fm b a = fm a b := fm_comm _ _
  have e3 : (a ^^^ b) ^^^ c = a ^^^ (b ^^^ c) := Nat.xor_assoc _ _ _
  have e4 : fm (fm a b) c = fm a (fm b c) := fm_assoc a b c ha hb hc
  have e5 : fm a (b ^^^ c) = fm a b ^^^ fm a c := fm_xor ha hb hc
  have e6 : a ^^^ a = 0 := Nat.xor_self _
  have e7 : fm a 1 = a := fm_one a ha
  have e8 : fm a 0 = 0 := fm_zero_right a
  have hbc := xor_lt hb hc
  have hab := xor_lt ha hb
  have hq1 := fm_bd a b
  have hq2 := fm_bd a c
  have hq3 := fm_bd b c
  go_enter Try.func3, Try.ntmps3
  go_wp2_with fail
  refine (gf_new _).mono ?_
  rintro e w1 ⟨g, rfl, hg, hF, hb1⟩
  have HF := Lib.hid hF
  have HB := Lib.hid hb1
  clear hF hb1
  go_wp2_with (first
    | (go_at_call 25; (with_reducible refine (gf_addI _ _ _ _ ?_ ?_).mono ?_); (omega); (omega); rintro e w' ⟨rfl, rfl⟩)
    | (go_at_call 26; (with_reducible refine (gf_mulI g _ _ _ ?_ ?_ ?_).mono ?_); (omega); (omega); (exact HF.out); rintro e w' ⟨rfl, j, rfl⟩)
    | (go_at_call 27; (with_reducible refine (wakes01 _).mono ?_); rintro e w' ⟨rfl, hb2⟩))
  go_ret
  exact ⟨rfl, (below_drewN HB.out _).trans (hb2.mono (by simpa using HB.out.size))⟩

theorem beq_same {a b : Nat} (ha : a < 256) (hb : b < 256) : (((a : Int) == (b : Int)) == (((fm a a : Nat) : Int) == ((fm b b : Nat) : Int))) = true := by
  by_cases h : a = b
  · subst h; simp
  · have h1 : ((a : Int) == (b : Int)) = false := by simp; omega
    have h2 : (((fm a a : Nat) : Int) == ((fm b b : Nat) : Int)) = false := by
      rw [beq_eq_false_iff_ne]
      exact fun e => h (sq_inj ha hb (by omega))
    rw [h1, h2]; rfl

set_option maxRecDepth 100000 in
set_option maxHeartbeats 4000000 in
theorem fieldSquares_walk (w : World) (x : Int) (hx : 0 ≤ x ∧ x ≤ 255) (y : Int) (hy : 0 ≤ y ∧ y ≤ 255) :
    Calls Try.prog 4 #[.int .u8 x, .int .u8 y] w fun e w' => e = .returned (.bool true) ∧ Below w.heap.size w w' := by
  obtain ⟨a, rfl, ha⟩ := byte_nat hx
  obtain ⟨b, rfl, hb⟩ := byte_nat hy
  clear hx hy
  have hab := xor_lt ha hb
  have hq1 := fm_bd a a
  have hq2 := fm_bd b b
  have E1 := Lib.hid (sq_xor ha hb)
  have E2 := Lib.hid (beq_same ha hb)
  go_enter Try.func4, Try.ntmps4
  go_wp2_with fail
  refine (gf_new _).mono ?_
  rintro e w1 ⟨g, rfl, hg, hF, hb1⟩
  have HF := Lib.hid hF
  have HB := Lib.hid hb1
  clear hF hb1
  go_wp2_with (first
    | (go_at_call 25; (with_reducible refine (gf_addI _ _ _ _ ?_ ?_).mono ?_); (omega); (omega); rintro e w' ⟨rfl, rfl⟩)
    | (go_at_call 26; (with_reducible refine (gf_mulI g _ _ _ ?_ ?_ ?_).mono ?_); (omega); (omega); (exact HF.out); rintro e w' ⟨rfl, j, rfl⟩)
    | (go_at_call 29; (with_reducible refine (gf_invI g _ _ ?_ ?_).mono ?_); (omega); (exact HF.out); rintro e w' ⟨rfl, j, rfl⟩)
    | (go_at_call 27; (with_reducible refine (wakes01 _).mono ?_); rintro e w' ⟨rfl, hb2⟩))
  go_loopw [7, 8] (fun x i wr => ∃ (k j : Nat), k ≤ 8 ∧ i = .int .i64 k ∧ x = .int .u8 (sqI a k : Nat) ∧ wr = w1.drewN j) (fun _ i _ => 8 - (intOf i).toNat)
  case atStart => exact ⟨0, 0, by omega, rfl, rfl, rfl⟩
  case round =>
    obtain ⟨k, j, hk, rfl, rfl, rfl⟩ := hrel
    by_cases hlt : k < 8
    · have hs := sqI_bd ha k
      go_wp2_with (first
    | (go_at_call 25; (with_reducible refine (gf_addI _ _ _ _ ?_ ?_).mono ?_); (omega); (omega); rintro e w' ⟨rfl, rfl⟩)
    | (go_at_call 26; (with_reducible refine (gf_mulI g _ _ _ ?_ ?_ ?_).mono ?_); (omega); (omega); (exact HF.out); rintro e w' ⟨rfl, j, rfl⟩)
    | (go_at_call 29; (with_reducible refine (gf_invI g _ _ ?_ ?_).mono ?_); (omega); (exact HF.out); rintro e w' ⟨rfl, j, rfl⟩)
    | (go_at_call 27; (with_reducible refine (wakes01 _).mono ?_); rintro e w' ⟨rfl, hb2⟩))
      go_roundw
      case rel => exact ⟨k + 1, _, by omega, by go_num, by simp [sqI], by first | rfl | exact World.drewN_drewN _ _ _⟩
      case measure => simp [intOf]; omega
    · obtain rfl : k = 8 := by omega
      have hs := sqI_8 ha
      rw [hs]
      clear hs
      have e1 := E1.out
      have e2 := E2.out
      go_wp2_with (first
    | (go_at_call 25; (with_reducible refine (gf_addI _ _ _ _ ?_ ?_).mono ?_); (omega); (omega); rintro e w' ⟨rfl, rfl⟩)
    | (go_at_call 26; (with_reducible refine (gf_mulI g _ _ _ ?_ ?_ ?_).mono ?_); (omega); (omega); (exact HF.out); rintro e w' ⟨rfl, j, rfl⟩)
    | (go_at_call 29; (with_reducible refine (gf_invI g _ _ ?_ ?_).mono ?_); (omega); (exact HF.out); rintro e w' ⟨rfl, j, rfl⟩)
    | (go_at_call 27; (with_reducible refine (wakes01 _).mono ?_); rintro e w' ⟨rfl, hb2⟩))
      go_ret
      exact ⟨rfl, (below_drewN HB.out _).trans (hb2.mono (by simpa using HB.out.size))⟩

theorem one_of {b c : Nat} (h0 : b ≠ 0) (hb : b < 256) (hc : c < 256) : ((fm b c : Nat) : Int) = 1 ↔ c = fi b := by
  constructor
  · intro h; exact fi_of hb hc (by omega)
  · rintro rfl; rw [fm_inv h0 hb]; rfl

set_option maxRecDepth 100000 in
set_option maxHeartbeats 4000000 in
theorem fieldTurns_walk (w : World) (x : Int) (hx : 0 ≤ x ∧ x ≤ 255) (y : Int) (hy : 0 ≤ y ∧ y ≤ 255) :
    Calls Try.prog 5 #[.int .u8 x, .int .u8 y] w fun e w' => e = .returned (.bool true) ∧ Below w.heap.size w w' := by
  obtain ⟨a, rfl, ha⟩ := byte_nat hx
  obtain ⟨b, rfl, hb⟩ := byte_nat hy
  clear hx hy
  by_cases h0 : b = 0
  · subst h0
    go_enter Try.func5, Try.ntmps5
    go_wp2_with fail
    refine (gf_new _).mono ?_
    rintro e w1 ⟨g, rfl, hg, hF, hb1⟩
    have HF := Lib.hid hF
    have HB := Lib.hid hb1
    clear hF hb1
    go_wp2_with fail
    refine (gf_div g a 0 ha (by omega) _ HF.out).mono ?_
    rintro e w2 ⟨rfl, j, rfl⟩
    have hfi : fi 0 = 0 := rfl
    go_wp2_with (first
    | (go_at_call 25; (with_reducible refine (gf_addI _ _ _ _ ?_ ?_).mono ?_); (omega); (omega); rintro e w' ⟨rfl, rfl⟩)
    | (go_at_call 26; (with_reducible refine (gf_mulI g _ _ _ ?_ ?_ ?_).mono ?_); (omega); (omega); (exact HF.out); rintro e w' ⟨rfl, j, rfl⟩)
    | (go_at_call 29; (with_reducible refine (gf_invI g _ _ ?_ ?_).mono ?_); (omega); (exact HF.out); rintro e w' ⟨rfl, j, rfl⟩)
    | (go_at_call 27; (with_reducible refine (wakes01 _).mono ?_); rintro e w' ⟨rfl, hb2⟩))
    go_ret
    exact ⟨rfl, (below_drewN HB.out _).trans (hb2.mono (by simpa using HB.out.size))⟩
  · have hbz : ((b : Int) == 0) = false := by simpa using h0
    have hfi := fi_bd b
    have hff := fi_bd (fi b)
    have hq := fm_bd a (fi b)
    have E1 := Lib.hid (fm_back h0 ha hb)
    have E2 := Lib.hid (fm_inv h0 hb)
    have E3 := Lib.hid (fi_fi h0 hb)
    have E4 : Hid (((((fm a b : Nat) : Int) == 0) == ((a : Int) == 0)) = true) := by
      show _ = _
      by_cases hz : a = 0
      · subst hz; rw [fm_zero_left]; rfl
      · have h1 : ((a : Int) == 0) = false := by simpa using hz
        have h2 : (((fm a b : Nat) : Int) == 0) = false := by
          simp only [beq_eq_false_iff_ne, ne_eq]
          intro e
          rcases fm_eq_zero.1 (show fm a b = 0 by omega) with h | h
          · exact hz h
          · exact h0 h
        rw [h1, h2]; rfl
    have EC := Lib.hid (fun c hc => one_of (c := c) h0 hb hc)
    go_enter Try.func5, Try.ntmps5
    go_wp2_with fail
    refine (gf_new _).mono ?_
    rintro e w1 ⟨g, rfl, hg, hF, hb1⟩
    have HF := Lib.hid hF
    have HB := Lib.hid hb1
    clear hF hb1
    go_wp2_with fail
    refine (gf_div g a b ha hb _ HF.out).mono ?_
    rintro e w2 ⟨rfl, j, rfl⟩
    rw [if_neg h0, decide_eq_true h0]
    go_wp2_with fail
    go_loopw [8, 9] (fun v i wr => ∃ (k j : Nat), k ≤ 256 ∧ i = .int .i64 k ∧ v = .int .i64 ((if fi b < k then 1 else 0 : Nat) : Int) ∧ wr = w1.drewN j) (fun _ i _ => 256 - (intOf i).toNat)
    case atStart => exact ⟨0, j, by omega, rfl, rfl, rfl⟩
    case round =>
      obtain ⟨k, j, hk, rfl, rfl, rfl⟩ := hrel
      by_cases hlt : k < 256
      · have hqk := fm_bd b k
        by_cases he : k = fi b
        · have h1 : ((fm b k : Nat) : Int) = 1 := (EC.out k hlt).2 he
          have HE := Lib.hid he
          rw [if_neg (by omega)]
          clear he
          go_wp2_with (first
    | (go_at_call 25; (with_reducible refine (gf_addI _ _ _ _ ?_ ?_).mono ?_); (omega); (omega); rintro e w' ⟨rfl, rfl⟩)
    | (go_at_call 26; (with_reducible refine (gf_mulI g _ _ _ ?_ ?_ ?_).mono ?_); (omega); (omega); (exact HF.out); rintro e w' ⟨rfl, j, rfl⟩)
    | (go_at_call 29; (with_reducible refine (gf_invI g _ _ ?_ ?_).mono ?_); (omega); (exact HF.out); rintro e w' ⟨rfl, j, rfl⟩)
    | (go_at_call 27; (with_reducible refine (wakes01 _).mono ?_); rintro e w' ⟨rfl, hb2⟩))
          go_roundw
          case rel => exact ⟨k + 1, _, by omega, by go_num, by rw [if_pos (by have := HE.out; omega)]; rfl, by first | rfl | exact World.drewN_drewN _ _ _⟩
          case measure => simp [intOf]; omega
        · have h1 : (((fm b k : Nat) : Int) == 1) = false := by simpa using fun e => he ((EC.out k hlt).1 e)
          have hsame : (if fi b < k then 1 else 0 : Nat) = (if fi b < k + 1 then 1 else 0 : Nat) := by
            by_cases h : fi b < k
            · rw [if_pos h, if_pos (by omega)]
            · rw [if_neg h, if_neg (by omega)]
          have HS := Lib.hid hsame
          clear hsame
          generalize (if fi b < k then 1 else 0 : Nat) = cnt at *
          go_wp2_with (first
    | (go_at_call 25; (with_reducible refine (gf_addI _ _ _ _ ?_ ?_).mono ?_); (omega); (omega); rintro e w' ⟨rfl, rfl⟩)
    | (go_at_call 26; (with_reducible refine (gf_mulI g _ _ _ ?_ ?_ ?_).mono ?_); (omega); (omega); (exact HF.out); rintro e w' ⟨rfl, j, rfl⟩)
    | (go_at_call 29; (with_reducible refine (gf_invI g _ _ ?_ ?_).mono ?_); (omega); (exact HF.out); rintro e w' ⟨rfl, j, rfl⟩)
    | (go_at_call 27; (with_reducible refine (wakes01 _).mono ?_); rintro e w' ⟨rfl, hb2⟩))
          go_roundw
          case rel => exact ⟨k + 1, _, by omega, by go_num, by rw [← HS.out], by first | rfl | exact World.drewN_drewN _ _ _⟩
          case measure => simp [intOf]; omega
      · obtain rfl : k = 256 := by omega
        rw [if_pos hfi]
        have e1 := E1.out
        have e2 := E2.out
        have e3 := E3.out
        have e4 := E4.out
        go_wp2_with (first
    | (go_at_call 25; (with_reducible refine (gf_addI _ _ _ _ ?_ ?_).mono ?_); (omega); (omega); rintro e w' ⟨rfl, rfl⟩)
    | (go_at_call 26; (with_reducible refine (gf_mulI g _ _ _ ?_ ?_ ?_).mono ?_); (omega); (omega); (exact HF.out); rintro e w' ⟨rfl, j, rfl⟩)
    | (go_at_call 29; (with_reducible refine (gf_invI g _ _ ?_ ?_).mono ?_); (omega); (exact HF.out); rintro e w' ⟨rfl, j, rfl⟩)
    | (go_at_call 27; (with_reducible refine (wakes01 _).mono ?_); rintro e w' ⟨rfl, hb2⟩))
        go_ret
        exact ⟨rfl, (below_drewN HB.out _).trans (hb2.mono (by simpa using HB.out.size))⟩
end Go.Proofs.Ytfbhbjhfebkpfaa
