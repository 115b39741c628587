/- Contracts: Degree and Draw, of the package soliton and of the document. -/
import Derived.Test.YtiaoegdpofpneaaSolC
import Derived.Test.YtiaoegdpofpneaaSpare
namespace Go.Proofs.Ytiaoegdpofpneaa
open Go.RowKit
set_option linter.unusedVariables false

theorem gtF_step {xs : List Nat} {x : Int} {n k : Nat} (h : k < n) : gtF xs x k (n - k) = if x < (xs.getD k 0 : Int) then k + 1 else gtF xs x (k + 1) (n - (k + 1)) := by
  rw [show n - k = (n - (k + 1)) + 1 by omega, gtF]

set_option maxRecDepth 100000 in
set_option maxHeartbeats 2000000 in
theorem sol_degree (xs : List Nat) (B : Nat) (a : Option Addr) (n c : Nat) (x : Int) (w : World) (hr : Rd w B a n (cellsI xs)) (hxn : xs.length = n) (hn : n ≤ 4096) (hb : ∀ i, xs.getD i 0 < 4611686018427387904) (hx : -9223372036854775808 ≤ x ∧ x ≤ 9223372036854775807) :
    Calls Try.prog 30 #[.slice a n c, .int .i64 x] w fun e w' => e = .returned (.int .i64 (degP xs x : Nat)) ∧ w = w' := by
  have HV : Hid (degP xs x = if xs = [] ∨ x < 0 ∨ (xs.getD (n - 1) 0 : Int) ≤ x then 0 else gtF xs x 0 n) := Lib.hid (by unfold degP; rw [hxn])
  generalize degP xs x = out at *
  by_cases h0 : n = 0
  · subst h0
    have hxe : xs = [] := List.eq_nil_of_length_eq_zero hxn
    have hv := HV.out
    rw [if_pos (.inl hxe)] at hv
    have HV2 := Lib.hid hv
    clear hv hr hb hxn hxe HV
    go_enter Try.func30, Try.ntmps30
    go_wp2_with fail
    go_ret
    exact ⟨by rw [HV2.out]; rfl, rfl⟩
  · obtain ⟨b, o, rfl, hbB, hc⟩ := hr.2 (by omega)
    have hne : ¬ xs = [] := by rintro rfl; simp at hxn; omega
    have hcI : ∀ i, i < n → w.cell? ⟨b, o + i, none⟩ = some (.int .i64 (xs.getD i 0 : Nat)) := fun i hi => hc i _ (cellsI_get (by omega))
    have HC := Lib.hid hcI
    have HB := Lib.hid hb
    have h00 : ((n : Int) == 0) = false := by rw [beq_eq_false_iff_ne]; omega
    have ht : ((n : Int) - 1).toNat = n - 1 := by omega
    have hn1 : 0 ≤ (n : Int) - 1 := by omega
    have cl := hcI (n - 1) (by omega)
    have hl := hb (n - 1)
    clear hr hc hb hcI
    by_cases hx0 : x < 0
    · have hv := HV.out
      rw [if_pos (.inr (.inl hx0))] at hv
      have HV2 := Lib.hid hv
      clear hv HV
      go_enter Try.func30, Try.ntmps30
      go_wp2_with fail
      go_ret
      exact ⟨by rw [HV2.out]; rfl, rfl⟩
    · by_cases hlx : (xs.getD (n - 1) 0 : Int) ≤ x
      · have hv := HV.out
        rw [if_pos (.inr (.inr hlx))] at hv
        have HV2 := Lib.hid hv
        clear hv HV
        generalize xs.getD (n - 1) 0 = last at *
        go_enter Try.func30, Try.ntmps30
        go_wp2_with fail
        go_ret
        exact ⟨by rw [HV2.out]; rfl, rfl⟩
      · have hv := HV.out
        rw [if_neg (by rintro (h | h | h); exact hne h; exact hx0 h; exact hlx h)] at hv
        have HV2 := Lib.hid hv
        clear hv HV hne
        generalize xs.getD (n - 1) 0 = last at *
        go_enter Try.func30, Try.ntmps30
        go_wp2_with fail
        clear cl hl hlx
        go_loopw [5, 6, 26] (fun _ _ i wr => ∃ k : Nat, k ≤ n ∧ i = .int .i64 k ∧ Hid (gtF xs x k (n - k) = gtF xs x 0 n) ∧ w = wr) (fun _ _ i _ => n - (intOf i).toNat)
        case atStart => exact ⟨0, by omega, rfl, Lib.hid rfl, rfl⟩
        case round =>
          obtain ⟨k, hk, rfl, HK, rfl⟩ := hrel
          by_cases hlt : k < n
          · have ck := HC.out k hlt
            have hg := HB.out k
            have HS := Lib.hid (gtF_step (xs := xs) (x := x) hlt)
            generalize xs.getD k 0 = y at *
            by_cases hyx : x < (y : Int)
            · go_wp2_with fail
              go_ret
              exact ⟨by rw [HV2.out, ← HK.out, HS.out, if_pos hyx]; rfl, rfl⟩
            · go_wp2_with fail
              go_roundw
              case rel => exact ⟨k + 1, by omega, by go_num, Lib.hid (by rw [← HK.out, HS.out, if_neg hyx]), by first | rfl | trivial⟩
              case measure => simp [intOf]; omega
          · obtain rfl : k = n := by omega
            go_wp2_with fail
            go_ret
            exact ⟨by rw [HV2.out, ← HK.out, Nat.sub_self]; rfl, rfl⟩

set_option maxRecDepth 100000 in
set_option maxHeartbeats 2000000 in
theorem ref_degree (xs : List Nat) (B : Nat) (a : Option Addr) (n c : Nat) (x : Int) (w : World) (hr : Rd w B a n (cellsI xs)) (hxn : xs.length = n) (hn : n ≤ 4096) (hb : ∀ i, xs.getD i 0 < 4611686018427387904) (hx : -9223372036854775808 ≤ x ∧ x ≤ 9223372036854775807) :
    Calls Try.prog 33 #[.slice a n c, .int .i64 x] w fun e w' => e = .returned (.int .i64 (degR xs x : Nat)) ∧ w = w' := by
  have HV : Hid (degR xs x = if x < 0 then 0 else gtF xs x 0 n) := Lib.hid (by unfold degR; rw [hxn])
  generalize degR xs x = out at *
  have HR := Lib.hid hr
  have HB := Lib.hid hb
  clear hr hb hxn
  go_enter Try.func33, Try.ntmps33
  go_wp2_with fail
  go_loopw [5] (fun i wr => ∃ k : Nat, k ≤ n ∧ i = .int .i64 k ∧ Hid (gtF xs x k (n - k) = gtF xs x 0 n) ∧ Hid (0 < k → 0 ≤ x) ∧ w = wr) (fun i _ => n - (intOf i).toNat)
  case atStart => exact ⟨0, by omega, rfl, Lib.hid rfl, Lib.hid (by omega), rfl⟩
  case round =>
    obtain ⟨k, hk, rfl, HK, HP, rfl⟩ := hrel
    by_cases hx0 : x < 0
    · have hk0 : k = 0 := by
        have := HP.out
        omega
      have hv := HV.out
      rw [if_pos hx0] at hv
      have HV2 := Lib.hid hv
      have hx0' : ¬ 0 ≤ x := by omega
      clear hk0 hv
      by_cases hlt : k < n
      · go_wp2_with fail
        go_ret
        exact ⟨by rw [HV2.out]; rfl, rfl⟩
      · have hlt' : ¬ (k : Int) < (n : Int) := by omega
        go_wp2_with fail
        go_ret
        exact ⟨by rw [HV2.out]; rfl, rfl⟩
    · have hv := HV.out
      rw [if_neg hx0] at hv
      have HV2 := Lib.hid hv
      have hx0' : 0 ≤ x := by omega
      clear hv
      by_cases hlt : k < n
      · obtain ⟨b, o, rfl, hbB, hc⟩ := HR.out.2 (by omega)
        have hkx : k < xs.length := by
          have := HR.out.len
          rw [cellsI_len] at this; omega
        have ck := hc k _ (cellsI_get hkx)
        have hg := HB.out k
        have HS := Lib.hid (gtF_step (xs := xs) (x := x) hlt)
        clear hc hkx
        generalize xs.getD k 0 = y at *
        by_cases hyx : x < (y : Int)
        · go_wp2_with fail
          go_ret
          exact ⟨by rw [HV2.out, ← HK.out, HS.out, if_pos hyx]; rfl, rfl⟩
        · go_wp2_with fail
          go_roundw
          case rel => exact ⟨k + 1, by omega, by go_num, Lib.hid (by rw [← HK.out, HS.out, if_neg hyx]), Lib.hid (fun _ => hx0'), by first | rfl | trivial⟩
          case measure => simp [intOf]; omega
      · obtain rfl : k = n := by omega
        have hlt' : ¬ (k : Int) < (k : Int) := by omega
        go_wp2_with fail
        go_ret
        exact ⟨by rw [HV2.out, ← HK.out, Nat.sub_self]; rfl, rfl⟩
end Go.Proofs.Ytiaoegdpofpneaa
