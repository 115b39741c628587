/- Contracts of the small things that the statements lean on (wellspringkeep). -/
import Derived.Test.YtiaoegdpofpneaaKit
namespace Go.Proofs.Ytiaoegdpofpneaa
open Go.RowKit
set_option linter.unusedVariables false

theorem within_num (x n : Int) (hn : 0 < n) : (if x.tmod n < 0 then x.tmod n + n else x.tmod n) = x % n := by
  rw [Int.tmod_eq_emod]
  have h1 := Int.emod_nonneg x (Int.ne_of_gt hn)
  have h2 := Int.emod_lt_of_pos x hn
  split <;> split <;> omega
set_option maxHeartbeats 400000 in
theorem keep_within (x n : Int) (w : World) (hx : -9223372036854775808 ≤ x ∧ x ≤ 9223372036854775807) (hn : 0 < n) (hm : n ≤ 9223372036854775807) :
    Calls Try.prog 25 #[.int .i64 x, .int .i64 n] w fun e w' => e = .returned (.int .i64 (x % n)) ∧ w = w' := by
  have hw := Lib.hid (within_num x n hn)
  have h3 : -n < x.tmod n ∧ x.tmod n < n := by
    rw [Int.tmod_eq_emod]
    have h1 := Int.emod_nonneg x (Int.ne_of_gt hn)
    have h2 := Int.emod_lt_of_pos x hn
    split <;> omega
  go_enter Try.func25, Try.ntmps25
  go_wp2
  all_goals
    go_ret
    exact ⟨congrArg (fun z => Ending.returned (.int .i64 z)) (by have := hw.out; split at this <;> omega), rfl⟩

set_option maxRecDepth 100000 in
set_option maxHeartbeats 1000000 in
theorem same_u32 (xs ys : List Int) (a b : Option Addr) (n m c d : Nat) (w : World) (hx : Rd w w.heap.size a n (xs.map (Value.int .u32))) (hy : Rd w w.heap.size b m (ys.map (Value.int .u32))) (hn : n ≤ maxLen) (hm : m ≤ maxLen) :
    Calls Try.prog 27 #[.slice a n c, .slice b m d] w fun e w' => e = .returned (.bool (decide (xs = ys))) ∧ ∃ j, w' = w.drewN j := by
  unfold maxLen at hn hm
  have hlx : xs.length = n := by simpa using hx.1
  have hly : ys.length = m := by simpa using hy.1
  by_cases hne : n = m
  · subst hne
    have HX := Lib.hid hlx
    have HY := Lib.hid hly
    have RX := Lib.hid hx
    have RY := Lib.hid hy
    clear hlx hly hx hy
    have hnn : ((n : Int) != (n : Int)) = false := by simp
    go_enter Try.func27, Try.ntmps27
    go_wp2_with fail
    go_loopw [5, 13] (fun _ i wr => ∃ k : Nat, k ≤ n ∧ i = .int .i64 k ∧ (∀ t, t < k → xs[t]? = ys[t]?) ∧ ∃ j, wr = w.drewN j) (fun _ i _ => n - (intOf i).toNat)
    case atStart => exact ⟨0, Nat.zero_le _, rfl, fun t ht => absurd ht (Nat.not_lt_zero _), 0, rfl⟩
    case round =>
      obtain ⟨k, hk, rfl, halike, j, rfl⟩ := hrel
      have HA := Lib.hid halike
      clear halike
      by_cases hlt : k < n
      · obtain ⟨bx, ox, rfl, _, hcx⟩ := RX.out.2 (by omega)
        obtain ⟨by', oy, rfl, _, hcy⟩ := RY.out.2 (by omega)
        have hkx : k < xs.length := by rw [HX.out]; exact hlt
        have hky : k < ys.length := by rw [HY.out]; exact hlt
        have cx := hcx k (.int .u32 xs[k]) (by simp [hkx])
        have cy := hcy k (.int .u32 ys[k]) (by simp [hky])
        have gx : xs[k]? = some xs[k] := List.getElem?_eq_getElem hkx
        have gy : ys[k]? = some ys[k] := List.getElem?_eq_getElem hky
        generalize xs[k] = x at *
        generalize ys[k] = y at *
        have GX := Lib.hid gx
        have GY := Lib.hid gy
        clear hkx hky hcx hcy gx gy
        go_wp2_with fail
        go_quiet (fail)
        by_cases hxy : x = y
        · subst hxy
          go_wp2_with fail
          go_roundw
          case rel => exact ⟨k + 1, by omega, by go_num, fun t ht => by rcases Nat.lt_or_ge t k with h | h; exact HA.out t h; rw [show t = k by omega, GX.out, GY.out], by first | exact ⟨_, rfl⟩ | exact ⟨_, World.drewN_drewN _ _ _⟩⟩
          case measure => simp [intOf]; omega
        · have hxy' : (x != y) = true := by simpa using hxy
          have hd : decide (xs = ys) = false := decide_eq_false (fun e => hxy (by have h1 := GX.out; rw [e, GY.out] at h1; exact (Option.some.inj h1).symm))
          have HD := Lib.hid hd
          clear hd
          go_wp2_with fail
          go_ret
          exact ⟨by rw [HD.out]; rfl, by first | exact ⟨_, rfl⟩ | exact ⟨_, World.drewN_drewN _ _ _⟩⟩
      · have hd : decide (xs = ys) = true := decide_eq_true (List.ext_getElem? fun t => by
          rcases Nat.lt_or_ge t k with h | h
          · exact HA.out t h
          · rw [List.getElem?_eq_none (by rw [HX.out]; omega), List.getElem?_eq_none (by rw [HY.out]; omega)])
        have HD := Lib.hid hd
        clear hd
        go_wp2_with fail
        go_ret
        exact ⟨by rw [HD.out]; rfl, by first | exact ⟨_, rfl⟩ | exact ⟨_, World.drewN_drewN _ _ _⟩⟩
  · have hd : decide (xs = ys) = false := decide_eq_false (fun e => hne (by rw [← hlx, ← hly, e]))
    have HD := Lib.hid hd
    have hnn : ((n : Int) != (m : Int)) = true := by simpa using fun e => hne (by omega)
    clear hd hlx hly hx hy
    go_enter Try.func27, Try.ntmps27
    go_wp2_with fail
    go_ret
    exact ⟨by rw [HD.out]; rfl, 0, rfl⟩

set_option maxRecDepth 100000 in
set_option maxHeartbeats 1000000 in
theorem same_i64 (xs ys : List Int) (a b : Option Addr) (n m c d : Nat) (w : World) (hx : Rd w w.heap.size a n (xs.map (Value.int .i64))) (hy : Rd w w.heap.size b m (ys.map (Value.int .i64))) (hn : n ≤ maxLen) (hm : m ≤ maxLen) :
    Calls Try.prog 32 #[.slice a n c, .slice b m d] w fun e w' => e = .returned (.bool (decide (xs = ys))) ∧ ∃ j, w' = w.drewN j := by
  unfold maxLen at hn hm
  have hlx : xs.length = n := by simpa using hx.1
  have hly : ys.length = m := by simpa using hy.1
  by_cases hne : n = m
  · subst hne
    have HX := Lib.hid hlx
    have HY := Lib.hid hly
    have RX := Lib.hid hx
    have RY := Lib.hid hy
    clear hlx hly hx hy
    have hnn : ((n : Int) != (n : Int)) = false := by simp
    go_enter Try.func32, Try.ntmps32
    go_wp2_with fail
    go_loopw [5, 13] (fun _ i wr => ∃ k : Nat, k ≤ n ∧ i = .int .i64 k ∧ (∀ t, t < k → xs[t]? = ys[t]?) ∧ ∃ j, wr = w.drewN j) (fun _ i _ => n - (intOf i).toNat)
    case atStart => exact ⟨0, Nat.zero_le _, rfl, fun t ht => absurd ht (Nat.not_lt_zero _), 0, rfl⟩
    case round =>
      obtain ⟨k, hk, rfl, halike, j, rfl⟩ := hrel
      have HA := Lib.hid halike
      clear halike
      by_cases hlt : k < n
      · obtain ⟨bx, ox, rfl, _, hcx⟩ := RX.out.2 (by omega)
        obtain ⟨by', oy, rfl, _, hcy⟩ := RY.out.2 (by omega)
        have hkx : k < xs.length := by rw [HX.out]; exact hlt
        have hky : k < ys.length := by rw [HY.out]; exact hlt
        have cx := hcx k (.int .i64 xs[k]) (by simp [hkx])
        have cy := hcy k (.int .i64 ys[k]) (by simp [hky])
        have gx : xs[k]? = some xs[k] := List.getElem?_eq_getElem hkx
        have gy : ys[k]? = some ys[k] := List.getElem?_eq_getElem hky
        generalize xs[k] = x at *
        generalize ys[k] = y at *
        have GX := Lib.hid gx
        have GY := Lib.hid gy
        clear hkx hky hcx hcy gx gy
        go_wp2_with fail
        go_quiet (fail)
        by_cases hxy : x = y
        · subst hxy
          go_wp2_with fail
          go_roundw
          case rel => exact ⟨k + 1, by omega, by go_num, fun t ht => by rcases Nat.lt_or_ge t k with h | h; exact HA.out t h; rw [show t = k by omega, GX.out, GY.out], by first | exact ⟨_, rfl⟩ | exact ⟨_, World.drewN_drewN _ _ _⟩⟩
          case measure => simp [intOf]; omega
        · have hxy' : (x != y) = true := by simpa using hxy
          have hd : decide (xs = ys) = false := decide_eq_false (fun e => hxy (by have h1 := GX.out; rw [e, GY.out] at h1; exact (Option.some.inj h1).symm))
          have HD := Lib.hid hd
          clear hd
          go_wp2_with fail
          go_ret
          exact ⟨by rw [HD.out]; rfl, by first | exact ⟨_, rfl⟩ | exact ⟨_, World.drewN_drewN _ _ _⟩⟩
      · have hd : decide (xs = ys) = true := decide_eq_true (List.ext_getElem? fun t => by
          rcases Nat.lt_or_ge t k with h | h
          · exact HA.out t h
          · rw [List.getElem?_eq_none (by rw [HX.out]; omega), List.getElem?_eq_none (by rw [HY.out]; omega)])
        have HD := Lib.hid hd
        clear hd
        go_wp2_with fail
        go_ret
        exact ⟨by rw [HD.out]; rfl, by first | exact ⟨_, rfl⟩ | exact ⟨_, World.drewN_drewN _ _ _⟩⟩
  · have hd : decide (xs = ys) = false := decide_eq_false (fun e => hne (by rw [← hlx, ← hly, e]))
    have HD := Lib.hid hd
    have hnn : ((n : Int) != (m : Int)) = true := by simpa using fun e => hne (by omega)
    clear hd hlx hly hx hy
    go_enter Try.func32, Try.ntmps32
    go_wp2_with fail
    go_ret
    exact ⟨by rw [HD.out]; rfl, 0, rfl⟩

set_option maxRecDepth 100000 in
set_option maxHeartbeats 1000000 in
theorem same_u8 (xs ys : List Int) (a b : Option Addr) (n m c d : Nat) (w : World) (hx : Rd w w.heap.size a n (xs.map (Value.int .u8))) (hy : Rd w w.heap.size b m (ys.map (Value.int .u8))) (hn : n ≤ maxLen) (hm : m ≤ maxLen) :
    Calls Try.prog 46 #[.slice a n c, .slice b m d] w fun e w' => e = .returned (.bool (decide (xs = ys))) ∧ ∃ j, w' = w.drewN j := by
  unfold maxLen at hn hm
  have hlx : xs.length = n := by simpa using hx.1
  have hly : ys.length = m := by simpa using hy.1
  by_cases hne : n = m
  · subst hne
    have HX := Lib.hid hlx
    have HY := Lib.hid hly
    have RX := Lib.hid hx
    have RY := Lib.hid hy
    clear hlx hly hx hy
    have hnn : ((n : Int) != (n : Int)) = false := by simp
    go_enter Try.func46, Try.ntmps46
    go_wp2_with fail
    go_loopw [5, 13] (fun _ i wr => ∃ k : Nat, k ≤ n ∧ i = .int .i64 k ∧ (∀ t, t < k → xs[t]? = ys[t]?) ∧ ∃ j, wr = w.drewN j) (fun _ i _ => n - (intOf i).toNat)
    case atStart => exact ⟨0, Nat.zero_le _, rfl, fun t ht => absurd ht (Nat.not_lt_zero _), 0, rfl⟩
    case round =>
      obtain ⟨k, hk, rfl, halike, j, rfl⟩ := hrel
      have HA := Lib.hid halike
      clear halike
      by_cases hlt : k < n
      · obtain ⟨bx, ox, rfl, _, hcx⟩ := RX.out.2 (by omega)
        obtain ⟨by', oy, rfl, _, hcy⟩ := RY.out.2 (by omega)
        have hkx : k < xs.length := by rw [HX.out]; exact hlt
        have hky : k < ys.length := by rw [HY.out]; exact hlt
        have cx := hcx k (.int .u8 xs[k]) (by simp [hkx])
        have cy := hcy k (.int .u8 ys[k]) (by simp [hky])
        have gx : xs[k]? = some xs[k] := List.getElem?_eq_getElem hkx
        have gy : ys[k]? = some ys[k] := List.getElem?_eq_getElem hky
        generalize xs[k] = x at *
        generalize ys[k] = y at *
        have GX := Lib.hid gx
        have GY := Lib.hid gy
        clear hkx hky hcx hcy gx gy
        go_wp2_with fail
        go_quiet (fail)
        by_cases hxy : x = y
        · subst hxy
          go_wp2_with fail
          go_roundw
          case rel => exact ⟨k + 1, by omega, by go_num, fun t ht => by rcases Nat.lt_or_ge t k with h | h; exact HA.out t h; rw [show t = k by omega, GX.out, GY.out], by first | exact ⟨_, rfl⟩ | exact ⟨_, World.drewN_drewN _ _ _⟩⟩
          case measure => simp [intOf]; omega
        · have hxy' : (x != y) = true := by simpa using hxy
          have hd : decide (xs = ys) = false := decide_eq_false (fun e => hxy (by have h1 := GX.out; rw [e, GY.out] at h1; exact (Option.some.inj h1).symm))
          have HD := Lib.hid hd
          clear hd
          go_wp2_with fail
          go_ret
          exact ⟨by rw [HD.out]; rfl, by first | exact ⟨_, rfl⟩ | exact ⟨_, World.drewN_drewN _ _ _⟩⟩
      · have hd : decide (xs = ys) = true := decide_eq_true (List.ext_getElem? fun t => by
          rcases Nat.lt_or_ge t k with h | h
          · exact HA.out t h
          · rw [List.getElem?_eq_none (by rw [HX.out]; omega), List.getElem?_eq_none (by rw [HY.out]; omega)])
        have HD := Lib.hid hd
        clear hd
        go_wp2_with fail
        go_ret
        exact ⟨by rw [HD.out]; rfl, by first | exact ⟨_, rfl⟩ | exact ⟨_, World.drewN_drewN _ _ _⟩⟩
  · have hd : decide (xs = ys) = false := decide_eq_false (fun e => hne (by rw [← hlx, ← hly, e]))
    have HD := Lib.hid hd
    have hnn : ((n : Int) != (m : Int)) = true := by simpa using fun e => hne (by omega)
    clear hd hlx hly hx hy
    go_enter Try.func46, Try.ntmps46
    go_wp2_with fail
    go_ret
    exact ⟨by rw [HD.out]; rfl, 0, rfl⟩
end Go.Proofs.Ytiaoegdpofpneaa
