/- All of both, of any numbers; Rows. -/
import Derived.Test.YtmaofhbnmkcimaaSetsG
namespace Go.Proofs.Ytmaofhbnmkcimaa
open Go.RowKit
set_option linter.unusedVariables false

def allE (n t : Int) : Int := if mayB n t = false then 1 else if 4096 < cntI n t then 13 else 0
def allL (n t : Int) : List (List Nat) := if mayB n t = true ∧ cntI n t ≤ 4096 then fromL n.toNat t.toNat 0 else []
theorem OutOk.none (w : World) (C : Nat) : OutOk w C (.slice none 0 0) [] := ⟨[], World.ownsRow_nil _ _ _ _, by simp⟩
theorem ch_pos : ∀ (n t : Nat), t ≤ n → 1 ≤ ch n t := by
  intro n
  induction n with
  | zero => intro t h; rw [show t = 0 by omega]; decide
  | succ n ih =>
    intro t h
    cases t with
    | zero => rw [ch_zero]; exact Nat.le_refl _
    | succ t =>
      show 1 ≤ ch n t + ch n (t + 1)
      have := ih t (by omega)
      omega
theorem all_cases (n t : Int) : (mayB n t = false ∧ allE n t = 1 ∧ allL n t = [] ∧ cntI n t = 0) ∨
    ∃ N T : Nat, n = N ∧ t = T ∧ N ≤ 64 ∧ T ≤ N ∧ cntI n t = cnt N T ∧ 1 ≤ cnt N T ∧ cnt N T ≤ 4097 ∧ ((4096 < cnt N T ∧ allE n t = 13 ∧ allL n t = []) ∨ (cnt N T ≤ 4096 ∧ allE n t = 0 ∧ allL n t = fromL N T 0 ∧ (fromL N T 0).length ≤ 4096)) := by
  cases hm : mayB n t with
  | false =>
    refine .inl ⟨rfl, by unfold allE; rw [hm, if_pos rfl], by unfold allL; rw [hm, if_neg (by simp)], ?_⟩
    exact cntI_out (by have := may_false hm; omega)
  | true =>
    have h := may_true hm
    obtain ⟨N, rfl⟩ := Int.eq_ofNat_of_zero_le h.1
    obtain ⟨T, rfl⟩ := Int.eq_ofNat_of_zero_le h.2.2.1
    have hc := cntI_in h.1 h.2.1 h.2.2.1 h.2.2.2
    rw [Int.toNat_natCast, Int.toNat_natCast] at hc
    have hN : N ≤ 64 := by omega
    have hT : T ≤ N := by omega
    have hp := ch_pos N T hT
    have hcc := cnt_ch hN hT
    refine .inr ⟨N, T, rfl, rfl, hN, hT, hc, by omega, cnt_le hN hT, ?_⟩
    by_cases hb : 4096 < cnt N T
    · exact .inl ⟨hb, by unfold allE; rw [hm, hc, if_neg (by simp), if_pos hb], by unfold allL; rw [hm, hc, if_neg (by omega)]⟩
    · have hs := sets_len hN hT (by omega)
      exact .inr ⟨by omega, by unfold allE; rw [hm, hc, if_neg (by simp), if_neg hb], by unfold allL; rw [hm, hc, if_pos ⟨rfl, by omega⟩, Int.toNat_natCast, Int.toNat_natCast], by omega⟩
theorem allL_len (n t : Int) : (allL n t).length ≤ 4096 := by
  rcases all_cases n t with ⟨_, _, h, _⟩ | ⟨N, T, _, _, _, _, _, _, _, ⟨_, _, h⟩ | ⟨_, _, h, hl⟩⟩
  · rw [h]; simp
  · rw [h]; simp
  · rw [h]; exact hl

def AllOk (n t : Int) (w : World) (e : Ending) (w' : World) : Prop := ∃ v, e = .returned (.tuple #[v, .int .i64 (allE n t)]) ∧ OutOk w' w.heap.size v (allL n t) ∧ Below w.heap.size w w'
theorem sets_allI (n t : Int) (hn : -9223372036854775808 ≤ n ∧ n ≤ 9223372036854775807) (ht : -9223372036854775808 ≤ t ∧ t ≤ 9223372036854775807) (w : World) :
    Calls Try.prog 22 #[.int .i64 n, .int .i64 t] w (AllOk n t w) := by
  unfold AllOk
  rcases all_cases n t with ⟨hm, h1, h2, -⟩ | ⟨N, T, rfl, rfl, hN, hT, hc, hc1, hc2, ⟨hb, h1, h2⟩ | ⟨hb, h1, h2, hl⟩⟩
  · rw [h1, h2]
    refine (sets_all_err n t hn ht w hm).mono ?_
    rintro e w' ⟨rfl, rfl⟩
    exact ⟨_, rfl, OutOk.none _ _, Below.refl _ _⟩
  · rw [h1, h2]
    refine (sets_all_many N T w hN hT hb hc2).mono ?_
    rintro e w' ⟨rfl, rfl⟩
    exact ⟨_, rfl, OutOk.none _ _, Below.refl _ _⟩
  · rw [h1, h2]
    refine (sets_all N T w hN hT hb hl).mono ?_
    rintro e w' ⟨v, rfl, ho, hb⟩
    exact ⟨v, rfl, ho, hb⟩

set_option maxRecDepth 100000 in
set_option maxHeartbeats 2000000 in
theorem ref_allI (n t : Int) (hn : -9223372036854775808 ≤ n ∧ n ≤ 9223372036854775807) (ht : -9223372036854775808 ≤ t ∧ t ≤ 9223372036854775807) (w : World) :
    Calls Try.prog 23 #[.int .i64 n, .int .i64 t] w (AllOk n t w) := by
  unfold AllOk
  have cC := fun w => ref_count n t hn ht w
  rcases all_cases n t with ⟨hm, h1, h2, hc⟩ | ⟨N, T, rfl, rfl, hN, hT, hc, hc1, hc2, ⟨hb, h1, h2⟩ | ⟨hb, h1, h2, hl⟩⟩
  · rw [h1, h2]
    rw [hc] at cC
    have CC := Lib.hid cC
    clear cC hc h1 h2 hm
    go_enter Try.func23, Try.ntmps23
    go_wp2_with fail
    refine (CC.out _).mono ?_
    rintro e w1 ⟨rfl, hb⟩
    go_wp2_with fail
    go_ret2
    exact ⟨_, rfl, OutOk.none _ _, hb⟩
  · rw [h1, h2]
    rw [hc] at cC
    have CC := Lib.hid cC
    generalize cnt N T = c at *
    have z1 : ((c : Int) == 0) = false := by rw [beq_eq_false_iff_ne]; omega
    have z2 : (4096 : Int) < (c : Int) := by omega
    clear cC hc h1 h2
    go_enter Try.func23, Try.ntmps23
    go_wp2_with fail
    refine (CC.out _).mono ?_
    rintro e w1 ⟨rfl, hb⟩
    go_wp2_with fail
    go_ret2
    exact ⟨_, rfl, OutOk.none _ _, hb⟩
  · rw [h1, h2]
    rw [hc] at cC
    have CC := Lib.hid cC
    have CF : Hid (∀ w : World, Calls Try.prog 32 #[.int .i64 0, .int .i64 N, .int .i64 T] w fun e w' => ∃ v, e = .returned v ∧ OutOk w' w.heap.size v (fromL N T 0) ∧ Below w.heap.size w w') := Lib.hid fun w => ref_from N hN T (by omega) 0 (by omega) hl w
    generalize cnt N T = c at *
    have z1 : ((c : Int) == 0) = false := by rw [beq_eq_false_iff_ne]; omega
    have z2 : ¬ (4096 : Int) < (c : Int) := by omega
    clear cC hc h1 h2 hl
    generalize fromL N T 0 = L at *
    go_enter Try.func23, Try.ntmps23
    go_wp2_with fail
    refine (CC.out _).mono ?_
    rintro e w1 ⟨rfl, hb⟩
    have HB := Lib.hid hb
    clear hb
    go_wp2_with fail
    refine (CF.out _).mono ?_
    rintro e w2 ⟨v, rfl, ho, hb2⟩
    have HO := Lib.hid ho
    have HB2 := Lib.hid hb2
    clear ho hb2
    go_wp2_with fail
    go_ret2
    refine ⟨_, rfl, ?_, HB.out.trans (HB2.out.mono HB.out.size)⟩
    obtain ⟨vs, o1, o2⟩ := HO.out
    exact OutOk.base HO.out HB.out.size

set_option maxRecDepth 100000 in
set_option maxHeartbeats 2000000 in
theorem keep_rows (L : List (List Nat)) (B : Nat) (a b : Option Addr) (n c d : Nat) (w : World) (hn : L.length = n) (hn2 : n ≤ 4096) (hl : ∀ l ∈ L, l.length ≤ 4096) (ha : RdL w B a L) (hb : RdL w B b L) (hB : B ≤ w.heap.size) :
    Calls Try.prog 24 #[.slice a n c, .slice b n d] w fun e w' => e = .returned (.bool true) ∧ ∃ j, w' = w.drewN j := by
  have HA := Lib.hid ha
  have HB := Lib.hid hb
  have HN := Lib.hid hn
  have HL := Lib.hid hl
  clear ha hb hn hl
  have hnn : ((n : Int) != (n : Int)) = false := by simp
  go_enter Try.func24, Try.ntmps24
  go_wp2_with fail
  go_loopw [5, 13] (fun _ i wr => ∃ k : Nat, k ≤ n ∧ i = .int .i64 k ∧ Hid (∃ j, wr = w.drewN j)) (fun _ i _ => n - (intOf i).toNat)
  case atStart => exact ⟨0, by omega, rfl, Lib.hid ⟨0, rfl⟩⟩
  case round =>
    obtain ⟨k, hk, rfl, HJ⟩ := hrel
    obtain ⟨j, rfl⟩ := HJ.out
    clear HJ
    by_cases hlt : k < n
    · obtain ⟨l, hl⟩ : ∃ l, L[k]? = some l := ⟨_, List.getElem?_eq_getElem (by rw [HN.out]; exact hlt)⟩
      obtain ⟨b1, o1, a1, c1, rfl, _, e1, r1⟩ := HA.out.at hl
      obtain ⟨b2, o2, a2, c2, rfl, _, e2, r2⟩ := HB.out.at hl
      have hll := HL.out l (List.mem_of_getElem? hl)
      have hints : cellsI l = (l.map fun x : Nat => (x : Int)).map (Value.int .i64) := by simp [cellsI]
      have cS : ∀ i, Calls Try.prog 33 #[.slice a1 l.length c1, .slice a2 l.length c2] ((w.drewN j).drewN i) fun e w' => e = .returned (.bool true) ∧ ∃ m, w' = ((w.drewN j).drewN i).drewN m := fun i => by
        have := same_i64 (l.map fun x : Nat => (x : Int)) (l.map fun x : Nat => (x : Int)) a1 a2 l.length l.length c1 c2 ((w.drewN j).drewN i) (by rw [← hints]; exact r1.more hB) (by rw [← hints]; exact r2.more hB) (by unfold maxLen; omega) (by unfold maxLen; omega)
        rwa [decide_eq_true rfl] at this
      have e1' : (w.drewN j).cell? ⟨b1, o1 + k, none⟩ = some (.slice a1 l.length c1) := e1
      have e2' : (w.drewN j).cell? ⟨b2, o2 + k, none⟩ = some (.slice a2 l.length c2) := e2
      have CS := Lib.hid cS
      clear cS hints r1 r2 hl e1 e2
      generalize hW : w.drewN j = w0 at *
      have HW := Lib.hid hW
      clear hW
      generalize l.length = q at *
      have hlt' : (k : Int) < (n : Int) := by omega
      go_wp2_with fail
      go_quiet ((go_at_call 33; exact Calls.quiet_of (CS.out _)))
      go_wp2_with fail
      go_roundw
      case rel => exact ⟨k + 1, by omega, by go_num, Lib.hid ⟨j + nq, by rw [← HW.out, World.drewN_drewN]⟩⟩
      case measure => simp [intOf]; omega
    · obtain rfl : k = n := by omega
      go_wp2_with fail
      go_ret
      exact ⟨rfl, by first | exact ⟨_, rfl⟩ | exact ⟨_, World.drewN_drewN _ _ _⟩⟩
end Go.Proofs.Ytmaofhbnmkcimaa
