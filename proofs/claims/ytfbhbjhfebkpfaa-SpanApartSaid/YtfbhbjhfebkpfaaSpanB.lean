/- law03's Even, with what is known of where its rows lie. -/
import Derived.Test.YtfbhbjhfebkpfaaSpanA
namespace Go.Proofs.Ytfbhbjhfebkpfaa
open Go.RowKit
set_option linter.unusedVariables false

set_option maxRecDepth 100000 in
set_option maxHeartbeats 4000000 in
theorem law_evenB (n : Nat) (xs : List Nat) (B : Nat) (a : Option Addr) (len cap : Nat) (w : World) (hx : Rd w B a len (cellsB xs)) (hB : B ≤ w.heap.size) (hc : len ≤ cap ∧ cap ≤ maxLen ∧ (a = none → cap = 0)) (hn : 1 ≤ n) (hn2 : n ≤ 1000000) :
    Calls Try.prog 63 #[.slice a len cap, .int .i64 n] w fun e w' => ∃ v, e = .returned v ∧ EvB w' B v (evenL n 14 xs) ∧ (∀ b, v.ownBlock = some b → w.heap.size ≤ b) ∧ Below w.heap.size w w' := by
  have HE : Hid (EvB w B (.slice none 0 0) []) := Lib.hid (EvB.nil _ _)
  have HV : Hid (∀ b, (Value.slice none 0 0).ownBlock = some b → w.heap.size ≤ b) := Lib.hid (by simp [Value.ownBlock])
  have hrel : ∃ (a' : Option Addr) (len' cap' : Nat) (ys : List Nat) (k : Nat) (E : List (List Nat)), Value.slice a len cap = .slice a' len' cap' ∧ k ≤ 14 ∧ (∃ c, Value.slice none 0 0 = .slice none k c) ∧ Hid (Rd w B a' len' (cellsB ys)) ∧ (len' ≤ cap' ∧ cap' ≤ maxLen) ∧ Hid (a' = none → cap' = 0) ∧ Hid (evenL n 14 xs = E ++ evenL n (14 - k) ys) ∧ Hid (E.length = k) := ⟨a, len, cap, xs, 0, [], rfl, by omega, ⟨_, rfl⟩, Lib.hid hx, ⟨hc.1, hc.2.1⟩, Lib.hid hc.2.2, Lib.hid rfl, Lib.hid rfl⟩
  have HX := Lib.hid hx
  have HC := Lib.hid hc
  clear hx hc hrel
  go_enter Try.func63, Try.ntmps63
  go_wp2_with fail
  generalize hG : w.heap.size = G at *
  have HG := Lib.hid hG
  clear hG
  go_loopw [0, 5] (fun b v wr => ∃ (a' : Option Addr) (len' cap' : Nat) (ys : List Nat) (k : Nat) (E : List (List Nat)) (av : Option Addr) (cv : Nat), b = .slice a' len' cap' ∧ k ≤ 14 ∧ v = .slice av k cv ∧ Hid (Rd w B a' len' (cellsB ys)) ∧ (len' ≤ cap' ∧ cap' ≤ maxLen) ∧ Hid (a' = none → cap' = 0) ∧ Hid (evenL n 14 xs = E ++ evenL n (14 - k) ys) ∧ Hid (E.length = k) ∧ Hid (EvB wr B (.slice av k cv) E) ∧ Hid (∀ b, (Value.slice av k cv).ownBlock = some b → G ≤ b) ∧ Hid (Below G w wr)) (fun _ v _ => 14 - lenOf v)
  case atStart => exact ⟨a, len, cap, xs, 0, [], _, _, rfl, by omega, rfl, HX, ⟨HC.out.1, HC.out.2.1⟩, Lib.hid HC.out.2.2, Lib.hid rfl, Lib.hid rfl, HE, HV, Lib.hid (Below.refl _ _)⟩
  case round =>
    clear HE HV
    obtain ⟨a', len', cap', ys, k, E, av, cv, rfl, hk, rfl, HR, ⟨hlc, hcm⟩, HN, HEQ, HEL, HE, HV, HB⟩ := hrel
    have hly : ys.length = len' := by have := HR.out.len; rwa [cellsB_len] at this
    have HLY := Lib.hid hly
    clear hly
    have hcI : (cap' : Int) ≤ 9223372036854775807 := by unfold maxLen at hcm; omega
    have hnI : (0 : Int) < (n : Int) := by omega
    by_cases h1 : n ≤ len'
    · have h1I : (n : Int) ≤ (len' : Int) := by omega
      by_cases h2 : k < 14
      · have h2I : (k : Int) < 14 := by omega
        have h3 : n ≤ cap' := by omega
        go_wp2_with fail
        have hG2 : G ≤ wr.heap.size := by have := HB.out.size; have := HG.out; omega
        have HBW : Hid (Below G w ((wr.alloc (.cells #[Value.slice a' n n] 49)).drew)) := Lib.hid (HB.out.alloc hG2 _).drew
        have hbW : Below wr.heap.size wr ((wr.alloc (.cells #[Value.slice a' n n] 49)).drew) := ((Below.refl _ _).alloc (Nat.le_refl _) _).drew
        have hlt : (ys.take n).length = n := by rw [List.length_take, HLY.out]; omega
        have hW2 : G ≤ ((wr.alloc (.cells #[Value.slice a' n n] 49)).drew).heap.size := Nat.le_trans hG2 hbW.size
        have hone : HdB ((wr.alloc (.cells #[Value.slice a' n n] 49)).drew) B [ys.take n] [.slice a' n n] :=
          HdB.one hlt ((rd_cut0 HR.out h1).below HBW.out hB) (fun e => by have := HN.out e; omega) (Nat.le_refl _) (by omega)
        have HONE := Lib.hid hone
        have HEW := Lib.hid (HE.out.new (Nat.le_trans hB hG2) hbW)
        have hW3 : B ≤ ((wr.alloc (.cells #[Value.slice a' n n] 49)).drew).heap.size := Nat.le_trans hB hW2
        have HRL : Hid (Rd ((wr.alloc (.cells #[Value.slice a' n n] 49)).drew) ((wr.alloc (.cells #[Value.slice a' n n] 49)).drew).heap.size (some ⟨wr.heap.size, 0, none⟩) 1 [.slice a' n n]) := Lib.hid ⟨rfl, fun _ => ⟨wr.heap.size, 0, rfl, by simp, fun i u hu => by
          cases i with
          | zero => obtain rfl : Value.slice a' n n = u := by simpa using hu
                    exact cell_lit wr #[Value.slice a' n n] _ 0
          | succ i => simp at hu⟩⟩
        have h10 : E.length + [ys.take n].length ≤ 1000000 := by rw [HEL.out, List.length_singleton]; omega
        have HRR := Lib.hid (rd_rest HR.out hlc h1)
        have HNR := Lib.hid (nil_rest HN.out hn h3)
        have hst : evenL n 14 xs = (E ++ [ys.take n]) ++ evenL n (14 - (k + 1)) (ys.drop n) := by
          rw [HEQ.out, show 14 - k = (14 - (k + 1)) + 1 by omega, evenL_yes (by rw [HLY.out]; exact h1), List.append_assoc]
          rfl
        have HST := Lib.hid hst
        have hel : (E ++ [ys.take n]).length = k + 1 := by rw [List.length_append, HEL.out]; rfl
        have HEL2 := Lib.hid hel
        clear hone hst hel hlt hbW HB HEQ HE HEL
        go_wp2_with fail
        go_region_law (refine step_appHB (C := B) (v := .slice av k cv) (M := E) (N := [ys.take n]) rfl _ _ rfl HEW.out hW3 h10 rfl rfl (fun e => (by cases e)) HRL.out HONE.out ?_; intro v2 w2 hE2 hb2 hg2 hat2)
        have HE2 := Lib.hid hE2
        have HB2 := Lib.hid (HBW.out.grown hg2 hW2 HV.out)
        have hv2 : ∀ b, v2.ownBlock = some b → G ≤ b := fun b hb => by
          rcases hat2 with h | h
          · rw [h] at hb; exact HV.out b hb
          · rw [h] at hb; injection hb with hb; omega
        obtain ⟨av2, cv2, rfl⟩ := hE2.val
        rw [HEL2.out] at HE2 hv2
        have HV2 := Lib.hid hv2
        clear hE2 hb2 hg2 hat2 hv2 HV HEW HRL HONE HBW
        generalize (if cap' = n then a' else Option.map (fun x => x.add n) a') = a2 at *
        rw [HEL2.out]
        go_wp2_with fail
        go_roundw
        case rel => first | exact ⟨a2, len' - n, cap' - n, ys.drop n, k + 1, E ++ [ys.take n], av2, cv2, rfl, by omega, rfl, HRR, ⟨by omega, by omega⟩, HNR, HST, HEL2, HE2, HV2, HB2⟩ | ((repeat apply Exists.intro); exact ⟨⟨a2, len' - n, cap' - n, ys.drop n, k + 1, E ++ [ys.take n], av2, cv2, rfl, by omega, rfl, HRR, ⟨by omega, by omega⟩, HNR, HST, HEL2, HE2, HV2, HB2⟩, rfl⟩)
        case measure => show 14 - (k + 1) < 14 - k; omega
      · obtain rfl : k = 14 := by omega
        have hf : evenL n 14 xs = E := by rw [HEQ.out]; simp [evenL]
        rw [← hf] at HE
        have h2I : ¬ ((14 : Nat) : Int) < 14 := by decide
        clear hf HEQ
        go_wp2_with fail
        go_ret
        exact ⟨_, rfl, HE.out, by rw [HG.out]; exact HV.out, by rw [HG.out]; exact HB.out⟩
    · have hf : evenL n 14 xs = E := by rw [HEQ.out, evenL_no (by rw [HLY.out]; exact h1), List.append_nil]
      rw [← hf] at HE
      have h1I : ¬ (n : Int) ≤ (len' : Int) := by omega
      clear hf HEQ
      go_wp2_with fail
      go_ret
      exact ⟨_, rfl, HE.out, by rw [HG.out]; exact HV.out, by rw [HG.out]; exact HB.out⟩
end Go.Proofs.Ytfbhbjhfebkpfaa
