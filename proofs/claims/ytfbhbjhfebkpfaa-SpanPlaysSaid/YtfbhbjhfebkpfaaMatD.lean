/- Contracts of mat.Reduce, mat.Rank. -/
import Derived.Test.YtfbhbjhfebkpfaaMatC
namespace Go.Proofs.Ytfbhbjhfebkpfaa
open Go.RowKit
set_option linter.unusedVariables false

theorem wid_le {n : Nat} {M : List (List Nat)} (h : Wf n M) : wid M ≤ n := by
  by_cases h0 : M = []
  · subst h0; exact Nat.zero_le _
  · rw [wid_eq h h0]; exact Nat.le_refl _

set_option maxRecDepth 100000 in
set_option maxHeartbeats 4000000 in
theorem mat_Reduce (p : Option Addr) (n m c : Nat) (M : List (List Nat)) (a : Option Addr) (w : World) (hF : Fp w p) (h : RdM w w.heap.size a m M) (hW : Wf n M) (hn : n ≤ 64) (hm : m ≤ 1000000) :
    Calls Try.prog 64 #[.pointer p, .slice a m c] w fun e w' => ∃ v, e = .returned v ∧ MOwn w' w.heap.size v (rref M) ∧ Below w.heap.size w w' := by
  have CM := Lib.hid (mat_may n m M _ a c w h hW hn hm)
  have CO := Lib.hid (mat_own M _ a m c w h (Nat.le_refl _) (fun l hl => by have := (hW l hl).1; omega) hm)
  have HW := Lib.hid hW
  have HF := Lib.hid hF
  have HL := Lib.hid h.len
  clear h hW hF
  go_enter Try.func64, Try.ntmps64
  go_wp2_with fail
  refine CM.out.mono ?_
  rintro e w1 ⟨rfl, rfl⟩
  go_wp2_with fail
  refine CO.out.mono ?_
  rintro e w1 ⟨g, c', rfl, hM, hb⟩
  have HM := Lib.hid hM
  have HB := Lib.hid hb
  have HF1 := Lib.hid (HF.out.below hb (Nat.le_refl _))
  clear hM hb CM CO
  go_wp2_with fail
  refine (mat_sure p w1 HF1.out).mono ?_
  rintro e w2 ⟨gf, rfl, hfl, hb⟩
  have HM2 := Lib.hid (HM.out.new hb)
  have HB2 := Lib.hid (HB.out.trans (hb.mono HB.out.size))
  have HFL := Lib.hid hfl
  clear hfl hb HM HB HF1 HF
  go_wp2_with fail
  refine (mat_width M _ (some ⟨g, 0, none⟩) m c' w2 HM2.out.rdM hm).mono ?_
  rintro e w3 ⟨rfl, rfl⟩
  obtain ⟨ls, hinv⟩ := redF_inv HW.out (wid M)
  have hle := hinv.le
  rw [redF_len, HL.out] at hle
  have hcap := HM2.out.caps
  have CR := Lib.hid (mat_reduce gf n m (wid M) c' w.heap.size M (some ⟨g, 0, none⟩) w2 HFL.out HM2.out HW.out (wid_le HW.out) HB2.out.size hm (by omega))
  have hrr : (redF M (wid M)).1.take (redF M (wid M)).2 = rref M := rfl
  have HRR := Lib.hid hrr
  have hkc : (redF M (wid M)).2 ≤ c' := by omega
  clear hinv hrr hcap
  generalize (redF M (wid M)).1 = X at *
  generalize (redF M (wid M)).2 = k at *
  go_wp2_with fail
  refine CR.out.mono ?_
  rintro e w3 ⟨rfl, hM, hb⟩
  have HM3 : Hid (MOwn w3 w.heap.size (.slice (some ⟨g, 0, none⟩) k c') (rref M)) := Lib.hid (by rw [← HRR.out]; exact hM.take hle)
  have HB3 := Lib.hid (HB2.out.trans hb)
  clear hM hb HM2 HB2 CR HRR
  go_wp2_with fail
  go_ret
  trace_state
  exact ⟨_, rfl, HM3.out, HB3.out⟩

set_option maxRecDepth 100000 in
set_option maxHeartbeats 4000000 in
theorem mat_Rank (p : Option Addr) (n m c : Nat) (M : List (List Nat)) (a : Option Addr) (w : World) (hF : Fp w p) (h : RdM w w.heap.size a m M) (hW : Wf n M) (hn : n ≤ 64) (hm : m ≤ 1000000) :
    Calls Try.prog 65 #[.pointer p, .slice a m c] w fun e w' => e = .returned (.int .i64 ((rref M).length : Nat)) ∧ Below w.heap.size w w' := by
  have CR := Lib.hid (mat_Reduce p n m c M a w hF h hW hn hm)
  clear hF h hW
  go_enter Try.func65, Try.ntmps65
  go_wp2_with fail
  refine CR.out.mono ?_
  rintro e w1 ⟨v, rfl, hM, hb⟩
  obtain ⟨a1, c1, rfl⟩ := hM.val
  go_wp2_with fail
  go_ret
  exact ⟨rfl, hb⟩
end Go.Proofs.Ytfbhbjhfebkpfaa
