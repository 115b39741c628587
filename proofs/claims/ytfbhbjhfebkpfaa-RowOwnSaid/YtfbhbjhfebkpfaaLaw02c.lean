/- The walk of wellspringlaw02.RowOwn. -/
import Derived.Test.YtfbhbjhfebkpfaaLaw02a
namespace Go.Proofs.Ytfbhbjhfebkpfaa
open Go.RowKit
set_option linter.unusedVariables false

/-- Room of n bytes at a block of the call's own: what stands there is not told. -/
def Rm (w : World) (C g n : Nat) : Prop := C ≤ g ∧ ∃ cur : Array Value, Blk w g 5 cur ∧ n ≤ cur.size
theorem Rm.set {w : World} {C g n : Nat} (h : Rm w C g n) (g' k : Nat) (v : Value) : Rm (w.setCell ⟨g', k, none⟩ v) C g n := by
  obtain ⟨h1, cur, hb, hs⟩ := h
  by_cases he : g = g'
  · subst he
    exact ⟨h1, _, hb.set k v, by simpa using hs⟩
  · exact ⟨h1, cur, hb.far (p := ⟨g', k, none⟩) he v, hs⟩
theorem Rm.cell {w : World} {C g n k : Nat} (h : Rm w C g n) (hk : k < n) : ∃ u, w.cell? ⟨g, k, none⟩ = some u ∧ w.frozen? ⟨g, k, none⟩ = false := by
  obtain ⟨_, cur, hb, hs⟩ := h
  exact ⟨_, (hb.cell k).trans (Array.getElem?_eq_getElem (by omega)), hb.frozen k⟩
def Rms (w : World) (C : Nat) (a : Option Addr) (n : Nat) : Prop := 0 < n → ∃ g, a = some ⟨g, 0, none⟩ ∧ Rm w C g n
theorem OwnB.room {w : World} {C : Nat} {v : Value} {l : List Nat} {n : Nat} (h : OwnB w C v l) (hn : l.length = n) : ∃ a c, v = .slice a n c ∧ Rms w C a n := by
  subst hn
  rcases h.2 with ⟨rfl, h0⟩ | ⟨g, cap, cur, rfl, hg, hb, hc, _, hs, _⟩
  · rw [h0]; exact ⟨none, 0, rfl, fun h => absurd h (by omega)⟩
  · exact ⟨_, _, rfl, fun _ => ⟨g, rfl, hg, cur, hb, by omega⟩⟩

set_option maxRecDepth 100000 in
set_option maxHeartbeats 8000000 in
theorem rowOwn_walk (w : World) (a : Option Addr) (len cap : Nat) (zs : List Int) (hr : Rd w w.heap.size a len (zs.map (Value.int .u8))) (hc : len ≤ cap ∧ cap ≤ maxLen ∧ (a = none → cap = 0)) (hz : ∀ z ∈ zs, (Lit.int .u8 z).wf = true)
    (b : Option Addr) (len2 cap2 : Nat) (zs2 : List Int) (hr2 : Rd w w.heap.size b len2 (zs2.map (Value.int .u8))) (hd : len2 ≤ cap2 ∧ cap2 ≤ maxLen ∧ (b = none → cap2 = 0)) (hz2 : ∀ z ∈ zs2, (Lit.int .u8 z).wf = true) (c : Int) (hcb : 0 ≤ c ∧ c ≤ 255) :
    Calls Try.prog 11 #[.slice a len cap, .slice b len2 cap2, .int .u8 c] w fun e w' => e = .returned (.bool true) ∧ Below w.heap.size w w' := by
  obtain ⟨xs, hxs, hby⟩ := bytes_of hz
  obtain ⟨ys, hys, hby2⟩ := bytes_of hz2
  rw [hxs] at hr
  rw [hys] at hr2
  obtain ⟨c, rfl⟩ := Int.eq_ofNat_of_zero_le hcb.1
  have HCB := Lib.hid hcb
  obtain ⟨hc1, hc2, hc3⟩ := hc
  obtain ⟨hd1, hd2, hd3⟩ := hd
  have CA := Lib.hid fun w => keep_cut a len cap 60 w hc1 hc2 (by decide) hc3
  have CB := Lib.hid fun w => keep_cut b len2 cap2 60 w hd1 hd2 (by decide) hd3
  have hN1 : Nat.min len 60 ≤ len := Nat.min_le_left _ _
  have hN2 : Nat.min len 60 ≤ 60 := Nat.min_le_right _ _
  have hN3 : Nat.min len2 60 ≤ len2 := Nat.min_le_left _ _
  have hN4 : Nat.min len2 60 ≤ 60 := Nat.min_le_right _ _
  generalize Nat.min len 60 = N1 at *
  generalize Nat.min len2 60 = N2 at *
  obtain ⟨n, hn⟩ : ∃ n, n = if N2 < N1 then N2 else N1 := ⟨_, rfl⟩
  have hnI : (if N2 < N1 then (N2 : Int) else (N1 : Int)) = (n : Int) := by rw [hn]; split <;> rfl
  have hn1 : n ≤ N1 := by rw [hn]; split <;> omega
  have hn2 : n ≤ N2 := by rw [hn]; split <;> omega
  have f1 : n ≤ cap := by omega
  have f2 : n ≤ cap2 := by omega
  have HC3 := Lib.hid hc3
  have HD3 := Lib.hid hd3
  have S0 : Hid (Sx w w _) := Lib.hid (((Sx.nil w).add (eRd a len (cellsB xs)) hr).add (eRd b len2 (cellsB ys)) hr2)
  have hcI : (cap : Int) ≤ 9223372036854775807 := by unfold maxLen at hc2; omega
  have hdI : (cap2 : Int) ≤ 9223372036854775807 := by unfold maxLen at hd2; omega
  have HN := Lib.hid hn
  have HBY := Lib.hid hby
  have HBY2 := Lib.hid hby2
  clear hr hr2 hn hc2 hd2 hc3 hd3 hxs hys hz hz2 hcb hby hby2
  go_enter Try.func11, Try.ntmps11
  go_wp2_with fail
  refine (CA.out _).mono ?_
  rintro e w1 ⟨rfl, rfl⟩
  go_wp2_with fail
  refine (CB.out _).mono ?_
  rintro e w1 ⟨rfl, rfl⟩
  go_wp2_with fail
  go_quiet (fail)
  have S1 := Lib.hid (S0.out.drewN nq)
  have q1 : Hid ((eRd a n (cellsB ((xs.drop 0).take n))).ok (w.drewN nq)) := Lib.hid (by
    have h := rd_cut (S1.out.rd 1 rfl) hc1 (lo := 0) (n := n) (by omega)
    have e3 : (if cap = 0 then a else Option.map (fun x => x.add 0) a) = a := by
      split
      · rfl
      · cases a <;> simp [Addr.add]
    rw [e3] at h
    exact h)
  have q2 : Hid ((eRd b n (cellsB ((ys.drop 0).take n))).ok (w.drewN nq)) := Lib.hid (by
    have h := rd_cut (S1.out.rd 0 rfl) hd1 (lo := 0) (n := n) (by omega)
    have e3 : (if cap2 = 0 then b else Option.map (fun x => x.add 0) b) = b := by
      split
      · rfl
      · cases b <;> simp [Addr.add]
    rw [e3] at h
    exact h)
  have hlx : xs.length = len := by have := (S1.out.rd 1 rfl).len; rwa [cellsB_len] at this
  have hly : ys.length = len2 := by have := (S1.out.rd 0 rfl).len; rwa [cellsB_len] at this
  have L1 := Lib.hid (part_len (xs := xs) (lo := 0) (n := n) (by omega))
  have L2 := Lib.hid (part_len (xs := ys) (lo := 0) (n := n) (by omega))
  have B1 := Lib.hid (HBY.out.part 0 n)
  have B2 := Lib.hid (HBY2.out.part 0 n)
  generalize (xs.drop 0).take n = xa at *
  generalize (ys.drop 0).take n = xb at *
  have S2 := Lib.hid ((S1.out.add _ q1.out).add _ q2.out)
  have hn60 : n ≤ 60 := by omega
  clear S0 S1 q1 q2 hlx hly HBY HBY2 CA CB HN hnI f1 f2 hc1 hd1 hn1 hn2 hN1 hN2 hN3 hN4
  generalize w.drewN nq = w1 at *
  have LS : Hid ((axL 1 xa xb).length = n) := Lib.hid (by have := L1.out; have := L2.out; rw [axL_len (by omega)]; omega)
  have LT : Hid ((axL c xa xb).length = n) := Lib.hid (by have := L1.out; have := L2.out; rw [axL_len (by omega)]; omega)
  have LU : Hid ((scL c xa).length = n) := Lib.hid (by rw [scL_len]; exact L1.out)
  have hcc : c < 256 := by have := HCB.out; omega
  go_wp2_with fail
  refine (gf_new _).mono ?_
  rintro e w2 ⟨g, rfl, hg, hF, hb⟩
  have S3 := Lib.hid ((S2.out.step hb).add (eFp (some ⟨g, 0, none⟩)) (.inr ⟨g, rfl, hF⟩))
  clear hb hF S2 hg
  -- [f, b, a, ..]
  go_wp2_with fail
  refine (keep_copy xa _ a n cap w2 (S3.out.rd 2 rfl) (Nat.le_refl _) HC3.out (by omega)).mono ?_
  rintro e w3 ⟨v1, rfl, ho, hb⟩
  obtain ⟨x1, y1, rfl, hr⟩ := ho.rd2 L1.out
  have S4 := Lib.hid ((S3.out.step hb).add _ hr.1)
  clear ho hb hr S3
  go_wp2_with fail
  refine (keep_copy xb _ b n cap2 w3 (S4.out.rd 2 rfl) (Nat.le_refl _) HD3.out (by omega)).mono ?_
  rintro e w4 ⟨v2, rfl, ho, hb⟩
  obtain ⟨x2, y2, rfl, hr⟩ := ho.rd2 L2.out
  have S5 := Lib.hid ((S4.out.step hb).add _ hr.1)
  clear ho hb hr S4
  -- [y, x, f, b, a, ..]
  go_wp2_with fail
  refine (row_sum xa xb x1 x2 n y1 y2 w4 (S5.out.rd 1 rfl) (S5.out.rd 0 rfl) B1.out B2.out (by omega)).mono ?_
  rintro e w5 ⟨v3, rfl, ho3, hb5⟩
  have hT : Hid (Below w4.heap.size w4 w5 ∧ OwnB w5 w4.heap.size v3 (axL 1 xa xb)) := Lib.hid ⟨hb5, ho3⟩
  clear ho3 hb5
  have S6 := Lib.hid (S5.out.step hT.out.1)
  obtain ⟨x3, y3, rfl, _⟩ := hT.out.2.room LS.out
  go_wp2_with fail
  refine (row_axpy _ c xa xb x1 x2 n y1 y2 w5 (S6.out.fp 2 rfl) hcc (S6.out.rd 1 rfl) (S6.out.rd 0 rfl) B1.out B2.out (by omega)).mono ?_
  rintro e w6 ⟨v4, rfl, ho4, hb6⟩
  have hT2 : Hid (Below w4.heap.size w4 w6 ∧ OwnB w6 w4.heap.size (.slice x3 n y3) (axL 1 xa xb) ∧ OwnB w6 w4.heap.size v4 (axL c xa xb)) := Lib.hid ⟨hT.out.1.trans (hb6.mono hT.out.1.size), hT.out.2.below hb6, ho4.base hT.out.1.size⟩
  have S7 := Lib.hid (S6.out.step hb6)
  clear ho4 hb6 S6 hT
  obtain ⟨x4, y4, rfl, _⟩ := hT2.out.2.2.room LT.out
  go_wp2_with fail
  refine (row_scale _ c xa x1 n y1 w6 (S7.out.fp 2 rfl) hcc (S7.out.rd 1 rfl) B1.out (by omega)).mono ?_
  rintro e w7 ⟨v5, rfl, ho5, hb7⟩
  have hT3 : Hid (Below w4.heap.size w4 w7 ∧ OwnB w7 w4.heap.size (.slice x3 n y3) (axL 1 xa xb) ∧ OwnB w7 w4.heap.size (.slice x4 n y4) (axL c xa xb) ∧ OwnB w7 w4.heap.size v5 (scL c xa)) := Lib.hid ⟨hT2.out.1.trans (hb7.mono hT2.out.1.size), hT2.out.2.1.below hb7, hT2.out.2.2.below hb7, ho5.base hT2.out.1.size⟩
  clear ho5 hb7 S7 hT2
  obtain ⟨h1, h2, h3, h4⟩ := hT3.out
  obtain ⟨x5, y5, rfl, r5⟩ := h4.room LU.out
  obtain ⟨x4', y4', e4, r4⟩ := h3.room LT.out
  obtain ⟨x3', y3', e3, r3⟩ := h2.room LS.out
  injection e4 with e4; injection e3 with e3
  subst e4 e3
  have HB := Lib.hid h1
  have R3 := Lib.hid r3
  have R4 := Lib.hid r4
  have R5 := Lib.hid r5
  clear hT3 h1 h2 h3 h4 r3 r4 r5
  generalize hG : w4.heap.size = G at *
  have HG := Lib.hid hG
  clear hG
  go_wp2_with fail
  go_loopw [15, 86] (fun _ i wr => ∃ k : Nat, k ≤ n ∧ i = .int .i64 k ∧ Hid (Rms wr G x3 n) ∧ Hid (Rms wr G x4 n) ∧ Hid (Rms wr G x5 n) ∧ Hid (Below G w4 wr)) (fun _ i _ => n - (intOf i).toNat)
  case atStart => exact ⟨0, by omega, rfl, R3, R4, R5, HB⟩
  case round =>
    clear HB R3 R4 R5
    obtain ⟨k, hk, rfl, R3, R4, R5, HB⟩ := hrel
    by_cases hlt : k < n
    · obtain ⟨g3, rfl, r3⟩ := R3.out (by omega)
      obtain ⟨g4, rfl, r4⟩ := R4.out (by omega)
      obtain ⟨g5, rfl, r5⟩ := R5.out (by omega)
      obtain ⟨u3, c3, f3⟩ := r3.cell hlt
      obtain ⟨u4, c4, f4⟩ := (r4.set g3 k (.int .u8 7)).cell hlt
      obtain ⟨u5, c5, f5⟩ := ((r5.set g3 k (.int .u8 7)).set g4 k (.int .u8 8)).cell hlt
      have T3 := Lib.hid (((r3.set g3 k (.int .u8 7)).set g4 k (.int .u8 8)).set g5 k (.int .u8 9))
      have T4 := Lib.hid (((r4.set g3 k (.int .u8 7)).set g4 k (.int .u8 8)).set g5 k (.int .u8 9))
      have T5 := Lib.hid (((r5.set g3 k (.int .u8 7)).set g4 k (.int .u8 8)).set g5 k (.int .u8 9))
      have TB := Lib.hid (((HB.out.setCell (p := ⟨g3, k, none⟩) r3.1 (.int .u8 7)).setCell (p := ⟨g4, k, none⟩) r4.1 (.int .u8 8)).setCell (p := ⟨g5, k, none⟩) r5.1 (.int .u8 9))
      clear r3 r4 r5 R3 R4 R5 HB
      have hlt' : (k : Int) < (n : Int) := by omega
      go_wp2_with fail
      go_roundw
      case rel => exact ⟨k + 1, by omega, by go_num, Lib.hid fun _ => ⟨g3, rfl, T3.out⟩, Lib.hid fun _ => ⟨g4, rfl, T4.out⟩, Lib.hid fun _ => ⟨g5, rfl, T5.out⟩, TB⟩
      case measure => simp [intOf]; omega
    · obtain rfl : k = n := by omega
      have S8 := Lib.hid (S5.out.step (by rw [HG.out]; exact HB.out))
      clear S5 R3 R4 R5 HB
      go_wp2_with fail
      refine (same_B xa x1 a k y1 cap wr (S8.out.rd 1 rfl) (S8.out.rd 4 rfl) (by omega)).mono ?_
      rintro e w9 ⟨rfl, j, rfl⟩
      have S9 := Lib.hid (S8.out.drewN j)
      clear S8
      generalize wr.drewN j = w9 at *
      go_wp2_with fail
      refine (same_B xb x2 b k y2 cap2 w9 (S9.out.rd 0 rfl) (S9.out.rd 3 rfl) (by omega)).mono ?_
      rintro e w10 ⟨rfl, j, rfl⟩
      have S10 := Lib.hid (S9.out.drewN j)
      clear S9
      generalize w9.drewN j = w10 at *
      go_wp2_with fail
      refine (wakes02 _).mono ?_
      rintro e w11 ⟨rfl, hb⟩
      have S11 := Lib.hid (S10.out.step hb)
      clear hb S10
      go_wp2_with fail
      go_ret
      exact ⟨rfl, S11.out.1⟩
end Go.Proofs.Ytfbhbjhfebkpfaa
