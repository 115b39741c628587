/- The walk of wellspringlaw02.RowDots. -/
import Derived.Test.YtfbhbjhfebkpfaaLaw02a
namespace Go.Proofs.Ytfbhbjhfebkpfaa
open Go.RowKit
set_option linter.unusedVariables false

set_option maxRecDepth 100000 in
set_option maxHeartbeats 8000000 in
theorem rowDots_walk (w : World) (a : Option Addr) (len cap : Nat) (zs : List Int) (hr : Rd w w.heap.size a len (zs.map (Value.int .u8))) (hc : len ≤ cap ∧ cap ≤ maxLen ∧ (a = none → cap = 0)) (hz : ∀ z ∈ zs, (Lit.int .u8 z).wf = true) (c : Int) (hcb : 0 ≤ c ∧ c ≤ 255) (at_ : Int) (hat : -9223372036854775808 ≤ at_ ∧ at_ ≤ 9223372036854775807) :
    Calls Try.prog 13 #[.slice a len cap, .int .u8 c, .int .i64 at_] w fun e w' => e = .returned (.bool true) ∧ Below w.heap.size w w' := by
  obtain ⟨xs, hxs, hby⟩ := bytes_of hz
  rw [hxs] at hr
  obtain ⟨c, rfl⟩ := Int.eq_ofNat_of_zero_le hcb.1
  obtain ⟨hc1, hc2, hc3⟩ := hc
  have HCB := Lib.hid hcb
  have HAT := Lib.hid hat
  have CC := Lib.hid fun w => keep_cut a len cap 150 w hc1 hc2 (by decide) hc3
  generalize hN : Nat.min len 150 = N at *
  have hN1 : N ≤ len := by rw [← hN]; exact Nat.min_le_left _ _
  have hN2 : N ≤ 150 := by rw [← hN]; exact Nat.min_le_right _ _
  have hq : ((N : Int).tdiv 3) = ((N / 3 : Nat) : Int) := (Int.ofNat_tdiv N 3).symm
  have HS := Lib.hid ((Sx.nil w).add (eRd a len (cellsB xs)) hr)
  have hcI : (cap : Int) ≤ 9223372036854775807 := by unfold maxLen at hc2; omega
  clear hc2 hxs hz
  clear hr hN
  go_enter Try.func13, Try.ntmps13
  go_wp2_with fail
  refine (CC.out _).mono ?_
  rintro e w1 ⟨rfl, rfl⟩
  go_wp2_with fail
  refine (gf_new _).mono ?_
  rintro e w1 ⟨g, rfl, hg, hF, hb⟩
  have HS1 := Lib.hid ((HS.out.step hb).add (eFp (some ⟨g, 0, none⟩)) (.inr ⟨g, rfl, hF⟩))
  clear hb hF
  generalize hn : (N : Int) / 3 = q at *
  obtain ⟨n, rfl⟩ := Int.eq_ofNat_of_zero_le (show 0 ≤ q by omega)
  have hn3 : 3 * n ≤ N := by omega
  have hnb : n ≤ 50 := by omega
  obtain ⟨m2, hm2⟩ : ∃ m, m = 2 * n := ⟨_, rfl⟩
  obtain ⟨m3, hm3⟩ : ∃ m, m = 3 * n := ⟨_, rfl⟩
  have f1 : n ≤ cap := by omega
  have f2 : m2 ≤ cap := by omega
  have f3 : m3 ≤ cap := by omega
  have f4 : n ≤ m2 := by omega
  have f5 : m2 ≤ m3 := by omega
  have t2 : IntKind.i64.wrap (2 * (n : Int)) = (m2 : Int) := by rw [IntKind.wrap_i64] <;> omega
  have t3 : IntKind.i64.wrap (3 * (n : Int)) = (m3 : Int) := by rw [IntKind.wrap_i64] <;> omega
  have HM2 := Lib.hid hm2
  have HM3 := Lib.hid hm3
  clear hm2 hm3
  have HN := Lib.hid hn
  clear hn hq hcb hat hc3
  go_wp2_with fail
  go_quiet (fail)
  have e1 : m2 - n = n := by have := HM2.out; omega
  have e2 : m3 - m2 = n := by have := HM2.out; have := HM3.out; omega
  have hlx : xs.length = len := by have := (HS1.out.rd 1 rfl).len; rwa [cellsB_len] at this
  have r1 := rd_cut (HS1.out.rd 1 rfl) hc1 (lo := 0) (n := n) (by omega)
  have r2 := rd_cut (HS1.out.rd 1 rfl) hc1 (lo := n) (n := n) (by omega)
  have r3 := rd_cut (HS1.out.rd 1 rfl) hc1 (lo := m2) (n := n) (by have := HM2.out; omega)
  have b1 := hby.part 0 n
  have b2 := hby.part n n
  have b3 := hby.part m2 n
  have l1 := part_len (xs := xs) (lo := 0) (n := n) (by omega)
  have l2 := part_len (xs := xs) (lo := n) (n := n) (by omega)
  have l3 := part_len (xs := xs) (lo := m2) (n := n) (by have := HM2.out; omega)
  rw [e1, e2]
  have e3 : (if cap = 0 then a else Option.map (fun x => x.add 0) a) = a := by
    split
    · rfl
    · cases a <;> simp [Addr.add]
  rw [e3] at r1
  generalize (if cap = n then a else Option.map (fun x => x.add n) a) = a2 at *
  generalize (if cap = m2 then a else Option.map (fun x => x.add m2) a) = a3 at *
  generalize (xs.drop 0).take n = xa at *
  generalize (xs.drop n).take n = xb at *
  generalize (xs.drop m2).take n = xe at *
  have S0 := Lib.hid ((((HS1.out.add (eRd a n _) r1).add (eRd a2 n _) r2).add (eRd a3 n _) r3).drewN nq)
  clear r1 r2 r3 hlx e1 e2 HM2 HM3 HS1 HS CC HN t2 t3 f1 f2 f3 f4 f5 hn3 hN1 hN2
  generalize w1.drewN nq = w2 at *
  generalize cap - n = c2 at *
  generalize cap - m2 = c3 at *
  -- [e, b, a, f, l]
  have B1 := Lib.hid b1
  have B2 := Lib.hid b2
  have B3 := Lib.hid b3
  have L1 := Lib.hid l1
  have L2 := Lib.hid l2
  have L3 := Lib.hid l3
  clear b1 b2 b3 l1 l2 l3
  have hcb : c < 256 := by have := HCB.out; omega
  have LS : Hid ((axL c xa xb).length = n) := Lib.hid (by have := L1.out; have := L2.out; rw [axL_len (by omega)]; omega)
  have E1 := Lib.hid (dot_ax (c := c) (a := xa) (b := xb) (e := xe) hcb (by have := L1.out; have := L2.out; omega) B1.out B2.out B3.out n)
  have hd1 := dotK_lt (axL c xa xb) xe n
  have hd2 := dotK_lt xe xa n
  have hd3 := dotK_lt xb xe n
  go_wp2_with fail
  refine (row_axpy _ c xa xb a a2 n cap c2 w2 (S0.out.fp 3 rfl) hcb (S0.out.rd 2 rfl) (S0.out.rd 1 rfl) B1.out B2.out (by omega)).mono ?_
  rintro e w3 ⟨v1, rfl, ho, hb⟩
  obtain ⟨x1, y1, rfl, hr⟩ := ho.rd2 LS.out
  have S1 := Lib.hid ((S0.out.step hb).add _ hr.1)
  clear ho hb hr S0
  -- [s, e, b, a, f, l]
  go_wp2_with fail
  refine (row_dot _ _ xe x1 a3 n y1 c3 w3 (S1.out.fp 4 rfl) (S1.out.rd 0 rfl) (S1.out.rd 1 rfl) (By.ax B2.out) B3.out (by omega)).mono ?_
  rintro e w4 ⟨rfl, hb⟩
  have S2 := Lib.hid (S1.out.step hb)
  clear hb S1
  go_wp2_with fail
  refine (row_dot _ xe xa a3 a n c3 cap w4 (S2.out.fp 4 rfl) (S2.out.rd 1 rfl) (S2.out.rd 3 rfl) B3.out B1.out (by omega)).mono ?_
  rintro e w5 ⟨rfl, hb⟩
  have S3 := Lib.hid (S2.out.step hb)
  clear hb S2
  go_wp2_with fail
  refine (row_dot _ xb xe a2 a3 n c2 c3 w5 (S3.out.fp 4 rfl) (S3.out.rd 2 rfl) (S3.out.rd 1 rfl) B2.out B3.out (by omega)).mono ?_
  rintro e w6 ⟨rfl, hb⟩
  have S4 := Lib.hid (S3.out.step hb)
  clear hb S3
  generalize dotK (axL c xa xb) xe n = x at *
  generalize dotK xe xa n = y at *
  generalize dotK xb xe n = z at *
  go_wp2_with fail
  obtain ⟨gg, hgg, hFF⟩ : ∃ gg, (some ⟨g, 0, none⟩ : Option Addr) = some ⟨gg, 0, none⟩ ∧ Fld w6 gg := by
    rcases S4.out.fp 4 rfl with h | ⟨gg, h1, h2⟩
    · cases h
    · exact ⟨gg, h1, h2⟩
  obtain rfl : g = gg := by injection hgg with h; injection h
  refine (gf_mul g c y hcb hd2 w6 hFF).mono ?_
  rintro e w7 ⟨rfl, j, rfl⟩
  have S5 := Lib.hid (S4.out.drewN j)
  clear S4 hgg hFF
  generalize w6.drewN j = w7 at *
  go_wp2_with fail
  refine (gf_add _ (fm c y) z (fm_bd _ _) hd3 w7).mono ?_
  rintro e w8 ⟨rfl, rfl⟩
  rw [← E1.out]
  clear E1
  by_cases hn0 : n = 0
  · subst hn0
    go_wp2_with fail
    refine (wakes02 _).mono ?_
    rintro e w9 ⟨rfl, hb⟩
    have S6 := Lib.hid (S5.out.step hb)
    clear hb S5
    go_wp2_with fail
    go_ret
    exact ⟨rfl, S6.out.1⟩
  · have hp : (0 : Int) < (n : Int) := by omega
    have m1 := Int.emod_nonneg at_ (show (n : Int) ≠ 0 by omega)
    have m2' := Int.emod_lt_of_pos at_ hp
    have HQ := Lib.hid fun w => keep_within at_ (n : Int) w HAT.out hp (by omega)
    generalize at_ % (n : Int) = q at *
    obtain ⟨k, rfl⟩ := Int.eq_ofNat_of_zero_le m1
    have hkn : k < n := by omega
    have E2 := Lib.hid (dot_e hkn B1.out)
    have hcell : ∃ b o, a = some ⟨b, o, none⟩ ∧ b < w7.heap.size ∧ ∀ j, j < n → w7.cell? ⟨b, o + j, none⟩ = some (.int .u8 (xa.getD j 0 : Nat)) := (S5.out.rd 3 rfl).atB hkn
    go_wp2_with fail
    refine (HQ.out _).mono ?_
    rintro e w8 ⟨rfl, rfl⟩
    go_wp2_with fail
    refine (row_unit n k _ (by omega) hkn).mono ?_
    rintro e w9 ⟨v2, rfl, ho, hb⟩
    obtain ⟨x2, y2, rfl, hr⟩ := ho.rd2 (eRow_len n k)
    have S6 := Lib.hid ((S5.out.step hb).add _ hr.1)
    clear ho hb hr S5 hcell
    -- [u, s, e, b, a, f, l]
    go_wp2_with fail
    refine (row_dot _ _ xa x2 a n y2 cap w9 (S6.out.fp 5 rfl) (S6.out.rd 0 rfl) (S6.out.rd 4 rfl) (eRow_by n k) B1.out (by omega)).mono ?_
    rintro e w10 ⟨rfl, hb⟩
    have S7 := Lib.hid (S6.out.step hb)
    clear hb S6
    rw [E2.out]
    obtain ⟨bb, oo, rfl, _, hcc⟩ := (S7.out.rd 4 rfl).atB hkn
    have cx := hcc k hkn
    clear hcc
    generalize xa.getD k 0 = xv at *
    go_wp2_with fail
    refine (wakes02 _).mono ?_
    rintro e w11 ⟨rfl, hb⟩
    have S8 := Lib.hid (S7.out.step hb)
    clear hb S7
    go_wp2_with fail
    go_ret
    exact ⟨rfl, S8.out.1⟩
end Go.Proofs.Ytfbhbjhfebkpfaa
