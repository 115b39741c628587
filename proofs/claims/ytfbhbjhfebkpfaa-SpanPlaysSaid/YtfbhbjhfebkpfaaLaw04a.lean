/- law04: the example of the document; in whatever order rows come (SpanOrder). -/
import Derived.Test.YtfbhbjhfebkpfaaSpanD
namespace Go.Proofs.Ytfbhbjhfebkpfaa
open Go.RowKit
set_option linter.unusedVariables false

theorem SpR.base {w : World} {C C' g n : Nat} {o : Option Nat} {R : List (List Nat)} (h : SpR w C g n o R) (hC : C' ≤ C) : SpR w C' g n o R := by
  obtain ⟨h1, gf, a, c, h2, h3, h4, h5⟩ := h
  exact ⟨Nat.le_trans hC h1, gf, a, c, h2, h3, h4.base hC, h5⟩
def eSpR (C g n : Nat) (o : Option Nat) (R : List (List Nat)) : Ent := ⟨fun w => SpR w C g n o R, fun _ _ h hb => h.new hb⟩
theorem Sx.spR {w0 w : World} {L : List Ent} (h : Sx w0 w L) (i : Nat) {C g n : Nat} {o : Option Nat} {R : List (List Nat)} (hi : L[i]? = some (eSpR C g n o R)) : SpR w C g n o R := h.get i hi
theorem RdM.hdb {w : World} {B : Nat} {a : Option Addr} {n : Nat} {M : List (List Nat)} (h : RdM w B a n M) : ∃ vs, Rd w B a n vs ∧ HdB w B M vs := by
  obtain ⟨h1, vs, h2, h3⟩ := h
  exact ⟨vs, h2, by rw [h2.1, h1], h3⟩
theorem HdB.more {w : World} {C D : Nat} {M : List (List Nat)} {vs : List Value} (h : HdB w C M vs) (hD : C ≤ D) : HdB w D M vs :=
  ⟨h.1, fun i l hl => by obtain ⟨a', c', h1, h2, h3⟩ := h.2 i l hl; exact ⟨a', c', h1, h2.more hD, h3⟩⟩

theorem below_none {w w' : World} (hg : w.grownBy w' none) : Below w.heap.size w w' := ⟨hg.os, hg.tape, hg.output, hg.size, fun k hk => hg.block k hk (by simp)⟩
theorem EvB.hlt {w : World} {C : Nat} {v : Value} {M : List (List Nat)} (h : EvB w C v M) : ∀ b, v.ownBlock = some b → C ≤ b ∧ b < w.heap.size := by
  obtain ⟨vs, h1, _⟩ := h
  exact fun b hb => h1.lt b hb

theorem wf12 : Wf 2 [[1, 2]] := by unfold Wf; decide
theorem by12 : By [1, 2] := by unfold By; decide
theorem new12 : newB [] [1, 2] = true := by decide +kernel
theorem old12 : newB ([] ++ [[1, 2]]) [1, 2] = false := by decide +kernel
theorem rank12 : (rref ([] ++ [[1, 2]] ++ [[1, 2]])).length = 1 := by decide +kernel
set_option maxRecDepth 100000 in
set_option maxHeartbeats 4000000 in
theorem wakes04 (w : World) :
    Calls Try.prog 76 #[] w fun e w' => e = .returned (.bool true) ∧ Below w.heap.size w w' := by
  go_enter Try.func76, Try.ntmps76
  go_wp2_with fail
  refine (gf_new _).mono ?_
  rintro e w1 ⟨gf, rfl, hg, hF, hb⟩
  have HB1 := Lib.hid hb
  have HN := Lib.hid (span_new gf 2 w1 hF (by omega))
  clear hg hF hb
  go_wp2_with fail
  refine HN.out.mono ?_
  rintro e w2 ⟨s, rfl, hs, hS, hb⟩
  have HB2 := Lib.hid (HB1.out.trans (hb.mono HB1.out.size))
  have hC2 : w1.heap.size ≤ w2.heap.size := hb.size
  have hwC : w.heap.size ≤ w1.heap.size := HB1.out.size
  have HS2 := Lib.hid hS
  clear hs hS hb HN HB1
  generalize w1.heap.size = C at *
  go_wp2_with fail
  have hba := (Below.refl w2.heap.size w2).alloc (Nat.le_refl _) (.cells #[.int .u8 1, .int .u8 2] 5)
  have HA := Lib.hid (span_add C s 2 none [] [1, 2] (some ⟨w2.heap.size, 0, none⟩) 2 _ (HS2.out.new hba) (by intro r hr; simp at hr) (lit_rd w2 [1, 2] _ rfl 2 rfl _ rfl) (fun e => by cases e) by12 (by omega) (Nat.le_trans hC2 hba.size))
  rw [new12] at HA
  have HB3 := Lib.hid (HB2.out.trans (hba.mono (Nat.le_trans hwC hC2)))
  have HS3 := Lib.hid (HS2.out.new hba)
  have hC3 : C ≤ (w2.alloc (.cells #[.int .u8 1, .int .u8 2] 5)).heap.size := Nat.le_trans hC2 hba.size
  clear hba HS2 HB2
  generalize w2.alloc (.cells #[.int .u8 1, .int .u8 2] 5) = w3 at *
  refine HA.out.mono ?_
  rintro e w4 ⟨rfl, o', hS, hU, -⟩
  have hb4 := HS3.out.below hU hC3
  have HB4 := Lib.hid (HB3.out.trans (hb4.mono hwC))
  have HS4 := Lib.hid hS
  have hC4 : C ≤ w4.heap.size := Nat.le_trans hC3 hU.size
  clear hS hU hb4 HA HS3 HB3
  go_wp2_with fail
  have hba := (Below.refl w4.heap.size w4).alloc (Nat.le_refl _) (.cells #[.int .u8 1, .int .u8 2] 5)
  have HA := Lib.hid (span_add C s 2 o' ([] ++ [[1, 2]]) [1, 2] (some ⟨w4.heap.size, 0, none⟩) 2 _ (HS4.out.new hba) wf12 (lit_rd w4 [1, 2] _ rfl 2 rfl _ rfl) (fun e => by cases e) by12 (by omega) (Nat.le_trans hC4 hba.size))
  rw [old12] at HA
  have HB5 := Lib.hid (HB4.out.trans (hba.mono (Nat.le_trans hwC hC4)))
  have HS5 := Lib.hid (HS4.out.new hba)
  have hC5 : C ≤ (w4.alloc (.cells #[.int .u8 1, .int .u8 2] 5)).heap.size := Nat.le_trans hC4 hba.size
  clear hba HS4 HB4
  generalize w4.alloc (.cells #[.int .u8 1, .int .u8 2] 5) = w5 at *
  refine HA.out.mono ?_
  rintro e w6 ⟨rfl, o6, hS, hU, -⟩
  have hb6 := HS5.out.below hU hC5
  have HB6 := Lib.hid (HB5.out.trans (hb6.mono hwC))
  have HK := Lib.hid (span_rank C s 2 o6 _ w6 hS)
  rw [rank12] at HK
  clear hS hU hb6 HA HS5 HB5
  go_wp2_with fail
  refine HK.out.mono ?_
  rintro e w7 ⟨rfl, rfl⟩
  go_wp2_with fail
  go_ret
  exact ⟨rfl, HB6.out⟩

set_option maxRecDepth 100000 in
set_option maxHeartbeats 8000000 in
theorem spanOrder_walk (w : World) (a : Option Addr) (len cap : Nat) (zs : List Int) (hr : Rd w w.heap.size a len (zs.map (Value.int .u8))) (hc : len ≤ cap ∧ cap ≤ maxLen ∧ (a = none → cap = 0)) (hz : ∀ z ∈ zs, (Lit.int .u8 z).wf = true) (n0 : Int) (hn0 : -9223372036854775808 ≤ n0 ∧ n0 ≤ 9223372036854775807) (t0 : Int) (ht0 : -9223372036854775808 ≤ t0 ∧ t0 ≤ 9223372036854775807) :
    Calls Try.prog 20 #[.slice a len cap, .int .i64 n0, .int .i64 t0] w fun e w' => e = .returned (.bool true) ∧ Below w.heap.size w w' := by
  obtain ⟨xs, hxs, hby⟩ := bytes_of hz
  rw [hxs] at hr
  obtain ⟨hc1, hc2, hc3⟩ := hc
  have CW := Lib.hid (keep_within n0 10 w hn0 (by omega) (by omega))
  have CC := Lib.hid fun w => keep_cut a len cap 120 w hc1 hc2 (by decide) hc3
  have hq1 : 0 ≤ n0 % 10 := Int.emod_nonneg _ (by omega)
  have hq2 : n0 % 10 < 10 := Int.emod_lt_of_pos _ (by omega)
  generalize n0 % 10 = q at *
  obtain ⟨n1, rfl⟩ := Int.eq_ofNat_of_zero_le hq1
  obtain ⟨n, hn⟩ : ∃ n, n = 1 + n1 := ⟨_, rfl⟩
  have hnI : (1 : Int) + (n1 : Int) = (n : Int) := by omega
  have hn1 : 1 ≤ n := by omega
  have hn2 : n ≤ 10 := by omega
  have HR := Lib.hid (rd_cut0 hr (n := Nat.min len 120) (Nat.min_le_left _ _))
  have hm1 : Nat.min len 120 ≤ cap := Nat.le_trans (Nat.min_le_left _ _) hc1
  have hby2 : By (xs.take (Nat.min len 120)) := fun x hx => hby x (List.mem_of_mem_take hx)
  generalize Nat.min len 120 = N at *
  generalize xs.take N = ys at *
  have CE := Lib.hid (law_even n ys _ a N cap w HR.out (Nat.le_refl _) ⟨hm1, hc2, hc3⟩ hn1 (by omega))
  have HAW := Lib.hid (evenL_wf (n := n) 14 ys hby2)
  have HAL := Lib.hid (evenL_len (n := n) 14 ys)
  generalize evenL n 14 ys = A at *
  have HN := Lib.hid hn
  clear hr hc1 hc2 hc3 hq1 hq2 hn HR hm1 hby hby2 hxs hz hn0
  go_enter Try.func20, Try.ntmps20
  go_wp2_with fail
  refine CW.out.mono ?_
  rintro e w1 ⟨rfl, rfl⟩
  go_wp2_with fail
  refine (CC.out _).mono ?_
  rintro e w1 ⟨rfl, rfl⟩
  go_wp2_with fail
  refine CE.out.mono ?_
  rintro e w1 ⟨v, rfl, hE, hb⟩
  obtain ⟨L, hL⟩ : ∃ L, A.length = L := ⟨_, rfl⟩
  obtain ⟨aA, cA, rfl, hA, hnA, hcA, hmA⟩ := hE.rdM2 hL
  have hL14 : L ≤ 14 := by rw [← hL]; exact HAL.out
  have HB1 := Lib.hid hb
  have HA1 := Lib.hid hA
  have HL := Lib.hid hL
  clear hE hb hA CW CC CE hL HAL
  go_wp2_with fail
  refine (gf_new _).mono ?_
  rintro e w2 ⟨gf, rfl, hg, hF, hb⟩
  have HB2 := Lib.hid (HB1.out.trans (hb.mono HB1.out.size))
  have HA2 : Hid (RdM w2 w2.heap.size aA L A) := Lib.hid ((HA1.out.below hb (Nat.le_refl _)).more hb.size)
  have HF2 := Lib.hid hF
  clear hg hF hb HA1 HB1
  have hgB : gf < w2.heap.size := Blk.lt HF2.out
  have hwB : w.heap.size ≤ w2.heap.size := HB2.out.size
  generalize hB0 : w2.heap.size = B0 at *
  have HB0 := Lib.hid hB0
  clear hB0
  go_wp2_with fail
  refine (span_new gf n w2 HF2.out (by omega)).mono ?_
  rintro e w3 ⟨gs, rfl, hgs, hS, hb⟩
  rw [HB0.out] at hgs hS hb
  have HB3 := Lib.hid hb
  have hs3 : B0 ≤ w3.heap.size := by have := hb.size; have := HB0.out; omega
  have hgs3 : gs < w3.heap.size := hS.lt.2
  have HS3 := Lib.hid hS
  have HF3 := Lib.hid (HF2.out.below hb hgB)
  clear hS hb
  go_wp2_with fail
  refine (span_new gf n w3 HF3.out (by omega)).mono ?_
  rintro e w4 ⟨gt, rfl, hgt, hT, hb⟩
  have HB4 := Lib.hid (HB3.out.trans (hb.mono hs3))
  have hs4 : B0 ≤ w4.heap.size := Nat.le_trans hs3 hb.size
  have HS4 : Hid (∃ o, SpR w4 B0 gs n o (rref (A.take 0))) := Lib.hid ⟨none, HS3.out.new hb⟩
  have HT4 : Hid (SpR w4 B0 gt n none []) := Lib.hid (hT.base hs3)
  have hst : gs ≠ gt := by omega
  have hgtB : B0 ≤ gt := by omega
  clear hT hb HS3 HF3 HB3 hgt
  have hk1 : 0 ≤ t0 % ((L : Int) + 1) := Int.emod_nonneg _ (by omega)
  have hk2 : t0 % ((L : Int) + 1) < (L : Int) + 1 := Int.emod_lt_of_pos _ (by omega)
  have CK := Lib.hid (keep_within t0 ((L : Int) + 1) w4 ht0 (by omega) (by omega))
  generalize t0 % ((L : Int) + 1) = kq at *
  obtain ⟨k, rfl⟩ := Int.eq_ofNat_of_zero_le hk1
  have hkL : k ≤ L := by omega
  have hLw : IntKind.i64.wrap ((L : Int) + 1) = (L : Int) + 1 := by rw [IntKind.wrap_i64]; omega
  clear hk1 hk2 ht0
  go_wp2_with fail
  refine CK.out.mono ?_
  rintro e w5 ⟨rfl, rfl⟩
  clear CK
  have hc0 : ((rref (A.take 0)).length : Int) = 0 := by rw [List.take_zero]; rfl
  have HBW0 : Hid (Below B0 w4 w4) := Lib.hid (Below.refl _ _)
  go_wp2_with fail
  go_loopw [12, 14, 44] (fun c _ i wr => ∃ r : Nat, r ≤ L ∧ i = .int .i64 r ∧ c = .int .i64 ((rref (A.take r)).length : Nat) ∧ Hid (∃ o, SpR wr B0 gs n o (rref (A.take r))) ∧ Hid (SpR wr B0 gt n none []) ∧ Hid (Below B0 w4 wr)) (fun _ _ i _ => L - (intOf i).toNat)
  case atStart => exact ⟨0, by omega, rfl, rfl, HS4, HT4, HBW0⟩
  case round =>
    clear HS4 HT4 HBW0 hc0
    obtain ⟨r, hr, rfl, rfl, HS, HT, HBW⟩ := hrel
    obtain ⟨o, hS⟩ := HS.out
    have hBr : B0 ≤ wr.heap.size := Nat.le_trans hs4 HBW.out.size
    by_cases hrL : r < L
    · have hrLI : (r : Int) < (L : Int) := by omega
      have hrA : r < A.length := by rw [HL.out]; exact hrL
      obtain ⟨bh, oh, ax, cx, rfl, hbh, hcell0, hrd0, hnil, -⟩ := HA2.out.at hrL
      have hgr := HAW.out.get hrA
      rw [hgr.1] at hcell0 hrd0
      have hbB : Below B0 w2 wr := HB4.out.trans HBW.out
      have hcell := (hbB.cell (p := ⟨bh, oh + r, none⟩) hbh).trans hcell0
      have hrd := hrd0.below hbB (Nat.le_refl _)
      have hwt : Wf n (A.take r) := fun l hl => HAW.out l (List.mem_of_mem_take hl)
      have hwt1 : Wf n (A.take (r + 1)) := fun l hl => HAW.out l (List.mem_of_mem_take hl)
      have hsn := take_snoc hrA
      have hmem : A.getD r [] ∈ A.take (r + 1) := by rw [hsn]; simp
      have hup := rank_up hwt hgr.1 hgr.2
      have hlo := (rank_new hwt hgr.1 hgr.2).1
      have hagain := rref_again hwt1 hmem
      have hnew2 : newB (A.take (r + 1)) (A.getD r []) = false := by unfold newB; rw [hagain]; simp
      have CA1 := Lib.hid fun w o hS hx hC => span_add B0 gs n o (A.take r) (A.getD r []) ax cx w hS hwt hx hnil hgr.2 (by omega) hC
      have CA2 := Lib.hid fun w o hS hx hC => span_add B0 gs n o (A.take (r + 1)) (A.getD r []) ax cx w hS hwt1 hx hnil hgr.2 (by omega) hC
      have hnb : newB (A.take r) (A.getD r []) = decide ((rref (A.take (r + 1))).length ≠ (rref (A.take r)).length) := by unfold newB; rw [hsn]
      rw [hnb] at CA1
      rw [hnew2] at CA2
      rw [hagain] at CA2
      rw [← hsn] at CA1 hup hlo
      have HS := Lib.hid hS
      have HRD := Lib.hid hrd
      have HBB := Lib.hid hbB
      clear hS hwt hwt1 hsn hmem hagain hnew2 hnb hgr hcell0 hrd0 hrd hbB HA2
      generalize A.getD r [] = x at *
      generalize hR0 : rref (A.take r) = R0 at *
      generalize hR1 : rref (A.take (r + 1)) = R1 at *
      have HR1 := Lib.hid hR1
      clear hR0 hR1
      go_wp2_with fail
      refine (CA1.out wr o HS.out (HRD.out.more hBr) hBr).mono ?_
      rintro e w5 ⟨rfl, o5, hS5, hU5, -⟩
      have HT5 := Lib.hid (HS.out.two hU5 HT.out (by exact fun e => hst e.symm) (.inl rfl))
      have HB5 := Lib.hid (HS.out.below hU5 hBr)
      have HS5 := Lib.hid hS5
      have hB5 : B0 ≤ w5.heap.size := Nat.le_trans hBr hU5.size
      have HRD5 := Lib.hid (HRD.out.below HB5.out (Nat.le_refl _))
      have hcell5 := (HB5.out.cell (p := ⟨bh, oh + r, none⟩) hbh).trans hcell
      clear hS5 hU5 HS HT HRD CA1 hcell
      have hcnt : (decide (R1.length ≠ R0.length) = true ∧ R1.length = R0.length + 1) ∨ (decide (R1.length ≠ R0.length) = false ∧ R1.length = R0.length) := by
        by_cases h : R1.length = R0.length
        · right; exact ⟨by simp [h], h⟩
        · left; exact ⟨by simp [h], by omega⟩
      clear hup hlo
      have hcl : (R1.length : Int) ≤ 1000000 ∧ (R0.length : Int) ≤ 1000000 := by
        have h1 : R1.length ≤ n := by
          obtain ⟨-, gf1, a1, c1, -, -, hM, -⟩ := HS5.out
          have := (rref_len (show Wf n (A.take (r + 1)) from fun l hl => HAW.out l (List.mem_of_mem_take hl))).1
          rwa [HR1.out] at this
        rcases hcnt with ⟨-, h⟩ | ⟨-, h⟩ <;> omega
      have hne0 : ((R1.length : Int) != (R1.length : Int)) = false := by simp
      obtain ⟨hcl1, hcl2⟩ := hcl
      rcases hcnt with ⟨hd, hcn⟩ | ⟨hd, hcn⟩
      · rw [hd]
        have hcI : ((R0.length : Int) + 1) = (R1.length : Int) := by omega
        have hcw : IntKind.i64.wrap ((R0.length : Int) + 1) = (R1.length : Int) := by rw [IntKind.wrap_i64]; omega
        have hcw2 : IntKind.i64.wrap (R1.length : Int) = (R1.length : Int) := by rw [IntKind.wrap_i64]; omega
        clear hd hcn
        go_wp2_with fail
        refine (CA2.out w5 o5 HS5.out (HRD5.out.more hB5) hB5).mono ?_
        rintro e w6 ⟨rfl, o6, hS6, hU6, -⟩
        have HT6 := Lib.hid (HS5.out.two hU6 HT5.out (by exact fun e => hst e.symm) (.inl rfl))
        have HB6 := Lib.hid (HS5.out.below hU6 hB5)
        have HS6 := Lib.hid hS6
        clear hS6 hU6 CA2
        go_wp2_with fail
        refine (span_rank B0 gs n o6 R1 w6 HS6.out).mono ?_
        rintro e w7 ⟨rfl, rfl⟩
        have HBZ := Lib.hid ((HBW.out.trans HB5.out).trans HB6.out)
        have HSZ : Hid (∃ o, SpR w6 B0 gs n o (rref (A.take (r + 1)))) := Lib.hid ⟨o6, by rw [HR1.out]; exact HS6.out⟩
        go_wp2_with fail
        go_roundw
        case rel => first | exact ⟨r + 1, by omega, by go_num, by rw [HR1.out], HSZ, HT6, HBZ⟩ | ((repeat apply Exists.intro); exact ⟨⟨r + 1, by omega, by go_num, by rw [HR1.out], HSZ, HT6, HBZ⟩, rfl⟩)
        case measure => simp [intOf]; omega
      · rw [hd]
        have hne1 : ((R1.length : Int) != (R0.length : Int)) = false := by rw [hcn]; simp
        have HCN := Lib.hid hcn
        clear hd hcn
        go_wp2_with fail
        refine (CA2.out w5 o5 HS5.out (HRD5.out.more hB5) hB5).mono ?_
        rintro e w6 ⟨rfl, o6, hS6, hU6, -⟩
        have HT6 := Lib.hid (HS5.out.two hU6 HT5.out (by exact fun e => hst e.symm) (.inl rfl))
        have HB6 := Lib.hid (HS5.out.below hU6 hB5)
        have HS6 := Lib.hid hS6
        clear hS6 hU6 CA2
        go_wp2_with fail
        refine (span_rank B0 gs n o6 R1 w6 HS6.out).mono ?_
        rintro e w7 ⟨rfl, rfl⟩
        have HBZ := Lib.hid ((HBW.out.trans HB5.out).trans HB6.out)
        have HSZ : Hid (∃ o, SpR w6 B0 gs n o (rref (A.take (r + 1)))) := Lib.hid ⟨o6, by rw [HR1.out]; exact HS6.out⟩
        go_wp2_with fail
        go_roundw
        case rel => first | exact ⟨r + 1, by omega, by go_num, by rw [HR1.out, HCN.out], HSZ, HT6, HBZ⟩ | ((repeat apply Exists.intro); exact ⟨⟨r + 1, by omega, by go_num, by rw [HR1.out, HCN.out], HSZ, HT6, HBZ⟩, rfl⟩)
        case measure => simp [intOf]; omega
    · obtain rfl : r = L := by omega
      rw [List.take_of_length_le (by rw [HL.out]; exact Nat.le_refl _)] at hS
      have HS := Lib.hid hS
      have HA5 : Hid (RdM wr B0 aA r A) := Lib.hid (HA2.out.below (HB4.out.trans HBW.out) (Nat.le_refl _))
      clear hS
      have hUD := (HA5.out.drop hcA hkL).hdb
      obtain ⟨usD, hUD, hHD⟩ := hUD
      obtain ⟨usA, hUA, hHA⟩ := HA5.out.hdb
      have HnD := Lib.hid (nil_drop (k := k) hnA)
      have hlD : ([] : List (List Nat)).length + (A.drop k).length ≤ 1000000 := by rw [List.length_drop, HL.out]; simp; omega
      have hlT : ([] ++ A.drop k).length + A.length ≤ 1000000 := by rw [List.nil_append, List.length_drop, HL.out]; omega
      have hkLI : (k : Int) ≤ (r : Int) := by omega
      have hkcI : (k : Int) ≤ (cA : Int) := by omega
      have hrcI : (r : Int) ≤ (cA : Int) := by omega
      have HUD := Lib.hid hUD
      have HHD := Lib.hid hHD
      have HUA := Lib.hid hUA
      have HHA := Lib.hid hHA
      have HNA := Lib.hid hnA
      clear hUD hHD hUA hHA hnA
      go_wp2_with (first
        | (at_builtin; refine wp_appHB (C := B0) (v := .slice none 0 0) (M := []) (N := A.drop k) rfl _ _ rfl (EvB.nil _ _) hBr hlD rfl rfl HnD.out HUD.out HHD.out ?_))
      all_goals (
      intro v7 w7 hE7 hb7 hg7 hat7
      have HE7 := Lib.hid hE7
      have hB7 : B0 ≤ w7.heap.size := Nat.le_trans hBr hg7.size
      have HUA7 := Lib.hid (HUA.out.below hb7 (Nat.le_refl _))
      have HHA7 := Lib.hid (HHA.out.below hb7 (Nat.le_refl _))
      have hb7r : Below wr.heap.size wr w7 := below_none hg7
      clear hE7 HUA HHA HUD HHD HnD
      have HN7 : Hid (aA = none → cA = 0) := HNA
      go_wp2_with (first
        | (at_builtin; refine wp_appHB (w := w7) (C := B0) (v := v7) (M := [] ++ A.drop k) (N := A) rfl _ _ rfl HE7.out hB7 hlT rfl rfl (fun e => by have := HN7.out e; omega) HUA7.out HHA7.out ?_))
      intro v8 w8 hE8 hb8 hg8 hat8
      have hb8r : Below wr.heap.size wr w8 := hb7r.grown hg8 hg7.size (fun b hb => by
        rcases hat7 with h | h
        · rw [h] at hb; simp [Value.ownBlock] at hb
        · rw [h] at hb; injection hb with hb; omega)
      have hE8 : EvB w8 B0 v8 (A.drop k ++ A) := hE8
      have hwb : Wf n (A.drop k ++ A) := wf_app (fun x hx => HAW.out x (List.mem_of_mem_drop hx)) HAW.out
      have hrb : rref (A.drop k ++ A) = rref A := rref_turned HAW.out k
      have hmb : (A.drop k ++ A).length ≤ 1000000 := by rw [List.length_append, List.length_drop, HL.out]; omega
      generalize A.drop k ++ A = bb at *
      obtain ⟨m, hm⟩ : ∃ m, bb.length = m := ⟨_, rfl⟩
      obtain ⟨a8, c8, rfl⟩ := hE8.val
      rw [hm] at hE8 hmb ⊢
      have HE8 := Lib.hid hE8
      have HHB : Hid (∀ b, (Value.slice a8 m c8).ownBlock = some b → b < w8.heap.size) := Lib.hid fun b hb => (hE8.hlt b hb).2
      have HS8 := Lib.hid (HS.out.new hb8r)
      have HT8 : Hid (∃ ot, SpR w8 B0 gt n ot (rref (bb.take 0)) ∧ (∀ b, ot = some b → w8.heap.size ≤ b)) := Lib.hid ⟨none, HT.out.new hb8r, by simp⟩
      have HOO : Hid (∀ b, o = some b → b < w8.heap.size) := Lib.hid fun b hb => (HS8.out.hto b hb).2.2
      have HB8 := Lib.hid (HBW.out.trans (hb8r.mono hBr))
      have hB8 : B0 ≤ w8.heap.size := Nat.le_trans hBr hb8r.size
      have HWB := Lib.hid hwb
      have HRB := Lib.hid hrb
      have HMB := Lib.hid hm
      clear hE8 hb8 hg8 hat8 hb7 hg7 hat7 hb7r hb8r HE7 HUA7 HHA7 HS HT HBW hwb hrb hm hlD hlT hkLI hkcI hrcI
      generalize hB2 : w8.heap.size = B2 at *
      have HB2' := Lib.hid hB2
      clear hB2
      go_wp2_with fail
      go_loopw [16, 70] (fun _ i wq => ∃ j : Nat, j ≤ m ∧ i = .int .i64 j ∧ Hid (∃ ot, SpR wq B0 gt n ot (rref (bb.take j)) ∧ (∀ b, ot = some b → B2 ≤ b)) ∧ Hid (SpR wq B0 gs n o (rref A)) ∧ Hid (EvB wq B0 (.slice a8 m c8) bb) ∧ Hid (Below B0 w4 wq) ∧ B2 ≤ wq.heap.size) (fun _ i _ => m - (intOf i).toNat)
      case atStart => exact ⟨0, by omega, rfl, HT8, HS8, HE8, HB8, by rw [HB2'.out]; exact Nat.le_refl _⟩
      case round =>
        clear HT8 HS8 HE8 HB8
        obtain ⟨j, hj, rfl, HT, HS, HE, HB, hsz⟩ := hrel
        have hBq : B0 ≤ wr.heap.size := Nat.le_trans hB8 hsz
        obtain ⟨ot, hT, hot⟩ := HT.out
        by_cases hjm : j < m
        · have hjmI : (j : Int) < (m : Int) := by omega
          have hjb : j < bb.length := by rw [HMB.out]; exact hjm
          obtain ⟨gh, ax, cx, rfl, hgh1, hgh2, hcell, hrd, hnil, -⟩ := HE.out.at hjm
          have hgr := HWB.out.get hjb
          rw [hgr.1] at hcell hrd
          have hwt : Wf n (bb.take j) := fun l hl => HWB.out l (List.mem_of_mem_take hl)
          have CA := Lib.hid (span_add B0 gt n ot (bb.take j) (bb.getD j []) ax cx wr hT hwt (hrd.more hBq) hnil hgr.2 (by omega) hBq)
          rw [← take_snoc hjb] at CA
          have HT := Lib.hid hT
          have hgh8 : gh < B2 := HHB.out gh rfl
          clear hrd hnil hgr hwt hT
          generalize newB (bb.take j) (bb.getD j []) = nb at *
          go_wp2_with fail
          refine CA.out.mono ?_
          rintro e w9 ⟨rfl, o9, hT9, hU9, ho9⟩
          have HS9 := Lib.hid (HT.out.two hU9 HS.out hst (by
            cases ho : o with
            | none => exact .inl rfl
            | some b =>
              right
              intro e
              have h1 := HOO.out b ho
              have h2 := hot b e.symm
              omega))
          have HE9 := Lib.hid (HT.out.ev hU9 HE.out (Nat.le_refl _) hBq (by
            right
            intro e
            have h2 := hot gh e.symm
            omega))
          have HB9 := Lib.hid (HB.out.trans (HT.out.below hU9 hBq))
          have hs9 : B2 ≤ w9.heap.size := Nat.le_trans hsz hU9.size
          have HT9 : Hid (∃ ot, SpR w9 B0 gt n ot (rref (bb.take (j + 1))) ∧ (∀ b, ot = some b → B2 ≤ b)) := Lib.hid ⟨o9, hT9, fun b hb => by
            rcases ho9 with h | ⟨b', h, h2⟩
            · exact hot b (by rw [← h]; exact hb)
            · rw [h] at hb; injection hb with hb; omega⟩
          clear hT9 hU9 ho9 CA HT HS HE HB hcell
          go_wp2_with fail
          go_roundw
          case rel => first | exact ⟨j + 1, by omega, by go_num, HT9, HS9, HE9, HB9, hs9⟩ | ((repeat apply Exists.intro); exact ⟨⟨j + 1, by omega, by go_num, HT9, HS9, HE9, HB9, hs9⟩, rfl⟩)
          case measure => simp [intOf]; omega
        · obtain rfl : j = m := by omega
          rw [List.take_of_length_le (by rw [HMB.out]; exact Nat.le_refl _), HRB.out] at hT
          have hbB : Below B0 w2 wr := HB4.out.trans HB.out
          have HBT := Lib.hid (HB2.out.trans (hbB.mono hwB))
          have S1 := Lib.hid ((((Sx.nil wr).add (eRdM aA r A) ((HA2.out.below hbB (Nat.le_refl _)).more hBq)).add (eFp (some ⟨gf, 0, none⟩)) (.inr ⟨gf, rfl, HF2.out.below hbB hgB⟩)).add (eSpR B0 gt n ot (rref A)) hT |>.add (eSpR B0 gs n o (rref A)) HS.out)
          obtain ⟨hrl1, hrl2⟩ := rref_len HAW.out
          obtain ⟨ls, hRed, -⟩ := rref_spec HAW.out
          have HRW := Lib.hid hRed.wf
          obtain ⟨Z, hZ⟩ : ∃ Z, (rref A).length = Z := ⟨_, rfl⟩
          have HZ := Lib.hid hZ
          have hZ64 : Z ≤ 64 := by omega
          have hRl : Hid (∀ l ∈ rref A, l.length ≤ 1000000) := Lib.hid (fun l hl => by have := (HRW.out l hl).1; omega)
          clear hT hbB HT HS HE HB hRed hrl1 hrl2 hZ hot
          generalize hRA : rref A = R at *
          have HRA := Lib.hid hRA
          clear hRA
          have hR64 : R.length ≤ 64 := by rw [HZ.out]; exact hZ64
          -- [s, t, f, a]
          go_wp2_with fail
          refine (span_rows B0 gs n o R wr (S1.out.spR 0 rfl) HRW.out (by omega) hR64).mono ?_
          rintro e wA ⟨v, rfl, hM, hb⟩
          obtain ⟨a1, c1, rfl, hM1, -, -, -⟩ := hM.rdM2 HZ.out
          have S2 := Lib.hid ((S1.out.step hb).add (eRdM a1 Z R) hM1)
          clear hM hb hM1 S1
          -- [r1, s, t, f, a]
          go_wp2_with fail
          refine (span_rows B0 gt n ot R wA (S2.out.spR 2 rfl) HRW.out (by omega) hR64).mono ?_
          rintro e wB ⟨v, rfl, hM, hb⟩
          obtain ⟨a2, c2, rfl, hM1, -, -, -⟩ := hM.rdM2 HZ.out
          have S3 := Lib.hid ((S2.out.step hb).add (eRdM a2 Z R) hM1)
          clear hM hb hM1 S2
          -- [r2, r1, s, t, f, a]
          go_wp2_with fail
          refine (keep_rows R a1 a2 Z c1 c2 wB (S3.out.rdM 1 rfl) (S3.out.rdM 0 rfl) (by omega) hRl.out).mono ?_
          rintro e wC ⟨rfl, z, rfl⟩
          have S4 := Lib.hid (S3.out.drewN z)
          clear S3
          generalize wB.drewN z = wC at *
          go_wp2_with fail
          refine (span_rows B0 gs n o R wC (S4.out.spR 2 rfl) HRW.out (by omega) hR64).mono ?_
          rintro e wD ⟨v, rfl, hM, hb⟩
          obtain ⟨a3, c3, rfl, hM1, -, -, -⟩ := hM.rdM2 HZ.out
          have S5 := Lib.hid ((S4.out.step hb).add (eRdM a3 Z R) hM1)
          clear hM hb hM1 S4
          -- [r3, r2, r1, s, t, f, a]
          go_wp2_with fail
          refine (mat_Reduce (some ⟨gf, 0, none⟩) n r _ A aA wD (S5.out.fp 5 rfl) (S5.out.rdM 6 rfl) HAW.out (by omega) (by omega)).mono ?_
          rintro e wE ⟨v, rfl, hM, hb⟩
          rw [HRA.out] at hM
          obtain ⟨a4, c4, rfl, hM1, -, -, -⟩ := hM.rdM2 HZ.out
          have S6 := Lib.hid ((S5.out.step hb).add (eRdM a4 Z R) hM1)
          clear hM hb hM1 S5
          -- [r4, r3, r2, r1, s, t, f, a]
          go_wp2_with fail
          refine (keep_rows R a3 a4 Z c3 c4 wE (S6.out.rdM 1 rfl) (S6.out.rdM 0 rfl) (by omega) hRl.out).mono ?_
          rintro e wF ⟨rfl, z2, rfl⟩
          have S7 := Lib.hid (S6.out.drewN z2)
          clear S6
          generalize wE.drewN z2 = wF at *
          go_wp2_with fail
          refine (wakes04 wF).mono ?_
          rintro e wG ⟨rfl, hb⟩
          have S8 := Lib.hid (S7.out.step hb)
          clear hb S7
          go_wp2_with fail
          go_ret
          exact ⟨rfl, HBT.out.trans (S8.out.1.mono (Nat.le_trans hwB hBq))⟩)
end Go.Proofs.Ytfbhbjhfebkpfaa
