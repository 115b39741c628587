/- law04: what is left of a row (SpanRest). -/
import Derived.Test.YtfbhbjhfebkpfaaLaw04a
import Derived.Test.YtfbhbjhfebkpfaaSpanB
namespace Go.Proofs.Ytfbhbjhfebkpfaa
open Go.RowKit
set_option linter.unusedVariables false

set_option maxRecDepth 100000 in
set_option maxHeartbeats 8000000 in
theorem spanRest_walk (w : World) (a : Option Addr) (len cap : Nat) (zs : List Int) (hr : Rd w w.heap.size a len (zs.map (Value.int .u8))) (hc : len ≤ cap ∧ cap ≤ maxLen ∧ (a = none → cap = 0)) (hz : ∀ z ∈ zs, (Lit.int .u8 z).wf = true)
    (b : Option Addr) (len2 cap2 : Nat) (zs2 : List Int) (hr2 : Rd w w.heap.size b len2 (zs2.map (Value.int .u8))) (hd : len2 ≤ cap2 ∧ cap2 ≤ maxLen ∧ (b = none → cap2 = 0)) (hz2 : ∀ z ∈ zs2, (Lit.int .u8 z).wf = true) (n0 : Int) (hn0 : -9223372036854775808 ≤ n0 ∧ n0 ≤ 9223372036854775807) :
    Calls Try.prog 22 #[.slice a len cap, .slice b len2 cap2, .int .i64 n0] w fun e w' => e = .returned (.bool true) ∧ Below w.heap.size w w' := by
  obtain ⟨xs, hxs, hby⟩ := bytes_of hz
  obtain ⟨ys, hys, hby2⟩ := bytes_of hz2
  rw [hxs] at hr
  rw [hys] at hr2
  obtain ⟨hc1, hc2, hc3⟩ := hc
  obtain ⟨hd1, hd2, hd3⟩ := hd
  have CW := Lib.hid (keep_within n0 12 w hn0 (by omega) (by omega))
  have CC := Lib.hid fun w => keep_cut a len cap 100 w hc1 hc2 (by decide) hc3
  have CC2 := Lib.hid fun w => keep_cut b len2 cap2 40 w hd1 hd2 (by decide) hd3
  have hq1 : 0 ≤ n0 % 12 := Int.emod_nonneg _ (by omega)
  have hq2 : n0 % 12 < 12 := Int.emod_lt_of_pos _ (by omega)
  generalize n0 % 12 = q at *
  obtain ⟨n1, rfl⟩ := Int.eq_ofNat_of_zero_le hq1
  obtain ⟨n, hn⟩ : ∃ n, n = 1 + n1 := ⟨_, rfl⟩
  have hnI : (1 : Int) + (n1 : Int) = (n : Int) := by omega
  have hn1 : 1 ≤ n := by omega
  have hn2 : n ≤ 12 := by omega
  have HR := Lib.hid (rd_cut0 hr (n := Nat.min len 100) (Nat.min_le_left _ _))
  have HR2 := Lib.hid (rd_cut0 hr2 (n := Nat.min len2 40) (Nat.min_le_left _ _))
  have hm1 : Nat.min len 100 ≤ cap := Nat.le_trans (Nat.min_le_left _ _) hc1
  have hm2 : Nat.min len2 40 ≤ cap2 := Nat.le_trans (Nat.min_le_left _ _) hd1
  have hby3 : By (xs.take (Nat.min len 100)) := fun x hx => hby x (List.mem_of_mem_take hx)
  have hby4 : By (ys.take (Nat.min len2 40)) := fun x hx => hby2 x (List.mem_of_mem_take hx)
  generalize Nat.min len 100 = N at *
  generalize xs.take N = xa at *
  generalize Nat.min len2 40 = N2 at *
  generalize ys.take N2 = xb at *
  have CE := Lib.hid fun w1 (hb : Below w.heap.size w w1) => law_evenB n xa w.heap.size a N cap w1 (HR.out.below hb (Nat.le_refl _)) hb.size ⟨hm1, hc2, hc3⟩ hn1 (by omega)
  have CE2 := Lib.hid fun w1 (hb : Below w.heap.size w w1) => law_even n xb w.heap.size b N2 cap2 w1 (HR2.out.below hb (Nat.le_refl _)) hb.size ⟨hm2, hd2, hd3⟩ hn1 (by omega)
  have HAW := Lib.hid (evenL_wf (n := n) 14 xa hby3)
  have HAL := Lib.hid (evenL_len (n := n) 14 xa)
  have HXW := Lib.hid (evenL_wf (n := n) 14 xb hby4)
  have HXL := Lib.hid (evenL_len (n := n) 14 xb)
  generalize evenL n 14 xa = A at *
  generalize evenL n 14 xb = X at *
  have HN := Lib.hid hn
  clear hr hr2 hc1 hc2 hc3 hd1 hd2 hd3 hq1 hq2 hn HR HR2 hm1 hm2 hby hby2 hby3 hby4 hxs hys hz hz2 hn0
  go_enter Try.func22, Try.ntmps22
  go_wp2_with fail
  refine CW.out.mono ?_
  rintro e w1 ⟨rfl, rfl⟩
  go_wp2_with fail
  refine (gf_new _).mono ?_
  rintro e w2 ⟨gf, rfl, hg, hF, hb⟩
  have HB2 := Lib.hid hb
  have HF2 := Lib.hid hF
  clear hg hF hb CW
  go_wp2_with fail
  refine (span_new gf n w2 HF2.out (by omega)).mono ?_
  rintro e w3 ⟨gs, rfl, hgs, hS, hb⟩
  have HB3 := Lib.hid (HB2.out.trans (hb.mono HB2.out.size))
  have HS3 := Lib.hid (hS.base HB2.out.size)
  have HF3 := Lib.hid (HF2.out.below hb (Blk.lt HF2.out))
  clear hS hb hgs HB2 HF2
  go_wp2_with fail
  refine (CC.out _).mono ?_
  rintro e w4 ⟨rfl, rfl⟩
  go_wp2_with fail
  refine (CE.out w3 HB3.out).mono ?_
  rintro e w4 ⟨v, rfl, hE, hv, hb⟩
  obtain ⟨L, hL⟩ : ∃ L, A.length = L := ⟨_, rfl⟩
  obtain ⟨aA, cA, rfl⟩ := hE.val
  rw [hL] at hE hv ⊢
  have hL14 : L ≤ 14 := by rw [← hL]; exact HAL.out
  have hwsz : w.heap.size ≤ w3.heap.size := HB3.out.size
  have HB4 := Lib.hid (HB3.out.trans (hb.mono hwsz))
  have HE4 := Lib.hid hE
  have HS4 : Hid (∃ o, SpR w4 w.heap.size gs n o (rref (A.take 0)) ∧ (∀ b, o = some b → w4.heap.size ≤ b)) := Lib.hid ⟨none, HS3.out.new hb, by simp⟩
  have HF4 := Lib.hid (HF3.out.below hb (Blk.lt HF3.out))
  have HHB : Hid (∀ b, (Value.slice aA L cA).ownBlock = some b → b < w4.heap.size) := Lib.hid fun b hb => (hE.hlt b hb).2
  have hfw : gf < w4.heap.size := Blk.lt HF4.out
  have HL := Lib.hid hL
  clear hE hv hb hL HAL HS3 HF3 HB3 CC CE
  have hG4 : w.heap.size ≤ w4.heap.size := HB4.out.size
  generalize hG : w.heap.size = G at *
  have HG := Lib.hid hG
  clear hG
  generalize hB1 : w4.heap.size = B1 at *
  have HB1 := Lib.hid hB1
  clear hB1
  go_wp2_with fail
  go_loopw [10, 36] (fun _ i wr => ∃ r : Nat, r ≤ L ∧ i = .int .i64 r ∧ Hid (∃ o, SpR wr G gs n o (rref (A.take r)) ∧ (∀ b, o = some b → B1 ≤ b)) ∧ Hid (EvB wr G (.slice aA L cA) A) ∧ Hid (Fld wr gf) ∧ Hid (Below G w wr) ∧ B1 ≤ wr.heap.size) (fun _ i _ => L - (intOf i).toNat)
  case atStart => exact ⟨0, by omega, rfl, HS4, HE4, HF4, HB4, by rw [HB1.out]; exact Nat.le_refl _⟩
  case round =>
    clear HS4 HE4 HB4 HF4
    obtain ⟨r, hr, rfl, HS, HE, HF, HB, hsz⟩ := hrel
    obtain ⟨o, hS, ho⟩ := HS.out
    have hGr : G ≤ wr.heap.size := Nat.le_trans hG4 hsz
    by_cases hrL : r < L
    · have hrLI : (r : Int) < (L : Int) := by omega
      have hrA : r < A.length := by rw [HL.out]; exact hrL
      obtain ⟨gh, ax, cx, rfl, hgh1, hgh2, hcell, hrd, hnil, -⟩ := HE.out.at hrL
      have hgr := HAW.out.get hrA
      rw [hgr.1] at hcell hrd
      have hwt : Wf n (A.take r) := fun l hl => HAW.out l (List.mem_of_mem_take hl)
      have CA := Lib.hid (span_add G gs n o (A.take r) (A.getD r []) ax cx wr hS hwt (hrd.more hGr) hnil hgr.2 (by omega) hGr)
      rw [← take_snoc hrA] at CA
      have HS := Lib.hid hS
      have hgh8 : gh < B1 := HHB.out gh rfl
      clear hrd hnil hgr hwt hS
      generalize newB (A.take r) (A.getD r []) = nb at *
      go_wp2_with fail
      refine CA.out.mono ?_
      rintro e w9 ⟨rfl, o9, hS9, hU9, ho9⟩
      have HE9 := Lib.hid (HS.out.ev hU9 HE.out (Nat.le_refl _) hGr (by
        right
        intro e
        have h2 := ho gh e.symm
        omega))
      have HF9 := Lib.hid (HS.out.fld hU9 HF.out)
      have HB9 := Lib.hid (HB.out.trans (HS.out.below hU9 hGr))
      have hs9 : B1 ≤ w9.heap.size := Nat.le_trans hsz hU9.size
      have HS9 : Hid (∃ o, SpR w9 G gs n o (rref (A.take (r + 1))) ∧ (∀ b, o = some b → B1 ≤ b)) := Lib.hid ⟨o9, hS9, fun b hb => by
        rcases ho9 with h | ⟨b', h, h2⟩
        · exact ho b (by rw [← h]; exact hb)
        · rw [h] at hb; injection hb with hb; omega⟩
      clear hS9 hU9 ho9 CA HS HE HF HB hcell ho
      go_wp2_with fail
      go_roundw
      case rel => first | exact ⟨r + 1, by omega, by go_num, HS9, HE9, HF9, HB9, hs9⟩ | ((repeat apply Exists.intro); exact ⟨⟨r + 1, by omega, by go_num, HS9, HE9, HF9, HB9, hs9⟩, rfl⟩)
      case measure => simp [intOf]; omega
    · obtain rfl : r = L := by omega
      rw [List.take_of_length_le (by rw [HL.out]; exact Nat.le_refl _)] at hS
      obtain ⟨hrl1, hrl2⟩ := rref_len HAW.out
      obtain ⟨ls, hRed, -⟩ := rref_spec HAW.out
      have HRed := Lib.hid hRed
      have HS5 := Lib.hid hS
      have hZ64 : (rref A).length ≤ 64 := by omega
      clear hS HS HE hRed hrl1 hrl2 ho
      generalize rref A = R at *
      obtain ⟨Z, hZ⟩ : ∃ Z, R.length = Z := ⟨_, rfl⟩
      have HZ := Lib.hid hZ
      have hZ' : Z ≤ 64 := by omega
      clear hZ
      go_wp2_with fail
      refine (CC2.out _).mono ?_
      rintro e w5 ⟨rfl, rfl⟩
      go_wp2_with fail
      refine (CE2.out wr HB.out).mono ?_
      rintro e w5 ⟨v, rfl, hE, hb⟩
      obtain ⟨L2, hL2⟩ : ∃ L, X.length = L := ⟨_, rfl⟩
      obtain ⟨aX, cX, rfl, hX, hnX, hcX, hmX⟩ := hE.rdM2 hL2
      have hL214 : L2 ≤ 14 := by rw [← hL2]; exact HXL.out
      have HL2 := Lib.hid hL2
      have HBE := Lib.hid (HB.out.trans (hb.mono hGr))
      have hGw5 : G ≤ w5.heap.size := Nat.le_trans hGr hb.size
      have HS0 : Hid (Sx w5 w5 [eSpR G gs n o R, eRdM aX L2 X]) := Lib.hid (((Sx.nil w5).add (eRdM aX L2 X) hX).add (eSpR G gs n o R) (HS5.out.new hb))
      clear hE hb hX hnX hcX hmX hL2 HXL HB HF HS5 CC2 CE2
      go_wp2_with fail
      go_loopw [49] (fun i wq => ∃ k : Nat, k ≤ L2 ∧ i = .int .i64 k ∧ Hid (Sx w5 wq [eSpR G gs n o R, eRdM aX L2 X])) (fun i _ => L2 - (intOf i).toNat)
      case atStart => exact ⟨0, by omega, rfl, HS0⟩
      case round =>
        clear HS0
        obtain ⟨k, hk, rfl, S0⟩ := hrel
        by_cases hkL : k < L2
        · have hkLI : (k : Int) < (L2 : Int) := by omega
          have hkX : k < X.length := by rw [HL2.out]; exact hkL
          obtain ⟨bh, oh, ax, cx, rfl, hbh, hcell, hrd, hnil, hcx, -⟩ := (S0.out.rdM 1 rfl).at hkL
          have hgr := HXW.out.get hkX
          rw [hgr.1] at hcell hrd hcx
          have CR := Lib.hid (span_rest G gs n o R ls (X.getD k []) ax cx wr (S0.out.spR 0 rfl) HRed.out hrd hnil hgr.2 (by omega))
          obtain ⟨hyl, hyb⟩ := restR_wf HRed.out.wf hgr.1 hgr.2
          have HRR := Lib.hid (HRed.out.rest_rest hgr.1 hgr.2)
          have HSM := Lib.hid (HRed.out.rest_sum hgr.1 hgr.2)
          have HRA := Lib.hid fun i (hi : i < R.length) => HRed.out.rest_at hgr.1 hgr.2 hi
          have HX := Lib.hid hgr
          have S1 := Lib.hid (S0.out.add (eRd ax n (cellsB (X.getD k []))) hrd)
          have HNX := Lib.hid hnil
          clear hrd hgr hnil S0 hcx
          generalize hx : X.getD k [] = x at *
          clear hx
          generalize hy : restR R x = y at *
          have HY := Lib.hid hy
          have HYL := Lib.hid hyl
          have HYB := Lib.hid hyb
          clear hy hyl hyb
          -- [x, s, X]
          go_wp2_with fail
          refine CR.out.mono ?_
          rintro e wA ⟨v, rfl, hO, hb⟩
          obtain ⟨ay, cy, rfl, hY, hny⟩ := hO.rd2 HYL.out
          have S2 := Lib.hid ((S1.out.step hb).add (eRd ay n (cellsB y)) hY)
          have HNY := Lib.hid hny
          clear hO hb hY hny S1 CR hcell
          -- [y, x, s, X]
          have hnn : ((n : Int) != (n : Int)) = false := by simp
          have hbb : (decide (leadI y < 0) != decide (leadI y < 0)) = false := by simp
          go_wp2_with fail
          refine (row_lead y _ ay n cy wA (S2.out.rd 0 rfl) HYB.out (by unfold maxLen; omega)).mono ?_
          rintro e wB ⟨rfl, z, rfl⟩
          have S3 := Lib.hid (S2.out.drewN z)
          clear S2
          generalize wA.drewN z = wB at *
          go_wp2_with fail
          refine (span_has G gs n o R ls x ax cx wB (S3.out.spR 2 rfl) HRed.out (S3.out.rd 1 rfl) HNX.out HX.out.2 (by omega)).mono ?_
          rintro e wC ⟨rfl, hb⟩
          rw [HY.out]
          have S4 := Lib.hid (S3.out.step hb)
          clear hb S3
          generalize leadI y = ly at *
          go_wp2_with fail
          refine (span_rows G gs n o R wC (S4.out.spR 2 rfl) HRed.out.wf (by omega) hZ64).mono ?_
          rintro e wD ⟨v, rfl, hM, hb⟩
          obtain ⟨aM, cM, rfl, hM1, -, -, -⟩ := hM.rdM2 HZ.out
          have S5 := Lib.hid ((S4.out.step hb).add (eRdM aM Z R) hM1)
          clear hM hb hM1 S4 hbb
          -- [rows, y, x, s, X]
          go_wp2_with fail
          go_loopw [79] (fun i wq => ∃ j : Nat, j ≤ Z ∧ i = .int .i64 j ∧ Hid (Sx w5 wq [eRdM aM Z R, eRd ay n (cellsB y), eRd ax n (cellsB x), eSpR G gs n o R, eRdM (some ⟨bh, oh, none⟩) L2 X])) (fun i _ => Z - (intOf i).toNat)
          case atStart => exact ⟨0, by omega, rfl, S5⟩
          case round =>
            clear S5
            obtain ⟨j, hj, rfl, S5⟩ := hrel
            by_cases hjZ : j < Z
            · have hjZI : (j : Int) < (Z : Int) := by omega
              have hjR : j < R.length := by rw [HZ.out]; exact hjZ
              obtain ⟨b2, o2, a2, c2, rfl, hb2, hcell2, hrd2, -⟩ := (S5.out.rdM 0 rfl).at hjZ
              have hgr := HRed.out.wf.get hjR
              rw [hgr.1] at hcell2 hrd2
              obtain ⟨hl1, hl2⟩ := HRed.out.leadI hjR
              have CL := Lib.hid (row_lead (R.getD j []) _ a2 n c2 wr hrd2 hgr.2 (by unfold maxLen; omega))
              rw [hl1] at CL
              obtain ⟨b3, o3, rfl, hb3, hcc⟩ := (S5.out.rd 1 rfl).atB (k := leadN (R.getD j [])) hl2
              have cq := hcc _ hl2
              rw [HRA.out j hjR] at cq
              clear hgr hrd2 hl1 hcc
              generalize leadN (R.getD j []) = l at *
              have hlI : ¬ (l : Int) < 0 := by omega
              have hlN : (l : Int) < (n : Int) := by omega
              go_wp2_with fail
              refine CL.out.mono ?_
              rintro e wE ⟨rfl, z2, rfl⟩
              have S6 := Lib.hid (S5.out.drewN z2)
              clear S5 CL
              go_wp2_with fail
              go_roundw
              case rel => first | exact ⟨j + 1, by omega, by go_num, S6⟩ | ((repeat apply Exists.intro); exact ⟨⟨j + 1, by omega, by go_num, S6⟩, rfl⟩)
              case measure => simp [intOf]; omega
            · obtain rfl : j = Z := by omega
              rename World => wq
              go_wp2_with fail
              refine (row_sum x y ax ay n cx cy wq (S5.out.rd 2 rfl) (S5.out.rd 1 rfl) HX.out.2 HYB.out (by omega)).mono ?_
              rintro e wE ⟨v, rfl, hO, hb⟩
              have hdl : (axL 1 x y).length = n := by rw [axL_len (by rw [HX.out.1, HYL.out])]; exact HYL.out
              have hdb : By (axL 1 x y) := axL_byt HYB.out
              obtain ⟨ad, cd, rfl, hD, hnd⟩ := hO.rd2 hdl
              have S6 := Lib.hid ((S5.out.step hb).add (eRd ad n (cellsB (axL 1 x y))) hD)
              have HDB := Lib.hid hdb
              have HND := Lib.hid hnd
              clear hO hb hD hdl hdb hnd S5
              generalize axL 1 x y = d at *
              -- [d, rows, y, x, s, X]
              go_wp2_with fail
              refine (span_rest G gs n o R ls y ay cy wE (S6.out.spR 4 rfl) HRed.out (S6.out.rd 2 rfl) HNY.out HYB.out (by omega)).mono ?_
              rintro e wF ⟨v, rfl, hO, hb⟩
              rw [HRR.out] at hO
              obtain ⟨az, cz, rfl, hZz, -⟩ := hO.rd2 HYL.out
              have S7 := Lib.hid ((S6.out.step hb).add (eRd az n (cellsB y)) hZz)
              clear hO hb hZz S6
              -- [z, d, rows, y, x, s, X]
              have CH := Lib.hid (span_has G gs n o R ls d ad cd wF (S7.out.spR 5 rfl) HRed.out (S7.out.rd 1 rfl) HND.out HDB.out (by omega))
              rw [decide_eq_true HSM.out] at CH
              go_wp2_with fail
              refine CH.out.mono ?_
              rintro e wH ⟨rfl, hb⟩
              have S8 := Lib.hid (S7.out.step hb)
              clear hb S7 CH
              go_wp2_with fail
              refine (same_B y az ay n cz cy wH (S8.out.rd 0 rfl) (S8.out.rd 3 rfl) (by omega)).mono ?_
              rintro e wI ⟨rfl, z3, rfl⟩
              have S9 := Lib.hid (S8.out.drewN z3)
              clear S8
              have S0 : Hid (Sx w5 (wH.drewN z3) [eSpR G gs n o R, eRdM (some ⟨bh, oh, none⟩) L2 X]) := Lib.hid ⟨S9.out.1, fun e he => S9.out.2 e (by
                simp only [List.mem_cons, List.not_mem_nil, or_false] at he ⊢
                rcases he with rfl | rfl <;> simp)⟩
              clear S9
              go_wp2_with fail
              go_roundw
              case rel => first | exact ⟨k + 1, by omega, by go_num, S0⟩ | ((repeat apply Exists.intro); exact ⟨⟨k + 1, by omega, by go_num, S0⟩, rfl⟩)
              case measure => simp [intOf]; omega
        · obtain rfl : k = L2 := by omega
          go_wp2_with fail
          refine (wakes04 _).mono ?_
          rintro e w6 ⟨rfl, hb⟩
          have S1 := Lib.hid (S0.out.step hb)
          clear hb S0
          go_wp2_with fail
          go_ret
          exact ⟨rfl, by rw [HG.out]; exact HBE.out.trans (S1.out.1.mono hGw5)⟩
end Go.Proofs.Ytfbhbjhfebkpfaa
