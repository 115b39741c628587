/- law04: a Clone goes its own way (SpanApart). -/
import Derived.Test.YtfbhbjhfebkpfaaLaw04b
import Derived.Test.YtfbhbjhfebkpfaaLaw08a
namespace Go.Proofs.Ytfbhbjhfebkpfaa
open Go.RowKit
set_option linter.unusedVariables false

theorem span_rest_nil (a : Option Addr) (m c : Nat) (w : World) :
    Calls Try.prog 79 #[.pointer none, .slice a m c] w fun e w' => e = .returned (.tuple #[.slice none 0 0, .bool false]) ∧ w = w' := by
  go_enter Try.func79, Try.ntmps79
  go_wp2_with fail
  go_ret2
  exact ⟨rfl, rfl⟩
theorem span_add_nil (a : Option Addr) (m c : Nat) (w : World) :
    Calls Try.prog 73 #[.pointer none, .slice a m c] w fun e w' => e = .returned (.bool false) ∧ w = w' := by
  go_enter Try.func73, Try.ntmps73
  go_wp2_with fail
  refine (span_rest_nil a m c w).mono ?_
  rintro e w1 ⟨rfl, rfl⟩
  go_wp2_with fail
  go_ret
  exact ⟨rfl, rfl⟩
theorem span_has_nil (a : Option Addr) (m c : Nat) (w : World) :
    Calls Try.prog 78 #[.pointer none, .slice a m c] w fun e w' => e = .returned (.bool false) ∧ w = w' := by
  go_enter Try.func78, Try.ntmps78
  go_wp2_with fail
  refine (span_rest_nil a m c w).mono ?_
  rintro e w1 ⟨rfl, rfl⟩
  go_wp2_with fail
  go_ret
  exact ⟨rfl, rfl⟩
theorem span_rank_nil (w : World) :
    Calls Try.prog 74 #[.pointer none] w fun e w' => e = .returned (.int .i64 0) ∧ w = w' := by
  go_enter Try.func74, Try.ntmps74
  go_wp2_with fail
  go_ret
  exact ⟨rfl, rfl⟩
theorem span_rows_nil (w : World) :
    Calls Try.prog 75 #[.pointer none] w fun e w' => e = .returned (.slice none 0 0) ∧ w = w' := by
  go_enter Try.func75, Try.ntmps75
  go_wp2_with fail
  go_ret
  exact ⟨rfl, rfl⟩
theorem span_clone_nil (w : World) :
    Calls Try.prog 80 #[.pointer none] w fun e w' => e = .returned (.pointer none) ∧ w = w' := by
  go_enter Try.func80, Try.ntmps80
  go_wp2_with fail
  go_ret
  exact ⟨rfl, rfl⟩

set_option maxRecDepth 100000 in
set_option maxHeartbeats 8000000 in
theorem spanApart_walk (w : World) (a : Option Addr) (len cap : Nat) (zs : List Int) (hr : Rd w w.heap.size a len (zs.map (Value.int .u8))) (hc : len ≤ cap ∧ cap ≤ maxLen ∧ (a = none → cap = 0)) (hz : ∀ z ∈ zs, (Lit.int .u8 z).wf = true)
    (n0 : Int) (hn0 : -9223372036854775808 ≤ n0 ∧ n0 ≤ 9223372036854775807) (b : Option Addr) (len2 cap2 : Nat) (zs2 : List Int) (hr2 : Rd w w.heap.size b len2 (zs2.map (Value.int .u8))) (hd : len2 ≤ cap2 ∧ cap2 ≤ maxLen ∧ (b = none → cap2 = 0)) (hz2 : ∀ z ∈ zs2, (Lit.int .u8 z).wf = true) :
    Calls Try.prog 23 #[.slice a len cap, .int .i64 n0, .slice b len2 cap2] w fun e w' => e = .returned (.bool true) ∧ Below w.heap.size w w' := by
  obtain ⟨xs, hxs, hby⟩ := bytes_of hz
  rw [hxs] at hr
  obtain ⟨hc1, hc2, hc3⟩ := hc
  clear hr2 hd hz2
  have CW := Lib.hid (keep_within n0 10 w hn0 (by omega) (by omega))
  have CC := Lib.hid fun w => keep_cut a len cap 60 w hc1 hc2 (by decide) hc3
  have hq1 : 0 ≤ n0 % 10 := Int.emod_nonneg _ (by omega)
  have hq2 : n0 % 10 < 10 := Int.emod_lt_of_pos _ (by omega)
  generalize n0 % 10 = q at *
  obtain ⟨n1, rfl⟩ := Int.eq_ofNat_of_zero_le hq1
  obtain ⟨n, hn⟩ : ∃ n, n = 1 + n1 := ⟨_, rfl⟩
  have hnI : (1 : Int) + (n1 : Int) = (n : Int) := by omega
  have hn1 : 1 ≤ n := by omega
  have hn2 : n ≤ 12 := by omega
  have HR := Lib.hid (rd_cut0 hr (n := Nat.min len 60) (Nat.min_le_left _ _))
  have hm1 : Nat.min len 60 ≤ cap := Nat.le_trans (Nat.min_le_left _ _) hc1
  have hby3 : By (xs.take (Nat.min len 60)) := fun x hx => hby x (List.mem_of_mem_take hx)
  generalize Nat.min len 60 = N at *
  generalize xs.take N = xa at *
  have CE := Lib.hid fun w1 (hb : Below w.heap.size w w1) => law_evenB n xa w.heap.size a N cap w1 (HR.out.below hb (Nat.le_refl _)) hb.size ⟨hm1, hc2, hc3⟩ hn1 (by omega)
  have HAW := Lib.hid (evenL_wf (n := n) 14 xa hby3)
  have HAL := Lib.hid (evenL_len (n := n) 14 xa)
  generalize evenL n 14 xa = A at *
  have HN := Lib.hid hn
  clear hr hc1 hc2 hc3 hq1 hq2 hn HR hm1 hby hby3 hxs hz hn0
  go_enter Try.func23, Try.ntmps23
  go_wp2_with fail
  refine CW.out.mono ?_
  rintro e w1 ⟨rfl, rfl⟩
  go_wp2_with fail
  refine (gf_new _).mono ?_
  rintro e w2 ⟨gf, rfl, hg, hF, hb⟩
  have HB2 := Lib.hid hb
  have HF2 := Lib.hid hF
  clear hg hF hb CW
  go_wp2_with fail
  refine (span_new gf n w2 HF2.out (by omega)).mono ?_
  rintro e w3 ⟨gs, rfl, hgs, hS, hb⟩
  have HB3 := Lib.hid (HB2.out.trans (hb.mono HB2.out.size))
  have HS3 := Lib.hid (hS.base HB2.out.size)
  have HF3 := Lib.hid (HF2.out.below hb (Blk.lt HF2.out))
  clear hS hb hgs HB2 HF2
  go_wp2_with fail
  refine (CC.out _).mono ?_
  rintro e w4 ⟨rfl, rfl⟩
  go_wp2_with fail
  refine (CE.out w3 HB3.out).mono ?_
  rintro e w4 ⟨v, rfl, hE, hv, hb⟩
  obtain ⟨L, hL⟩ : ∃ L, A.length = L := ⟨_, rfl⟩
  obtain ⟨aA, cA, rfl⟩ := hE.val
  rw [hL] at hE hv ⊢
  have hL14 : L ≤ 14 := by rw [← hL]; exact HAL.out
  have hwsz : w.heap.size ≤ w3.heap.size := HB3.out.size
  have HB4 := Lib.hid (HB3.out.trans (hb.mono hwsz))
  have HE4 := Lib.hid hE
  have HS4 : Hid (∃ o, SpR w4 w.heap.size gs n o (rref (A.take 0)) ∧ (∀ b, o = some b → w4.heap.size ≤ b)) := Lib.hid ⟨none, HS3.out.new hb, by simp⟩
  have HF4 := Lib.hid (HF3.out.below hb (Blk.lt HF3.out))
  have HHB : Hid (∀ b, (Value.slice aA L cA).ownBlock = some b → b < w4.heap.size) := Lib.hid fun b hb => (hE.hlt b hb).2
  have hfw : gf < w4.heap.size := Blk.lt HF4.out
  have HL := Lib.hid hL
  clear hE hv hb hL HAL HS3 HF3 HB3 CC CE
  have hG4 : w.heap.size ≤ w4.heap.size := HB4.out.size
  generalize hG : w.heap.size = G at *
  have HG := Lib.hid hG
  clear hG
  generalize hB1 : w4.heap.size = B1 at *
  have HB1 := Lib.hid hB1
  clear hB1
  go_wp2_with fail
  go_loopw [9, 32] (fun _ i wr => ∃ r : Nat, r ≤ L ∧ i = .int .i64 r ∧ Hid (∃ o, SpR wr G gs n o (rref (A.take r)) ∧ (∀ b, o = some b → B1 ≤ b)) ∧ Hid (EvB wr G (.slice aA L cA) A) ∧ Hid (Fld wr gf) ∧ Hid (Below G w wr) ∧ B1 ≤ wr.heap.size) (fun _ i _ => L - (intOf i).toNat)
  case atStart => exact ⟨0, by omega, rfl, HS4, HE4, HF4, HB4, by rw [HB1.out]; exact Nat.le_refl _⟩
  case round =>
    clear HS4 HE4 HB4 HF4
    obtain ⟨r, hr, rfl, HS, HE, HF, HB, hsz⟩ := hrel
    obtain ⟨o, hS, ho⟩ := HS.out
    have hGr : G ≤ wr.heap.size := Nat.le_trans hG4 hsz
    by_cases hrL : r < L
    · have hrLI : (r : Int) < (L : Int) := by omega
      have hrA : r < A.length := by rw [HL.out]; exact hrL
      obtain ⟨gh, ax, cx, rfl, hgh1, hgh2, hcell, hrd, hnil, -⟩ := HE.out.at hrL
      have hgr := HAW.out.get hrA
      rw [hgr.1] at hcell hrd
      have hwt : Wf n (A.take r) := fun l hl => HAW.out l (List.mem_of_mem_take hl)
      have CA := Lib.hid (span_add G gs n o (A.take r) (A.getD r []) ax cx wr hS hwt (hrd.more hGr) hnil hgr.2 (by omega) hGr)
      rw [← take_snoc hrA] at CA
      have HS := Lib.hid hS
      have hgh8 : gh < B1 := HHB.out gh rfl
      clear hrd hnil hgr hwt hS
      generalize newB (A.take r) (A.getD r []) = nb at *
      go_wp2_with fail
      refine CA.out.mono ?_
      rintro e w9 ⟨rfl, o9, hS9, hU9, ho9⟩
      have HE9 := Lib.hid (HS.out.ev hU9 HE.out (Nat.le_refl _) hGr (by
        right
        intro e
        have h2 := ho gh e.symm
        omega))
      have HF9 := Lib.hid (HS.out.fld hU9 HF.out)
      have HB9 := Lib.hid (HB.out.trans (HS.out.below hU9 hGr))
      have hs9 : B1 ≤ w9.heap.size := Nat.le_trans hsz hU9.size
      have HS9 : Hid (∃ o, SpR w9 G gs n o (rref (A.take (r + 1))) ∧ (∀ b, o = some b → B1 ≤ b)) := Lib.hid ⟨o9, hS9, fun b hb => by
        rcases ho9 with h | ⟨b', h, h2⟩
        · exact ho b (by rw [← h]; exact hb)
        · rw [h] at hb; injection hb with hb; omega⟩
      clear hS9 hU9 ho9 CA HS HE HF HB hcell ho
      go_wp2_with fail
      go_roundw
      case rel => first | exact ⟨r + 1, by omega, by go_num, HS9, HE9, HF9, HB9, hs9⟩ | ((repeat apply Exists.intro); exact ⟨⟨r + 1, by omega, by go_num, HS9, HE9, HF9, HB9, hs9⟩, rfl⟩)
      case measure => simp [intOf]; omega
    · obtain rfl : r = L := by omega
      rw [List.take_of_length_le (by rw [HL.out]; exact Nat.le_refl _)] at hS
      obtain ⟨hrl1, hrl2⟩ := rref_len HAW.out
      obtain ⟨ls, hRed, -⟩ := rref_spec HAW.out
      have HRed := Lib.hid hRed
      have HS5 := Lib.hid hS
      have hZ64 : (rref A).length ≤ 64 := by omega
      have HRI := Lib.hid (rref_id hRed)
      clear hS HS HE HF hRed hrl1 hrl2 ho
      generalize rref A = R at *
      obtain ⟨Z, hZ⟩ : ∃ Z, R.length = Z := ⟨_, rfl⟩
      have HZ := Lib.hid hZ
      have hZ' : Z ≤ 64 := by omega
      have hRl : Hid (∀ l ∈ R, l.length ≤ 1000000) := Lib.hid (fun l hl => by have := (HRed.out.wf l hl).1; omega)
      clear hZ
      go_wp2_with fail
      refine (span_rows G gs n o R wr HS5.out HRed.out.wf (by omega) hZ64).mono ?_
      rintro e w5 ⟨v, rfl, hM, hb⟩
      obtain ⟨aW, cW, rfl⟩ := hM.val
      rw [HZ.out] at hM ⊢
      have HMW := Lib.hid (hM.base hGr)
      have HWO : Hid (∀ b, (Value.slice aW Z cW).ownBlock = some b → b < w5.heap.size) := Lib.hid fun b hb => by
        obtain ⟨vs, hMV⟩ := hM
        exact (hMV.hd.lt b hb).2
      have HS6 := Lib.hid (HS5.out.new hb)
      have HB6 := Lib.hid (HB.out.trans (hb.mono hGr))
      have hG5 : G ≤ w5.heap.size := Nat.le_trans hGr hb.size
      have hgs5 : gs < w5.heap.size := HS6.out.lt.2
      have HOS : Hid (∀ b, o = some b → b < w5.heap.size) := Lib.hid fun b hb => (HS6.out.hto b hb).2.2
      clear hM hb HS5 HB
      go_wp2_with fail
      refine (span_clone G gs n o R w5 HS6.out HRed.out.wf (by omega) hZ64).mono ?_
      rintro e w6 ⟨gc, oc, rfl, hC, hb⟩
      have S0 := Lib.hid ((((Sx.nil w6).add (eMOwn G (.slice aW Z cW) R) (HMW.out.new hb)).add (eSpR G gs n o R) (HS6.out.new hb)).add (eSpR w5.heap.size gc n oc R) hC)
      have HB7 := Lib.hid (HB6.out.trans (hb.mono hG5))
      have hs6 : w5.heap.size ≤ w6.heap.size := hb.size
      clear hC hb HS6 HMW HB6
      generalize hB5 : w5.heap.size = B5 at *
      clear hB5
      -- [c, s, was]
      go_wp2_with fail
      refine (span_rows B5 gc n oc R w6 (S0.out.spR 0 rfl) HRed.out.wf (by omega) hZ64).mono ?_
      rintro e w7 ⟨v, rfl, hM, hb⟩
      obtain ⟨a7, c7, rfl, hM7, -, -, -⟩ := hM.rdM2 HZ.out
      have S1 := Lib.hid (S0.out.step hb)
      clear hM hb S0
      go_wp2_with fail
      refine (keep_rows R a7 aW Z c7 cW w7 hM7 (S1.out.mown 2 rfl).rdM (by omega) hRl.out).mono ?_
      rintro e w8 ⟨rfl, z, rfl⟩
      have S2 := Lib.hid (S1.out.drewN z)
      clear S1 hM7
      generalize w7.drewN z = w8 at *
      have HC8 : Hid (∃ oc, SpR w8 B5 gc n oc (rref (R ++ unitsL n 0))) := Lib.hid ⟨oc, by rw [show R ++ unitsL n 0 = R from List.append_nil _, HRI.out]; exact S2.out.spR 0 rfl⟩
      have HS8 := Lib.hid (S2.out.spR 1 rfl)
      have HM8 := Lib.hid (S2.out.mown 2 rfl)
      have hGw6 : G ≤ w6.heap.size := Nat.le_trans hG5 hs6
      have HB8 := Lib.hid (HB7.out.trans (S2.out.1.mono hGw6))
      have hs8 : B5 ≤ w8.heap.size := Nat.le_trans hs6 S2.out.1.size
      clear S2 HB7
      go_wp2_with fail
      go_loopw [12] (fun i wq => ∃ j : Nat, j ≤ n ∧ i = .int .i64 j ∧ Hid (∃ oc, SpR wq B5 gc n oc (rref (R ++ unitsL n j))) ∧ Hid (SpR wq G gs n o R) ∧ Hid (MOwn wq G (.slice aW Z cW) R) ∧ Hid (Below G w wq) ∧ B5 ≤ wq.heap.size) (fun i _ => n - (intOf i).toNat)
      case atStart => exact ⟨0, by omega, rfl, HC8, HS8, HM8, HB8, hs8⟩
      case round =>
        clear HC8 HS8 HM8 HB8 hs8
        obtain ⟨j, hj, rfl, HC, HS, HM, HB, hsz⟩ := hrel
        obtain ⟨oc2, hC⟩ := HC.out
        by_cases hjn : j < n
        · have hjnI : (j : Int) < (n : Int) := by omega
          have HC := Lib.hid hC
          clear hC
          go_wp2_with fail
          refine (row_unit n j wr (by omega) hjn).mono ?_
          rintro e wA ⟨v, rfl, hO, hb⟩
          have hul : (eRow n j).length = n := eRow_len _ _
          obtain ⟨au, cu, rfl, hU, hnu⟩ := hO.rd2 hul
          have hwa : Wf n (R ++ unitsL n j) := wf_app HRed.out.wf (unitsL_wf n j)
          have hsA : B5 ≤ wA.heap.size := Nat.le_trans hsz hb.size
          have hGwr : G ≤ wr.heap.size := Nat.le_trans hG5 hsz
          have HC2 := Lib.hid (HC.out.new hb)
          have HS2 := Lib.hid (HS.out.new hb)
          have HM2 := Lib.hid (HM.out.new hb)
          have HB2 := Lib.hid (HB.out.trans (hb.mono hGwr))
          have CA := Lib.hid (span_add B5 gc n oc2 (R ++ unitsL n j) (eRow n j) au cu wA HC2.out hwa hU hnu (eRow_by n j) (by omega) hsA)
          rw [List.append_assoc, show unitsL n j ++ [eRow n j] = unitsL n (j + 1) from rfl] at CA
          have hcge := HC2.out.lt.1
          clear hO hb hU hnu hwa HC HS HM HB hul
          generalize newB (R ++ unitsL n j) (eRow n j) = nb at *
          go_wp2_with fail
          refine CA.out.mono ?_
          rintro e wB ⟨rfl, o9, hC9, hU9, -⟩
          have hoc : ∀ b, oc2 = some b → B5 ≤ b := fun b hb => (HC2.out.hto b hb).2.1
          have HS9 := Lib.hid (HC2.out.two hU9 HS2.out (by omega) (by
            cases ho : o with
            | none => exact .inl rfl
            | some b =>
              right
              intro e
              have h1 := HOS.out b ho
              have h2 := hoc b e.symm
              omega))
          have HM9 := Lib.hid (HC2.out.mat hU9 HM2.out (by
            cases ho : (Value.slice aW Z cW).ownBlock with
            | none => exact .inl rfl
            | some b =>
              right
              intro e
              have h1 := HWO.out b ho
              have h2 := hoc b e.symm
              omega))
          have hGB : G ≤ B5 := hG5
          have HB9 := Lib.hid (HB2.out.trans ((HC2.out.below hU9 hsA).mono hGB))
          have hs9 : B5 ≤ wB.heap.size := Nat.le_trans hsA hU9.size
          have HC9 : Hid (∃ oc, SpR wB B5 gc n oc (rref (R ++ unitsL n (j + 1)))) := Lib.hid ⟨o9, hC9⟩
          clear hC9 hU9 CA HC2 HS2 HM2 HB2 hoc
          go_wp2_with fail
          go_roundw
          case rel => first | exact ⟨j + 1, by omega, by go_num, HC9, HS9, HM9, HB9, hs9⟩ | ((repeat apply Exists.intro); exact ⟨⟨j + 1, by omega, by go_num, HC9, HS9, HM9, HB9, hs9⟩, rfl⟩)
          case measure => simp [intOf]; omega
        · obtain rfl : j = n := by omega
          have HFU := Lib.hid (units_full HRed.out.wf)
          have S3 := Lib.hid ((((Sx.nil wr).add (eMOwn G (.slice aW Z cW) R) HM.out).add (eSpR G gs j o R) HS.out).add (eSpR B5 gc j oc2 (rref (R ++ unitsL j j))) hC)
          have HBW := HB
          have hGwr : G ≤ wr.heap.size := Nat.le_trans hG5 hsz
          clear hC HC HS HM HB
          rename World => wP
          -- [c, s, was]
          go_wp2_with fail
          refine (span_rows G gs j o R wP (S3.out.spR 1 rfl) HRed.out.wf (by omega) hZ64).mono ?_
          rintro e w9 ⟨v, rfl, hM, hb⟩
          obtain ⟨aR, cR, rfl⟩ := hM.val
          rw [HZ.out] at hM ⊢
          have HM0 : Hid (∃ M, MOwn w9 wP.heap.size (.slice aR Z cR) M ∧ Wf j M) := Lib.hid ⟨_, hM, HRed.out.wf⟩
          have HB0 := Lib.hid hb
          clear hM hb
          generalize hCC : wP.heap.size = C at *
          have HCC := Lib.hid hCC
          clear hCC
          go_wp2_with fail
          go_loopw [67] (fun i wq => ∃ r : Nat, r ≤ Z ∧ i = .int .i64 r ∧ Hid (∃ M, MOwn wq C (.slice aR Z cR) M ∧ Wf j M) ∧ Hid (Below C wP wq)) (fun i _ => Z - (intOf i).toNat)
          case atStart => exact ⟨0, by omega, rfl, HM0, HB0⟩
          case round =>
            clear HM0 HB0
            obtain ⟨r, hr, rfl, HM, HB⟩ := hrel
            by_cases hrm : r < Z
            · have hrmI : (r : Int) < (Z : Int) := by omega
              obtain ⟨M, hM, hW⟩ := HM.out
              have hlM := hM.len
              obtain ⟨g, rfl, -, -⟩ := hM.form (by omega)
              obtain ⟨ar, cr, hcr, hfr, hor⟩ := hM.at2 hrm (r := j) (hW.get (i := r) (by omega)).1
              clear hM hW hlM hor hfr
              go_wp2_with fail
              clear hcr
              go_loopw [75] (fun i wq => ∃ t : Nat, t ≤ j ∧ i = .int .i64 t ∧ Hid (∃ M, MOwn wq C (.slice (some ⟨g, 0, none⟩) Z cR) M ∧ Wf j M) ∧ Hid (Below C wP wq)) (fun i _ => j - (intOf i).toNat)
              case atStart => exact ⟨0, by omega, rfl, HM, HB⟩
              case round =>
                clear HM HB
                obtain ⟨t, ht, rfl, HM, HB⟩ := hrel
                by_cases htn : t < j
                · have htnI : (t : Int) < (j : Int) := by omega
                  obtain ⟨M, hM, hW⟩ := HM.out
                  have hlM := hM.len
                  have hgr := hW.get (i := r) (by omega)
                  obtain ⟨ar, cr, hcr, hfr, hor⟩ := hM.at2 hrm (r := j) hgr.1
                  obtain ⟨g2, c2, e2, hC2, hlt2⟩ := OwnB.form hor (by omega)
                  rw [hgr.1] at e2
                  injection e2 with e2 _ e3
                  subst e2 e3
                  obtain ⟨cc, cf⟩ := OwnB.cell hor hgr.1 (k := t) htn
                  have hst := OwnB.stored hor hgr.1 t 9
                  have HM5 : Hid (∃ M, MOwn (wr.setCell ⟨g2, t, none⟩ (.int .u8 9)) C (.slice (some ⟨g, 0, none⟩) Z cR) M ∧ Wf j M) := Lib.hid ⟨_, MOwn.wrote hM hrm hcr hst.2 hst.1, wf_put hW (by omega) (by omega)⟩
                  have HB5 : Hid (Below C wP (wr.setCell ⟨g2, t, none⟩ (.int .u8 9))) := Lib.hid (HB.out.setCell (p := ⟨g2, t, none⟩) (by show C ≤ g2; omega) _)
                  clear hM hW hlM hgr hor hst hfr HM HB hC2 hlt2
                  go_wp2_with fail
                  clear hcr cc cf
                  generalize wr.setCell ⟨g2, t, none⟩ (.int .u8 9) = w5 at *
                  go_wp2_with fail
                  go_roundw
                  case rel => first | exact ⟨t + 1, by omega, by go_num, HM5, HB5⟩ | ((repeat apply Exists.intro); exact ⟨⟨t + 1, by omega, by go_num, HM5, HB5⟩, rfl⟩)
                  case measure => simp [intOf]; omega
                · obtain rfl : t = j := by omega
                  go_wp2_with fail
                  go_roundw
                  case rel => first | exact ⟨r + 1, by omega, by go_num, HM, HB⟩ | ((repeat apply Exists.intro); exact ⟨⟨r + 1, by omega, by go_num, HM, HB⟩, rfl⟩)
                  case measure => simp [intOf]; omega
            · obtain rfl : r = Z := by omega
              have S4 := Lib.hid (S3.out.step (by rw [HCC.out]; exact HB.out))
              have hnz : ((0 : Int) == 0) = true := by decide
              clear S3 HM HB
              rename World => wq
              go_wp2_with fail
              refine (span_rest_nil b len2 cap2 wq).mono ?_
              rintro e wA ⟨rfl, rfl⟩
              go_wp2_with fail
              have CK := Lib.hid (span_rank B5 gc j oc2 _ wq (S4.out.spR 0 rfl))
              rw [HFU.out] at CK
              have hjj : ((j : Int) == (j : Int)) = true := by simp
              go_wp2_with fail
              refine CK.out.mono ?_
              rintro e wA ⟨rfl, rfl⟩
              go_wp2_with fail
              refine (span_rows G gs j o R wq (S4.out.spR 1 rfl) HRed.out.wf (by omega) hZ64).mono ?_
              rintro e wA ⟨v, rfl, hM, hb⟩
              obtain ⟨a9, c9, rfl, hM9, -, -, -⟩ := hM.rdM2 HZ.out
              have S5 := Lib.hid (S4.out.step hb)
              clear hM hb S4 CK
              go_wp2_with fail
              refine (keep_rows R a9 aW r c9 cW wA hM9 (S5.out.mown 2 rfl).rdM (by omega) hRl.out).mono ?_
              rintro e wB ⟨rfl, z2, rfl⟩
              have S6 := Lib.hid (S5.out.drewN z2)
              clear S5 hM9
              generalize wA.drewN z2 = wB at *
              go_wp2_with fail
              refine (span_add_nil b len2 cap2 wB).mono ?_
              rintro e wC ⟨rfl, rfl⟩
              go_wp2_with fail
              refine (span_has_nil b len2 cap2 wB).mono ?_
              rintro e wC ⟨rfl, rfl⟩
              go_wp2_with fail
              refine (span_rank_nil wB).mono ?_
              rintro e wC ⟨rfl, rfl⟩
              go_wp2_with fail
              refine (span_rows_nil wB).mono ?_
              rintro e wC ⟨rfl, rfl⟩
              go_wp2_with fail
              refine (span_clone_nil wB).mono ?_
              rintro e wC ⟨rfl, rfl⟩
              go_wp2_with fail
              refine (wakes04 wB).mono ?_
              rintro e wD ⟨rfl, hb⟩
              have S7 := Lib.hid (S6.out.step hb)
              clear hb S6
              go_wp2_with fail
              go_ret
              exact ⟨rfl, by rw [HG.out]; exact HBW.out.trans (S7.out.1.mono (by have := HCC.out; omega))⟩
end Go.Proofs.Ytfbhbjhfebkpfaa
