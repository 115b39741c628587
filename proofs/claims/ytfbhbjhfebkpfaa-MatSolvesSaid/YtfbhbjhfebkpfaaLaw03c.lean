/- Contract of wellspringkeep.Copies; the walk of wellspringlaw03.MatSolves. -/
import Derived.Test.YtfbhbjhfebkpfaaMatG
import Derived.Test.YtfbhbjhfebkpfaaSolP
import Derived.Test.YtfbhbjhfebkpfaaLaw03a
namespace Go.Proofs.Ytfbhbjhfebkpfaa
open Go.RowKit
set_option linter.unusedVariables false

theorem take_app {M : List (List Nat)} {k : Nat} (h : k < M.length) : M.take (k + 1) = M.take k ++ [M.getD k []] := by
  rw [List.take_succ_eq_append_getElem h, List.getD_eq_getElem?_getD, List.getElem?_eq_getElem h]; rfl

set_option maxRecDepth 100000 in
set_option maxHeartbeats 4000000 in
theorem keep_copies (M : List (List Nat)) (B : Nat) (a : Option Addr) (m c : Nat) (w : World) (h : RdM w B a m M) (hB : B ≤ w.heap.size) (hl : ∀ l ∈ M, l.length ≤ 1000000) (hm : m ≤ 1000000) :
    Calls Try.prog 71 #[.slice a m c] w fun e w' => ∃ v, e = .returned v ∧ MOwn w' w.heap.size v M ∧ Below w.heap.size w w' := by
  have H := Lib.hid (h.more hB)
  have HL := Lib.hid hl
  have HM := Lib.hid h.len
  clear h hl
  go_enter Try.func71, Try.ntmps71
  go_wp2_with fail
  have HO : Hid (MOwn w w.heap.size (.slice none 0 0) (M.take 0)) := Lib.hid (MOwn.nil _ _)
  have HBL := Lib.hid (Below.refl w.heap.size w)
  generalize hG : w.heap.size = G at *
  have HG := Lib.hid hG
  clear hG
  go_loopw [3, 5, 8] (fun v _ i wr => ∃ k : Nat, k ≤ m ∧ i = .int .i64 k ∧ Hid (MOwn wr G v (M.take k)) ∧ Hid (Below G w wr)) (fun _ _ i _ => m - (intOf i).toNat)
  case atStart => exact ⟨0, by omega, rfl, HO, HBL⟩
  case round =>
    clear HO HBL
    obtain ⟨k, hk, rfl, HO, HBL⟩ := hrel
    by_cases hlt : k < m
    · have hkM : k < M.length := by rw [HM.out]; exact hlt
      obtain ⟨b, o, a', c', rfl, hb, hcell, hrd, hnil, hcap, _⟩ := (H.out.below HBL.out (Nat.le_refl _)).at hlt
      have hGr : G ≤ wr.heap.size := by have := HBL.out.size; have := HG.out; omega
      have hlen := HL.out _ (getD_memr hkM)
      have CC := Lib.hid (keep_copy (M.getD k []) G a' (M.getD k []).length c' wr hrd hGr hnil hlen)
      have HTK := Lib.hid (take_app hkM)
      have hlt' : (k : Int) < (m : Int) := by omega
      have hmt : (M.take k).length ≤ 1000000 := by rw [List.length_take]; omega
      clear hlen hrd hcap hnil hkM
      generalize M.getD k [] = l at *
      go_wp2_with fail
      refine CC.out.mono ?_
      rintro e w2 ⟨u, rfl, hu, hb2⟩
      obtain ⟨ua, uc, rfl, _⟩ := hu.rd
      have HU := Lib.hid hu
      have HB2 := Lib.hid hb2
      clear hu hb2 CC
      go_wp2_with (at_builtin; refine wp_appRow (w0 := wr) (w1 := w2) rfl _ _ rfl HO.out HB2.out HU.out hGr hmt rfl rfl ?_)
      intro v' w3 hM3 hb3 hg3 hat
      rw [← HTK.out] at hM3
      have HM3 := Lib.hid hM3
      have HB3 := Lib.hid (HBL.out.trans hb3)
      clear hM3 hb3 hg3 hat HO HBL HB2 HU HTK hcell
      go_wp2_with fail
      go_roundw
      case rel => first | exact ⟨k + 1, by omega, by go_num, HM3, HB3⟩ | ((repeat apply Exists.intro); exact ⟨⟨k + 1, by omega, by go_num, HM3, HB3⟩, rfl⟩)
      case measure => simp [intOf]; omega
    · obtain rfl : k = m := by omega
      rw [List.take_of_length_le (by rw [HM.out]; exact Nat.le_refl _)] at HO
      go_wp2_with fail
      go_ret
      exact ⟨_, rfl, by rw [HG.out]; exact HO.out, by rw [HG.out]; exact HBL.out⟩

set_option maxRecDepth 100000 in
set_option maxHeartbeats 8000000 in
theorem matSolves_walk (w : World) (a : Option Addr) (len cap : Nat) (zs : List Int) (hr : Rd w w.heap.size a len (zs.map (Value.int .u8))) (hc : len ≤ cap ∧ cap ≤ maxLen ∧ (a = none → cap = 0)) (hz : ∀ z ∈ zs, (Lit.int .u8 z).wf = true)
    (b : Option Addr) (len2 cap2 : Nat) (zs2 : List Int) (hr2 : Rd w w.heap.size b len2 (zs2.map (Value.int .u8))) (hd : len2 ≤ cap2 ∧ cap2 ≤ maxLen ∧ (b = none → cap2 = 0)) (hz2 : ∀ z ∈ zs2, (Lit.int .u8 z).wf = true) (n0 : Int) (hn0 : -9223372036854775808 ≤ n0 ∧ n0 ≤ 9223372036854775807) (k0 : Int) (hk0 : -9223372036854775808 ≤ k0 ∧ k0 ≤ 9223372036854775807) :
    Calls Try.prog 18 #[.slice a len cap, .slice b len2 cap2, .int .i64 n0, .int .i64 k0] w fun e w' => e = .returned (.bool true) ∧ Below w.heap.size w w' := by
  obtain ⟨xs, hxs, hby⟩ := bytes_of hz
  obtain ⟨ys, hys, hby2⟩ := bytes_of hz2
  rw [hxs] at hr
  rw [hys] at hr2
  obtain ⟨hc1, hc2, hc3⟩ := hc
  obtain ⟨hd1, hd2, hd3⟩ := hd
  have CW := Lib.hid (keep_within n0 10 w hn0 (by omega) (by omega))
  have CW2 := Lib.hid (keep_within k0 4 w hk0 (by omega) (by omega))
  have CC := Lib.hid fun w => keep_cut a len cap 130 w hc1 hc2 (by decide) hc3
  have CC2 := Lib.hid fun w => keep_cut b len2 cap2 60 w hd1 hd2 (by decide) hd3
  have hq1 : 0 ≤ n0 % 10 := Int.emod_nonneg _ (by omega)
  have hq2 : n0 % 10 < 10 := Int.emod_lt_of_pos _ (by omega)
  have hp1 : 0 ≤ k0 % 4 := Int.emod_nonneg _ (by omega)
  have hp2 : k0 % 4 < 4 := Int.emod_lt_of_pos _ (by omega)
  generalize n0 % 10 = q at *
  generalize k0 % 4 = p at *
  obtain ⟨n1, rfl⟩ := Int.eq_ofNat_of_zero_le hq1
  obtain ⟨k1, rfl⟩ := Int.eq_ofNat_of_zero_le hp1
  obtain ⟨n, hn⟩ : ∃ n, n = 1 + n1 := ⟨_, rfl⟩
  obtain ⟨k, hk⟩ : ∃ k, k = 1 + k1 := ⟨_, rfl⟩
  have hnI : (1 : Int) + (n1 : Int) = (n : Int) := by omega
  have hkI : (1 : Int) + (k1 : Int) = (k : Int) := by omega
  have hn1 : 1 ≤ n := by omega
  have hn2 : n ≤ 10 := by omega
  have hk1 : 1 ≤ k := by omega
  have hk2 : k ≤ 4 := by omega
  have HR := Lib.hid (rd_cut0 hr (n := Nat.min len 130) (Nat.min_le_left _ _))
  have HR2 := Lib.hid (rd_cut0 hr2 (n := Nat.min len2 60) (Nat.min_le_left _ _))
  have hm1 : Nat.min len 130 ≤ cap := Nat.le_trans (Nat.min_le_left _ _) hc1
  have hm2 : Nat.min len2 60 ≤ cap2 := Nat.le_trans (Nat.min_le_left _ _) hd1
  have hby3 : By (xs.take (Nat.min len 130)) := fun x hx => hby x (List.mem_of_mem_take hx)
  have hby4 : By (ys.take (Nat.min len2 60)) := fun x hx => hby2 x (List.mem_of_mem_take hx)
  generalize Nat.min len 130 = N at *
  generalize xs.take N = xa at *
  generalize Nat.min len2 60 = N2 at *
  generalize ys.take N2 = xb at *
  have CE := Lib.hid (law_even n xa _ a N cap w HR.out (Nat.le_refl _) ⟨hm1, hc2, hc3⟩ hn1 (by omega))
  have CE2 := Lib.hid fun w1 (hb : Below w.heap.size w w1) => law_even k xb _ b N2 cap2 w1 (HR2.out.below hb (Nat.le_refl _)) hb.size ⟨hm2, hd2, hd3⟩ hk1 (by omega)
  have HAW := Lib.hid (evenL_wf (n := n) 14 xa hby3)
  have HAL := Lib.hid (evenL_len (n := n) 14 xa)
  have HXW := Lib.hid (evenL_wf (n := k) 14 xb hby4)
  have HXL := Lib.hid (evenL_len (n := k) 14 xb)
  generalize evenL n 14 xa = A at *
  generalize evenL k 14 xb = X0 at *
  have HN := Lib.hid hn
  have HK := Lib.hid hk
  clear hr hr2 hc1 hc2 hc3 hd1 hd2 hd3 hq1 hq2 hp1 hp2 hn hk HR HR2 hm1 hm2 hby hby2 hby3 hby4 hxs hys hz hz2
  go_enter Try.func18, Try.ntmps18
  go_wp2_with fail
  refine CW.out.mono ?_
  rintro e w1 ⟨rfl, rfl⟩
  go_wp2_with fail
  refine CW2.out.mono ?_
  rintro e w1 ⟨rfl, rfl⟩
  go_wp2_with fail
  refine (CC.out _).mono ?_
  rintro e w1 ⟨rfl, rfl⟩
  go_wp2_with fail
  refine CE.out.mono ?_
  rintro e w1 ⟨v, rfl, hE, hb⟩
  have hbd : A.length ≤ 14 := HAL.out
  obtain ⟨L, hL⟩ : ∃ L, A.length = L := ⟨_, rfl⟩
  obtain ⟨aA, cA, rfl, hA, hnA, hcA, hmA⟩ := hE.rdM2 hL
  have S1 := Lib.hid (((Sx.nil w).step hb).add (eRdM aA L A) hA)
  clear hE hb hA CW CW2 CC CE
  go_wp2_with fail
  refine (CC2.out _).mono ?_
  rintro e w2 ⟨rfl, rfl⟩
  go_wp2_with fail
  refine (CE2.out w1 S1.out.1).mono ?_
  rintro e w2 ⟨v, rfl, hE, hb⟩
  have hbdX : X0.length ≤ 14 := HXL.out
  obtain ⟨LX, hLX⟩ : ∃ L, X0.length = L := ⟨_, rfl⟩
  obtain ⟨aX, cX, rfl, hX, hnX, hcX, hmX⟩ := hE.rdM2 hLX
  have S2 := Lib.hid ((S1.out.step hb).add (eRdM aX LX X0) hX)
  have HL := Lib.hid hL
  have HLX := Lib.hid hLX
  have hL14 : L ≤ 14 := by omega
  have hX14 : LX ≤ 14 := by omega
  clear hE hb hX CC2 CE2 S1 hbd hbdX hL hLX hnA hnX hmA hmX
  -- [X0, A]
  by_cases hsk : L = 0 ∨ LX < n
  · have hg1 : ((L : Int) == 0) = true ∨ (((L : Int) == 0) = false ∧ (LX : Int) < (n : Int)) := by
      rcases Nat.eq_zero_or_pos L with h | h
      · left; simp [h]
      · right; exact ⟨by rw [beq_eq_false_iff_ne]; omega, by omega⟩
    clear hsk
    rcases hg1 with h1 | ⟨h1, h2⟩
    all_goals (
      go_wp2_with fail
      refine (wakes03 w2).mono ?_
      rintro e w3 ⟨rfl, hb⟩
      have S3 := Lib.hid (S2.out.step hb)
      clear hb S2
      go_wp2_with fail
      go_ret
      exact ⟨rfl, S3.out.1⟩)
  · have hL0 : ((L : Int) == 0) = false := by rw [beq_eq_false_iff_ne]; omega
    have hXn : ¬ (LX : Int) < (n : Int) := by omega
    have hnX : n ≤ LX := by omega
    have hncX : n ≤ cX := by omega
    have hLp : 0 < L := by omega
    have HA0 : Hid (A ≠ []) := Lib.hid (fun e => by have := HL.out; rw [e] at this; simp at this; omega)
    have HX : Hid (RdM w2 w2.heap.size aX n (X0.take n)) := Lib.hid ((S2.out.rdM 0 rfl).take hnX)
    have HXl : Hid ((X0.take n).length = n) := Lib.hid (by rw [List.length_take, HLX.out]; omega)
    have HXw : Hid (Wf k (X0.take n)) := Lib.hid (fun x hx => HXW.out x (List.mem_of_mem_take hx))
    have S3 := Lib.hid (S2.out.add (eRdM aX n (X0.take n)) HX.out)
    have HX0 : Hid (X0.take n ≠ []) := Lib.hid (fun e => by have := HXl.out; rw [e] at this; simp at this; omega)
    clear hsk HX S2
    generalize X0.take n = X at *
    -- [X, X0, A]
    go_wp2_with fail
    refine (gf_new _).mono ?_
    rintro e w3 ⟨g, rfl, hg, hF, hb⟩
    have S4 := Lib.hid ((S3.out.step hb).add (eFp (some ⟨g, 0, none⟩)) (.inr ⟨g, rfl, hF⟩))
    clear hb hF hg S3
    -- [f, X, X0, A]
    go_wp2_with fail
    refine (mat_Mul (some ⟨g, 0, none⟩) n k L n cA cX A X aA aX w3 (S4.out.fp 0 rfl) (S4.out.rdM 3 rfl) (S4.out.rdM 1 rfl) HAW.out HXw.out (by omega) (by omega) (by omega) (by omega) (fun _ => rfl)).mono ?_
    rintro e w4 ⟨v, rfl, hM, hb⟩
    have HBL : Hid ((mulM A X).length = L) := Lib.hid (by unfold mulM; rw [List.length_map]; exact HL.out)
    have HBW := Lib.hid (mulM_wf (a := A) HXw.out HX0.out)
    have HSR : Hid ((rref A).length = n → solC n A (mulM A X) = 0 ∧ solR n A (mulM A X) = X) := Lib.hid (fun h => sol_right HAW.out HXw.out HXl.out HX0.out HA0.out h)
    obtain ⟨aB, cB, rfl, hB, hnB, hcB, hmB⟩ := hM.rdM2 HBL.out
    have S5 := Lib.hid ((S4.out.step hb).add _ hB)
    clear hM hb hB S4
    have HBA : Hid (A.length = (mulM A X).length) := Lib.hid (by rw [HBL.out, HL.out])
    have hLL : ((L : Int) != (L : Int)) = false := by simp
    generalize hBm : mulM A X = B at *
    have HBm := Lib.hid hBm
    clear hBm
    have HB0 : Hid (B ≠ []) := Lib.hid (fun e => by have := HBL.out; rw [e] at this; simp at this; omega)
    -- [B, f, X, X0, A]
    go_wp2_with fail
    refine (mat_Solve (some ⟨g, 0, none⟩) n k L cA cB A B aA aB w4 (S5.out.fp 1 rfl) (S5.out.rdM 4 rfl) (S5.out.rdM 0 rfl) HAW.out HBW.out (by omega) (by omega) (by omega) hLp).mono ?_
    rintro e w5 ⟨v, rfl, hM, hb⟩
    obtain ⟨LY, hLY⟩ : ∃ L, (solR n A B).length = L := ⟨_, rfl⟩
    obtain ⟨aY, cY, rfl, hY, -, -, -⟩ := hM.rdM2 hLY
    have S6 := Lib.hid ((S5.out.step hb).add _ hY)
    have HLY := Lib.hid hLY
    clear hM hb hY S5 hLY
    have HLOW : Hid ((rref A).length < n → solC n A B = 9 ∧ solR n A B = []) := Lib.hid (fun h => sol_low HAW.out HBA.out HA0.out h)
    have hrn := (rref_len HAW.out).1
    generalize hRK : (rref A).length = rk at *
    have HRK := Lib.hid hRK
    clear hRK
    generalize hYY : solR n A B = Y at *
    have HYY := Lib.hid hYY
    clear hYY
    generalize hCC : solC n A B = cc at *
    have HCC := Lib.hid hCC
    clear hCC
    -- [Y, B, f, X, X0, A]
    go_wp2_with fail
    refine (mat_Rank (some ⟨g, 0, none⟩) n L cA A aA w5 (S6.out.fp 2 rfl) (S6.out.rdM 5 rfl) HAW.out (by omega) (by omega)).mono ?_
    rintro e w6 ⟨rfl, hb⟩
    rw [HRK.out]
    have S7 := Lib.hid (S6.out.step hb)
    clear hb S6
    by_cases hlow : rk < n
    · have hlowI : (rk : Int) < (n : Int) := by omega
      obtain ⟨e1, e2⟩ := HLOW.out hlow
      have e3 : LY = 0 := by rw [← HLY.out, e2]; rfl
      subst e1 e3
      clear HLOW HSR e2 hlow
      go_wp2_with fail
      refine (wakes03 w6).mono ?_
      rintro e w7 ⟨rfl, hb⟩
      have S8 := Lib.hid (S7.out.step hb)
      clear hb S7
      go_wp2_with fail
      go_ret
      exact ⟨rfl, S8.out.1⟩
    · have hlowI : ¬ (rk : Int) < (n : Int) := by omega
      obtain rfl : rk = n := by omega
      obtain ⟨e1, e2⟩ := HSR.out rfl
      subst e1 e2
      clear HLOW HSR hlow
      go_wp2_with fail
      have hBl6 : ∀ l ∈ B, l.length ≤ 1000000 := fun l hl => by have := (HBW.out l hl).1; omega
      refine (keep_copies B _ aB L cB w6 (S7.out.rdM 1 rfl) (Nat.le_refl _) hBl6 (by omega)).mono ?_
      rintro e w7 ⟨v, rfl, hM, hb7⟩
      obtain ⟨aC, cC, rfl⟩ := hM.val
      rw [HBL.out] at hM ⊢
      obtain ⟨gc, rfl, hgc1, hgc2⟩ := hM.form hLp
      have hg0 := HBW.out.get (i := 0) (by rw [HBL.out]; exact hLp)
      obtain ⟨a0, c0, hc0, -, ho0⟩ := hM.at2 hLp hg0.1
      obtain ⟨b0, cap0, e0, hb01, hb02⟩ := ho0.form (by rw [hg0.1]; omega)
      rw [hg0.1] at e0
      injection e0 with e0 e0' e0''
      subst e0 e0''
      clear e0'
      obtain ⟨hz0, hf0⟩ := ho0.cell hg0.1 (k := 0) (by omega)
      have hst := ho0.stored hg0.1 0 (((B.getD 0 []).getD 0 0 + 1) % 256)
      have hzb := getD_lt hg0.2 0
      have hM2 := hM.wrote hLp hc0 (by exact hst.2) hst.1
      have hM3 : MOwn (w7.setCell ⟨b0, 0, none⟩ (.int .u8 ((((B.getD 0 []).getD 0 0 + 1) % 256 : Nat) : Int))) w6.heap.size (.slice (some ⟨gc, 0, none⟩) L cC) (bumpM B) := hM2
      have HM3 := Lib.hid hM3
      have HB8 := Lib.hid (hb7.setCell (p := ⟨b0, 0, none⟩) hb01 (.int .u8 ((((B.getD 0 []).getD 0 0 + 1) % 256 : Nat) : Int)))
      have hwz : IntKind.u8.wrap (((B.getD 0 []).getD 0 0 : Nat) + 1 : Int) = ((((B.getD 0 []).getD 0 0 + 1) % 256 : Nat) : Int) := by rw [IntKind.wrap_u8]; omega
      have HCL : Hid ((bumpM B).length = L) := Lib.hid (by rw [bumpM_len]; exact HBL.out)
      have HCW := Lib.hid (bumpM_wf HBW.out HB0.out)
      have hLpI : (0 : Int) < (L : Int) := by omega
      have hkpI : (0 : Int) < (k : Int) := by omega
      clear hM hM2 hM3 hst hb7 hg0 ho0 hb01 hb02 hgc1 hgc2
      generalize (B.getD 0 []).getD 0 0 = z0 at *
      generalize (z0 + 1) % 256 = z1 at *
      generalize bumpM B = C at *
      go_wp2_with fail
      obtain rfl : LY = rk := by rw [← HLY.out]; exact HXl.out
      have S8 := Lib.hid ((S7.out.step HB8.out).add (eRdM (some ⟨gc, 0, none⟩) L C) HM3.out.rdM)
      -- [C, Y, B, f, X, X0, A]
      have HCA : Hid (A.length = C.length) := Lib.hid (by rw [HCL.out, HL.out])
      have HSB : Hid (solC LY A C = 0 → mulM A (solR LY A C) = C ∧ Wf k (solR LY A C) ∧ (solR LY A C).length = LY) := Lib.hid (fun h => sol_back HAW.out HCW.out HCA.out (by omega) HA0.out HRK.out h)
      have HSC : Hid (solC LY A C ≠ 0 → solC LY A C = 10 ∧ A.length ≠ LY) := Lib.hid (fun h => sol_clash HAW.out HCA.out HA0.out HRK.out h)
      have hCl : Hid (∀ l ∈ C, l.length ≤ 1000000) := Lib.hid (fun l hl => by have := (HCW.out l hl).1; omega)
      have hYl : Hid (∀ l ∈ Y, l.length ≤ 1000000) := Lib.hid (fun l hl => by have := (HXw.out l hl).1; omega)
      clear HM3 HB8 S7 hz0 hf0 hc0 hwz hzb
      generalize w7.setCell ⟨b0, 0, none⟩ (.int .u8 (z1 : Nat)) = w8 at *
      refine (mat_Solve (some ⟨g, 0, none⟩) LY k L cA cC A C aA (some ⟨gc, 0, none⟩) w8 (S8.out.fp 3 rfl) (S8.out.rdM 6 rfl) (S8.out.rdM 0 rfl) HAW.out HCW.out (by omega) (by omega) (by omega) hLp).mono ?_
      rintro e w9 ⟨v, rfl, hM, hb⟩
      obtain ⟨LZ, hLZ⟩ : ∃ L, (solR LY A C).length = L := ⟨_, rfl⟩
      obtain ⟨aZ, cZ, rfl, hZ, -, -, -⟩ := hM.rdM2 hLZ
      have S9 := Lib.hid ((S8.out.step hb).add _ hZ)
      clear hM hb hZ S8
      -- [Z, C, Y, B, f, X, X0, A]
      by_cases hz0 : solC LY A C = 0
      · obtain ⟨h1, h2, h3⟩ := HSB.out hz0
        rw [hz0]
        have HZ1 := Lib.hid h1
        have HZ2 := Lib.hid h2
        obtain rfl : LZ = LY := by rw [← hLZ]; exact h3
        clear HSB HSC h1 h2 h3 hz0 hLZ
        generalize solR LZ A C = Z at *
        go_wp2_with fail
        refine (mat_Mul (some ⟨g, 0, none⟩) LZ k L LZ cA cZ A Z aA aZ w9 (S9.out.fp 4 rfl) (S9.out.rdM 7 rfl) (S9.out.rdM 0 rfl) HAW.out HZ2.out (by omega) (by omega) (by omega) (by omega) (fun _ => rfl)).mono ?_
        rintro e w10 ⟨v, rfl, hM, hb⟩
        rw [HZ1.out] at hM
        obtain ⟨aD, cD, rfl, hD, -, -, -⟩ := hM.rdM2 HCL.out
        have S10 := Lib.hid ((S9.out.step hb).add _ hD)
        clear hM hb hD S9
        -- [D, Z, C, Y, B, f, X, X0, A]
        go_wp2_with fail
        refine (keep_rows C aD (some ⟨gc, 0, none⟩) L cD cC w10 (S10.out.rdM 0 rfl) (S10.out.rdM 2 rfl) (by omega) hCl.out).mono ?_
        rintro e w11 ⟨rfl, j, rfl⟩
        have S11 := Lib.hid (S10.out.drewN j)
        clear S10
        generalize w10.drewN j = w11 at *
        go_wp2_with fail
        refine (keep_rows Y aX aY LZ cX cY w11 (S11.out.rdM 6 rfl) (S11.out.rdM 3 rfl) (by omega) hYl.out).mono ?_
        rintro e w12 ⟨rfl, j, rfl⟩
        have S12 := Lib.hid (S11.out.drewN j)
        clear S11
        generalize w11.drewN j = w12 at *
        go_wp2_with fail
        refine (wakes03 w12).mono ?_
        rintro e w13 ⟨rfl, hb⟩
        have S13 := Lib.hid (S12.out.step hb)
        clear hb S12
        go_wp2_with fail
        go_ret
        exact ⟨rfl, S13.out.1⟩
      · obtain ⟨h1, h2⟩ := HSC.out hz0
        rw [h1]
        have hLn : ((L : Int) == (LY : Int)) = false := by rw [beq_eq_false_iff_ne]; have := HL.out; omega
        clear HSB HSC h1 h2 hz0 hLZ
        generalize solR LY A C = Z at *
        go_wp2_with fail
        refine (keep_rows Y aX aY LY cX cY w9 (S9.out.rdM 5 rfl) (S9.out.rdM 2 rfl) (by omega) hYl.out).mono ?_
        rintro e w12 ⟨rfl, j, rfl⟩
        have S12 := Lib.hid (S9.out.drewN j)
        clear S9
        generalize w9.drewN j = w12 at *
        go_wp2_with fail
        refine (wakes03 w12).mono ?_
        rintro e w13 ⟨rfl, hb⟩
        have S13 := Lib.hid (S12.out.step hb)
        clear hb S12
        go_wp2_with fail
        go_ret
        exact ⟨rfl, S13.out.1⟩
end Go.Proofs.Ytfbhbjhfebkpfaa
