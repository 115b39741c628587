/- The walk of wellspringlaw03.MatTurned. -/
import Derived.Test.YtfbhbjhfebkpfaaMatE
import Derived.Test.YtfbhbjhfebkpfaaLaw03a
namespace Go.Proofs.Ytfbhbjhfebkpfaa
open Go.RowKit
set_option linter.unusedVariables false

def colK (A : List (List Nat)) (j k : Nat) : List Nat := (List.range k).map fun i => gt A i j
theorem colK_len (A : List (List Nat)) (j k : Nat) : (colK A j k).length = k := by simp [colK]
theorem colK_succ (A : List (List Nat)) (j k : Nat) : colK A j (k + 1) = colK A j k ++ [gt A k j] := by simp [colK, List.range_succ]
def turnK (A : List (List Nat)) (L k : Nat) : List (List Nat) := (List.range k).map fun j => colK A j L
theorem turnK_len (A : List (List Nat)) (L k : Nat) : (turnK A L k).length = k := by simp [turnK]
theorem turnK_succ (A : List (List Nat)) (L k : Nat) : turnK A L (k + 1) = turnK A L k ++ [colK A k L] := by simp [turnK, List.range_succ]
theorem turnK_wf {n : Nat} {A : List (List Nat)} (hA : Wf n A) (L k : Nat) : Wf L (turnK A L k) := by
  intro r hr
  obtain ⟨j, _, rfl⟩ := List.mem_map.1 hr
  refine ⟨colK_len _ _ _, fun x hx => ?_⟩
  obtain ⟨i, _, rfl⟩ := List.mem_map.1 hx
  exact hA.lt i j
theorem turnK_gt {n : Nat} {A : List (List Nat)} (hA : Wf n A) (i j : Nat) : gt (turnK A A.length n) j i = gt A i j := by
  rcases Nat.lt_or_ge j n with hj | hj
  · have e : (turnK A A.length n).getD j [] = colK A j A.length := by simp [turnK, List.getD_eq_getElem?_getD, List.getElem?_map, List.getElem?_range, hj]
    rcases Nat.lt_or_ge i A.length with hi | hi
    · show ((turnK A A.length n).getD j []).getD i 0 = _
      rw [e]; simp [colK, List.getD_eq_getElem?_getD, List.getElem?_map, List.getElem?_range, hi]
    · rw [gt_out (M := A) hi]
      show ((turnK A A.length n).getD j []).getD i 0 = _
      rw [e, List.getD_eq_getElem?_getD, List.getElem?_eq_none (by rw [colK_len]; exact hi)]; rfl
  · rw [gt_out (M := turnK A A.length n) (by rw [turnK_len]; exact hj)]
    rcases Nat.lt_or_ge i A.length with hi | hi
    · show 0 = (A.getD i []).getD j 0
      rw [List.getD_eq_getElem?_getD (l := A.getD i []), List.getElem?_eq_none (by rw [(hA.get hi).1]; exact hj)]; rfl
    · rw [gt_out hi]
theorem turnK_rank {n : Nat} {A : List (List Nat)} (hA : Wf n A) : (rref (turnK A A.length n)).length = (rref A).length := by
  have h1 := rank_turn hA (turnK_wf hA A.length n) (turnK_len _ _ _) (fun i j => turnK_gt hA i j)
  have h2 := rank_turn (turnK_wf hA A.length n) hA rfl (fun i j => (turnK_gt hA j i).symm)
  omega
theorem mulM_nil (X : List (List Nat)) : mulM [] X = [] := rfl

set_option maxRecDepth 100000 in
set_option maxHeartbeats 8000000 in
theorem matTurned_walk (w : World) (a : Option Addr) (len cap : Nat) (zs : List Int) (hr : Rd w w.heap.size a len (zs.map (Value.int .u8))) (hc : len ≤ cap ∧ cap ≤ maxLen ∧ (a = none → cap = 0)) (hz : ∀ z ∈ zs, (Lit.int .u8 z).wf = true)
    (b : Option Addr) (len2 cap2 : Nat) (zs2 : List Int) (hr2 : Rd w w.heap.size b len2 (zs2.map (Value.int .u8))) (hd : len2 ≤ cap2 ∧ cap2 ≤ maxLen ∧ (b = none → cap2 = 0)) (hz2 : ∀ z ∈ zs2, (Lit.int .u8 z).wf = true) (n0 : Int) (hn0 : -9223372036854775808 ≤ n0 ∧ n0 ≤ 9223372036854775807) (k0 : Int) (hk0 : -9223372036854775808 ≤ k0 ∧ k0 ≤ 9223372036854775807) :
    Calls Try.prog 15 #[.slice a len cap, .slice b len2 cap2, .int .i64 n0, .int .i64 k0] w fun e w' => e = .returned (.bool true) ∧ Below w.heap.size w w' := by
  obtain ⟨xs, hxs, hby⟩ := bytes_of hz
  obtain ⟨ys, hys, hby2⟩ := bytes_of hz2
  rw [hxs] at hr
  rw [hys] at hr2
  obtain ⟨hc1, hc2, hc3⟩ := hc
  obtain ⟨hd1, hd2, hd3⟩ := hd
  have CW := Lib.hid (keep_within n0 10 w hn0 (by omega) (by omega))
  have CW2 := Lib.hid (keep_within k0 10 w hk0 (by omega) (by omega))
  have CC := Lib.hid fun w => keep_cut a len cap 130 w hc1 hc2 (by decide) hc3
  have CC2 := Lib.hid fun w => keep_cut b len2 cap2 100 w hd1 hd2 (by decide) hd3
  have hq1 : 0 ≤ n0 % 10 := Int.emod_nonneg _ (by omega)
  have hq2 : n0 % 10 < 10 := Int.emod_lt_of_pos _ (by omega)
  have hp1 : 0 ≤ k0 % 10 := Int.emod_nonneg _ (by omega)
  have hp2 : k0 % 10 < 10 := Int.emod_lt_of_pos _ (by omega)
  generalize n0 % 10 = q at *
  generalize k0 % 10 = p at *
  obtain ⟨n1, rfl⟩ := Int.eq_ofNat_of_zero_le hq1
  obtain ⟨k1, rfl⟩ := Int.eq_ofNat_of_zero_le hp1
  obtain ⟨n, hn⟩ : ∃ n, n = 1 + n1 := ⟨_, rfl⟩
  obtain ⟨k, hk⟩ : ∃ k, k = 1 + k1 := ⟨_, rfl⟩
  have hnI : (1 : Int) + (n1 : Int) = (n : Int) := by omega
  have hkI : (1 : Int) + (k1 : Int) = (k : Int) := by omega
  have hn1 : 1 ≤ n := by omega
  have hn2 : n ≤ 10 := by omega
  have hk1 : 1 ≤ k := by omega
  have hk2 : k ≤ 10 := by omega
  have HR := Lib.hid (rd_cut0 hr (n := Nat.min len 130) (Nat.min_le_left _ _))
  have HR2 := Lib.hid (rd_cut0 hr2 (n := Nat.min len2 100) (Nat.min_le_left _ _))
  have hm1 : Nat.min len 130 ≤ cap := Nat.le_trans (Nat.min_le_left _ _) hc1
  have hm2 : Nat.min len2 100 ≤ cap2 := Nat.le_trans (Nat.min_le_left _ _) hd1
  have hby3 : By (xs.take (Nat.min len 130)) := fun x hx => hby x (List.mem_of_mem_take hx)
  have hby4 : By (ys.take (Nat.min len2 100)) := fun x hx => hby2 x (List.mem_of_mem_take hx)
  generalize Nat.min len 130 = N at *
  generalize xs.take N = xa at *
  generalize Nat.min len2 100 = N2 at *
  generalize ys.take N2 = xb at *
  have CE := Lib.hid (law_even n xa _ a N cap w HR.out (Nat.le_refl _) ⟨hm1, hc2, hc3⟩ hn1 (by omega))
  have CE2 := Lib.hid fun w1 (hb : Below w.heap.size w w1) => law_even k xb _ b N2 cap2 w1 (HR2.out.below hb (Nat.le_refl _)) hb.size ⟨hm2, hd2, hd3⟩ hk1 (by omega)
  have HAW := Lib.hid (evenL_wf (n := n) 14 xa hby3)
  have HAL := Lib.hid (evenL_len (n := n) 14 xa)
  have HXW := Lib.hid (evenL_wf (n := k) 14 xb hby4)
  have HXL := Lib.hid (evenL_len (n := k) 14 xb)
  generalize evenL n 14 xa = A at *
  generalize evenL k 14 xb = X at *
  have HN := Lib.hid hn
  have HK := Lib.hid hk
  clear hr hr2 hc1 hc2 hc3 hd1 hd2 hd3 hq1 hq2 hp1 hp2 hn hk HR HR2 hm1 hm2 hby hby2 hby3 hby4 hxs hys hz hz2
  go_enter Try.func15, Try.ntmps15
  go_wp2_with fail
  refine CW.out.mono ?_
  rintro e w1 ⟨rfl, rfl⟩
  go_wp2_with fail
  refine CW2.out.mono ?_
  rintro e w1 ⟨rfl, rfl⟩
  go_wp2_with fail
  refine (CC.out _).mono ?_
  rintro e w1 ⟨rfl, rfl⟩
  go_wp2_with fail
  refine CE.out.mono ?_
  rintro e w1 ⟨v, rfl, hE, hb⟩
  have hbd : A.length ≤ 14 := HAL.out
  obtain ⟨L, hL⟩ : ∃ L, A.length = L := ⟨_, rfl⟩
  obtain ⟨aA, cA, rfl, hA, hnA, hcA, hmA⟩ := hE.rdM2 hL
  have S1 := Lib.hid (((Sx.nil w).step hb).add (eRdM aA L A) hA)
  clear hE hb hA CW CW2 CC CE
  go_wp2_with fail
  refine (CC2.out _).mono ?_
  rintro e w2 ⟨rfl, rfl⟩
  go_wp2_with fail
  refine (CE2.out w1 S1.out.1).mono ?_
  rintro e w2 ⟨v, rfl, hE, hb⟩
  have hbdX : X.length ≤ 14 := HXL.out
  obtain ⟨LX, hLX⟩ : ∃ L, X.length = L := ⟨_, rfl⟩
  obtain ⟨aX, cX, rfl, hX, hnX, hcX, hmX⟩ := hE.rdM2 hLX
  have S2 := Lib.hid ((S1.out.step hb).add (eRdM aX LX X) hX)
  clear hE hb hX CC2 CE2 S1
  go_wp2_with fail
  refine (gf_new _).mono ?_
  rintro e w3 ⟨g, rfl, hg, hF, hb⟩
  have S3 := Lib.hid ((S2.out.step hb).add (eFp (some ⟨g, 0, none⟩)) (.inr ⟨g, rfl, hF⟩))
  have HL := Lib.hid hL
  have HLX := Lib.hid hLX
  have hL14 : L ≤ 14 := by omega
  have hX14 : LX ≤ 14 := by omega
  clear hb hF hg S2 hbd hbdX hL hLX hnA hnX hmA hmX
  -- [f, X, A]
  go_wp2_with fail
  have HM0 : Hid (MOwn w3 w3.heap.size (.slice none 0 0) (turnK A L 0)) := Lib.hid (MOwn.nil _ _)
  have HS0 : Hid (Sx w w3 [eFp (some ⟨g, 0, none⟩), eRdM aX LX X, eRdM aA L A]) := Lib.hid S3.out
  have HB0 : Hid (Below w3.heap.size w3 w3) := Lib.hid (Below.refl _ _)
  go_loopw [12, 13, 14, 15] (fun t j _ _ wr => ∃ r : Nat, r ≤ n ∧ j = .int .i64 r ∧ Hid (MOwn wr w3.heap.size t (turnK A L r)) ∧ Hid (0 < r → 0 < L) ∧ Hid (Below w3.heap.size w3 wr)) (fun _ j _ _ _ => n - (intOf j).toNat)
  case atStart => exact ⟨0, by omega, rfl, HM0, Lib.hid (fun h => by omega), HB0⟩
  case round =>
    clear HM0 HS0 HB0
    obtain ⟨r, hr, rfl, HM, HP, HB⟩ := hrel
    rename World => wo
    have hG : w3.heap.size ≤ wo.heap.size := HB.out.size
    by_cases hgo : r < n ∧ 0 < L
    · obtain ⟨hrn, hL0⟩ := hgo
      have hrnI : (r : Int) < (n : Int) := by omega
      have hL0I : (0 : Int) < (L : Int) := by omega
      have hO0 : Hid (OwnB wo wo.heap.size (.slice none 0 0) (colK A r 0)) := Lib.hid (OwnB.nil _ _)
      have hB0 : Hid (Below wo.heap.size wo wo) := Lib.hid (Below.refl _ _)
      go_wp2_with fail
      generalize hD : wo.heap.size = D at *
      have HD := Lib.hid hD
      clear hD
      go_loopw [14, 15, 45] (fun c _ i wq => ∃ j : Nat, j ≤ L ∧ i = .int .i64 j ∧ Hid (OwnB wq D c (colK A r j)) ∧ Hid (Below D wo wq)) (fun _ _ i _ => L - (intOf i).toNat)
      case atStart => exact ⟨0, by omega, rfl, hO0, hB0⟩
      case round =>
        clear hO0 hB0
        obtain ⟨j, hj, rfl, HO, HBD⟩ := hrel
        by_cases hjL : j < L
        · have hjLI : (j : Int) < (L : Int) := by omega
          have hDr : D ≤ wr.heap.size := by have := HBD.out.size; have := HD.out; omega
          have hBw : Below w3.heap.size w3 wr := HB.out.trans (HBD.out.mono hG)
          obtain ⟨bA, oA, aR, cR, rfl, hbA, hcA2, hrA, -, -, -⟩ := ((S3.out.rdM 2 rfl).below hBw (Nat.le_refl _)).at hjL
          have hga := HAW.out.get (i := j) (by rw [HL.out]; exact hjL)
          rw [hga.1] at hcA2 hrA
          obtain ⟨bR, oR, rfl, hbR, hcc⟩ := hrA.atB hrn
          have cx := hcc r hrn
          have hgt : (A.getD j []).getD r 0 = gt A j r := rfl
          rw [hgt] at cx
          have HST := Lib.hid (colK_succ A r j)
          have HCL := Lib.hid (colK_len A r j)
          clear hga hrA hcc hgt
          generalize gt A j r = z at *
          have hown : (wr.alloc (.cells #[.int .u8 (z : Nat)] 5)).ownsRow D 5 1 u14 j (cellsB (colK A r j)) := by
            have := World.ownsRow.alloc HO.out (.cells #[.int .u8 (z : Nat)] 5)
            rw [HCL.out] at this
            exact this
          have HOW := Lib.hid hown
          have HC : Hid ((wr.alloc (.cells #[.int .u8 (z : Nat)] 5)).cell? ⟨wr.heap.size, 0, none⟩ = some (.int .u8 (z : Nat))) := Lib.hid (cell_lit wr _ _ 0)
          clear hown
          go_wp2_with (at_builtin; refine wp_app1At _ rfl _ _ 49 rfl D 5 (.int .u8 0) 1 Try.underlying49 infoS_u8 rfl u14 j (cellsB (colK A r j)) rfl HOW.out wr.heap.size (.int .u8 (z : Nat)) rfl HC.out rfl ?q1 ?q2 ?q3 ?_)
          case q1 => omega
          case q2 => unfold maxLen; omega
          case q3 => first | omega | (simp; omega)
          intro v' w5 hown2 hg2 _
          have hO2 : OwnB w5 D v' (colK A r (j + 1)) := by
            have e : cellsB (colK A r (j + 1)) = cellsB (colK A r j) ++ [.int .u8 (z : Nat)] := by rw [HST.out]; simp [cellsB]
            unfold OwnB
            rw [colK_len, e]
            exact hown2
          have HB2 := Lib.hid ((HBD.out.alloc hDr _).grown hg2 (by simp; omega) (fun g hg => (HO.out.lt g hg).1))
          have HO2 := Lib.hid hO2
          clear hO2 hown2 hg2 HOW HC HBD HO cx hcA2 hBw HST HCL
          go_wp2_with fail
          go_roundw
          case rel => first | exact ⟨j + 1, by omega, by go_num, HO2, HB2⟩ | ((repeat apply Exists.intro); exact ⟨⟨j + 1, by omega, by go_num, HO2, HB2⟩, rfl⟩)
          case measure => simp [intOf]; omega
        · obtain rfl : j = L := by omega
          have hmt : (turnK A j r).length ≤ 1000000 := by rw [turnK_len]; omega
          have hGD2 : w3.heap.size ≤ wo.heap.size := by rw [HD.out]; exact hG
          have HBD2 : Hid (Below wo.heap.size wo wr) := Lib.hid (by rw [HD.out]; exact HBD.out)
          have HO2 : Hid (OwnB wr wo.heap.size u14 (colK A r j)) := Lib.hid (by rw [HD.out]; exact HO.out)
          obtain ⟨a14, c14, e14, -⟩ := HO2.out.rd
          rw [colK_len] at e14
          subst e14
          go_wp2_with (at_builtin; refine wp_appRow (w0 := wo) (w1 := wr) rfl _ _ rfl HM.out HBD2.out HO2.out hGD2 hmt rfl rfl ?_)
          intro v' w6 hM6 hb6 hg6 hat6
          rw [← turnK_succ] at hM6
          have HM6 := Lib.hid hM6
          have HB6 := Lib.hid (HB.out.trans hb6)
          clear hM6 hb6 hg6 hat6 HM HBD HBD2 HO HO2 HB
          go_wp2_with fail
          go_roundw
          case rel => first | exact ⟨r + 1, by omega, by go_num, HM6, Lib.hid (fun _ => hL0), HB6⟩ | ((repeat apply Exists.intro); exact ⟨⟨r + 1, by omega, by go_num, HM6, Lib.hid (fun _ => hL0), HB6⟩, rfl⟩)
          case measure => simp [intOf]; omega
    · have hcase : (r < n ∧ L = 0) ∨ (r = n ∧ 0 < L) := by
        rcases Nat.eq_zero_or_pos L with h | h
        · left; exact ⟨by rcases Nat.eq_zero_or_pos r with h1 | h1; omega; have := HP.out h1; omega, h⟩
        · right; exact ⟨by omega, h⟩
      have HTR : Hid ((rref (turnK A L r)).length = (rref A).length) := Lib.hid (by
        rcases hcase with ⟨h1, h2⟩ | ⟨h1, h2⟩
        · have hA0 : A = [] := List.eq_nil_of_length_eq_zero (by rw [HL.out]; exact h2)
          rcases Nat.eq_zero_or_pos r with h3 | h3
          · rw [h3, hA0]; rfl
          · have := HP.out h3; omega
        · rw [h1, ← HL.out]; exact turnK_rank HAW.out)
      have HTW := Lib.hid (turnK_wf HAW.out L r)
      have HTL := Lib.hid (turnK_len A L r)
      obtain ⟨aT, cT, e12, hT, -, -, -⟩ := HM.out.rdM2 (turnK_len A L r)
      subst e12
      have S4 := Lib.hid ((S3.out.step HB.out).add _ hT)
      clear hT HM HB S3 HP
      generalize turnK A L r = T at *
      rcases hcase with ⟨h1, h2⟩ | ⟨h1, h2⟩
      case' inl =>
        have h1I : (r : Int) < (n : Int) := by omega
        have h2I : decide ((0 : Int) < (L : Int)) = false := by rw [h2]; rfl
        have hrn : r ≤ 10 := by omega
        have HH := Lib.hid h2
        have HH2 := Lib.hid h1I
        clear h1 h2
        go_wp2_with fail
      case' inr =>
        have h1I : ¬ (r : Int) < (n : Int) := by omega
        have h2I : True := trivial
        have hrn : r ≤ 10 := by omega
        have HH := Lib.hid h1
        have HH2 := Lib.hid h2
        clear h1 h2
        go_wp2_with fail
      all_goals (
        clear h1I h2I HH HH2
        refine (mat_Rank (some ⟨g, 0, none⟩) L r cT T aT wo (S4.out.fp 1 rfl) (S4.out.rdM 0 rfl) HTW.out (by omega) (by omega)).mono ?_
        rintro e w5 ⟨rfl, hb⟩
        rw [HTR.out]
        have S5 := Lib.hid (S4.out.step hb)
        clear hb S4
        go_wp2_with fail
        refine (mat_Rank (some ⟨g, 0, none⟩) n L cA A aA w5 (S5.out.fp 1 rfl) (S5.out.rdM 3 rfl) HAW.out (by omega) (by omega)).mono ?_
        rintro e w6 ⟨rfl, hb⟩
        have S6 := Lib.hid (S5.out.step hb)
        clear hb S5
        generalize hrA : (rref A).length = rA at *
        have HRA := Lib.hid hrA
        clear hrA
        have hrr : ((rA : Int) != (rA : Int)) = false := by simp
        clear HTR HTW HTL hrn
        by_cases hno : 0 < L ∧ n ≠ LX
        · obtain ⟨hL0, hne⟩ := hno
          first
          | (exfalso; omega)
          | (
            have hL0I : (0 : Int) < (L : Int) := by omega
            have hneI : ((LX : Int) != (n : Int)) = true := by simp; omega
            have hLne : Hid (n ≠ LX) := Lib.hid hne
            clear hne
            go_wp2_with fail
            refine (mat_Mul_no (some ⟨g, 0, none⟩) n k L LX cA cX A X aA aX w6 (S6.out.rdM 3 rfl) (S6.out.rdM 2 rfl) HAW.out HXW.out (by omega) (by omega) (by omega) (by omega) hL0 hLne.out).mono ?_
            rintro e w7 ⟨rfl, rfl⟩
            go_wp2_with fail
            refine (wakes03 w6).mono ?_
            rintro e w8 ⟨rfl, hb⟩
            have S8 := Lib.hid (S6.out.step hb)
            clear hb S6
            go_wp2_with fail
            go_ret
            exact ⟨rfl, S8.out.1⟩)
        · have hfit : Hid (0 < L → n = LX) := Lib.hid (fun h => by omega)
          have hpp : Hid (Wf k (mulM A X) ∧ (mulM A X).length = L ∧ (rref (mulM A X)).length ≤ rA ∧ (rref (mulM A X)).length ≤ (rref X).length) := Lib.hid (by
            refine ⟨?_, by unfold mulM; rw [List.length_map]; exact HL.out, ?_⟩
            · rcases Nat.eq_zero_or_pos L with h | h
              · have hA0 : A = [] := List.eq_nil_of_length_eq_zero (by rw [HL.out]; exact h)
                rw [hA0]; intro r hr; simp [mulM] at hr
              · exact mulM_wf HXW.out (fun e => by have := HLX.out; rw [e] at this; have := hfit.out h; simp at *; omega)
            · rcases Nat.eq_zero_or_pos L with h | h
              · have hA0 : A = [] := List.eq_nil_of_length_eq_zero (by rw [HL.out]; exact h)
                rw [hA0]
                have : (rref (mulM [] X)).length = 0 := rfl
                omega
              · rw [← HRA.out]
                exact rank_mul HAW.out HXW.out (fun e => by have := HLX.out; rw [e] at this; have := hfit.out h; simp at *; omega))
          have hg1 : (decide ((0 : Int) < (L : Int)) = false ∧ ¬ 0 < L) ∨ ((0 : Int) < (L : Int) ∧ ((LX : Int) != (n : Int)) = false) := by
            rcases Nat.eq_zero_or_pos L with h | h
            · left; exact ⟨by rw [h]; rfl, by omega⟩
            · right; exact ⟨by omega, by have := hfit.out h; simp; omega⟩
          clear hno
          go_wp2_with fail
          refine (mat_Mul (some ⟨g, 0, none⟩) n k L LX cA cX A X aA aX w6 (S6.out.fp 1 rfl) (S6.out.rdM 3 rfl) (S6.out.rdM 2 rfl) HAW.out HXW.out (by omega) (by omega) (by omega) (by omega) hfit.out).mono ?_
          rintro e w7 ⟨v, rfl, hM, hb⟩
          obtain ⟨aP, cP, rfl, hP, -, -, -⟩ := hM.rdM2 hpp.out.2.1
          have S7 := Lib.hid ((S6.out.step hb).add _ hP)
          clear hM hb hP S6
          have HPW := Lib.hid hpp.out.1
          have HPR := Lib.hid hpp.out.2.2
          clear hpp
          generalize mulM A X = P at *
          have hLL : ((L : Int) == (L : Int)) = true := by simp
          generalize hrX : (rref X).length = rX at *
          have HRX := Lib.hid hrX
          clear hrX
          generalize hrP : (rref P).length = rP at *
          have HRP := Lib.hid hrP
          clear hrP
          obtain ⟨mn, hmn⟩ : ∃ mn, mn = if rX < rA then rX else rA := ⟨_, rfl⟩
          have hmnI : (if rX < rA then (rX : Int) else (rA : Int)) = (mn : Int) := by rw [hmn]; split <;> rfl
          have hmin : rP ≤ mn := by have := HPR.out; rw [hmn]; split <;> omega
          have hminI : (rP : Int) ≤ (mn : Int) := by omega
          clear hmn
          rcases hg1 with ⟨h1, h2⟩ | ⟨h1, h2⟩
          all_goals first
           | (exfalso; omega)
           | (
            go_wp2_with fail
            refine (mat_Rank (some ⟨g, 0, none⟩) k L cP P aP w7 (S7.out.fp 2 rfl) (S7.out.rdM 0 rfl) HPW.out (by omega) (by omega)).mono ?_
            rintro e w8 ⟨rfl, hb⟩
            rw [HRP.out]
            have S8 := Lib.hid (S7.out.step hb)
            clear hb S7
            go_wp2_with fail
            refine (mat_Rank (some ⟨g, 0, none⟩) n L cA A aA w8 (S8.out.fp 2 rfl) (S8.out.rdM 4 rfl) HAW.out (by omega) (by omega)).mono ?_
            rintro e w9 ⟨rfl, hb⟩
            rw [HRA.out]
            have S9 := Lib.hid (S8.out.step hb)
            clear hb S8
            go_wp2_with fail
            refine (mat_Rank (some ⟨g, 0, none⟩) k LX cX X aX w9 (S9.out.fp 2 rfl) (S9.out.rdM 3 rfl) HXW.out (by omega) (by omega)).mono ?_
            rintro e w10 ⟨rfl, hb⟩
            rw [HRX.out]
            have S10 := Lib.hid (S9.out.step hb)
            clear hb S9
            go_wp2_with fail
            refine (wakes03 w10).mono ?_
            rintro e w11 ⟨rfl, hb⟩
            have S11 := Lib.hid (S10.out.step hb)
            clear hb S10
            go_wp2_with fail
            go_ret
            exact ⟨rfl, S11.out.1⟩))
end Go.Proofs.Ytfbhbjhfebkpfaa
