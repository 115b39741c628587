/- law08: the rank of the rows ahead, and what each tells (PreRank). -/
import Derived.Test.YtfbhbjhfebkpfaaLaw08a
import Derived.Test.YtfbhbjhfebkpfaaPreR
import Derived.Deep.RegionHeld3
namespace Go.Proofs.Ytfbhbjhfebkpfaa
open Go.RowKit
set_option linter.unusedVariables false

set_option maxRecDepth 100000 in
set_option maxHeartbeats 8000000 in
theorem preRank_walk (w : World) (a : Int) (ha : -9223372036854775808 ≤ a ∧ a ≤ 9223372036854775807) (b : Int) (hb : -9223372036854775808 ≤ b ∧ b ≤ 9223372036854775807) (c : Int) (hc : -9223372036854775808 ≤ c ∧ c ≤ 9223372036854775807)
    (ad : Option Addr) (len cap : Nat) (zs : List Int) (hr : Rd w w.heap.size ad len (zs.map (Value.int .u8))) (hcp : len ≤ cap ∧ cap ≤ maxLen ∧ (ad = none → cap = 0)) (hz : ∀ z ∈ zs, (Lit.int .u8 z).wf = true) :
    Calls Try.prog 19 #[.int .i64 a, .int .i64 b, .int .i64 c, .slice ad len cap] w fun e w' => e = .returned (.bool true) ∧ Below w.heap.size w w' := by
  obtain ⟨xs, hxs, hby⟩ := bytes_of hz
  rw [hxs] at hr
  have hlenI : (len : Int) ≤ 9223372036854775807 := by have := hcp.1; have := hcp.2.1; unfold maxLen at this; omega
  have CP := Lib.hid (play_params a b c w ha hb hc)
  obtain ⟨K, hK1, hK⟩ : ∃ K : Nat, (K : Int) = 1 + a % 16 ∧ 1 ≤ K ∧ K ≤ 16 := ⟨(1 + a % 16).toNat, by have := mod_bd a 16 (by omega); omega, by have := mod_bd a 16 (by omega); omega⟩
  obtain ⟨H, hH1, hH⟩ : ∃ H : Nat, (H : Int) = 1 + b % 4 ∧ 1 ≤ H ∧ H ≤ 4 := ⟨(1 + b % 4).toNat, by have := mod_bd b 4 (by omega); omega, by have := mod_bd b 4 (by omega); omega⟩
  obtain ⟨S, hS1, hS⟩ : ∃ S : Int, S = 1 + c % 24 ∧ 1 ≤ S ∧ S ≤ 24 := ⟨1 + c % 24, rfl, by have := mod_bd c 24 (by omega); omega⟩
  rw [← hK1, ← hH1, ← hS1] at CP
  clear hK1 hH1 hS1 ha hb hc hz hxs hcp
  unfold parV at CP
  obtain ⟨N, hN⟩ : ∃ N, K + H = N := ⟨_, rfl⟩
  have hNI : (K : Int) + (H : Int) = (N : Int) := by omega
  have hNw : IntKind.i64.wrap (N : Int) = (N : Int) := by rw [IntKind.wrap_i64]; omega
  have hN2 : N ≤ 20 := by omega
  have hKN : K < N := by omega
  have CR := Lib.hid fun G cs w hx => pre_rows_box K H S hK hH hS G cs w hx
  have CC := Lib.hid fun G cs w hx => pre_cols_box K H S hK hH hS N hN G cs w hx
  have CW := Lib.hid fun w => wakes08 w
  have HWF : Hid (Wf N (aheadR K H H)) := Lib.hid (by rw [← hN]; exact aheadR_wf K H H)
  have HRK := Lib.hid (ahead_rank K H)
  have HN := Lib.hid hN
  have HR := Lib.hid hr
  have HBY := Lib.hid hby
  clear hN hr hby
  go_enter Try.func19, Try.ntmps19
  go_wp2_with fail
  refine CP.out.mono ?_
  rintro e w1 ⟨rfl, hb⟩
  have HB := Lib.hid hb
  clear hb CP
  go_wp2_with fail
  have HX := Lib.hid (Blk.new w1 40 #[.int .i64 K, .int .i64 H, .int .i64 S])
  have HB1 := Lib.hid (HB.out.alloc HB.out.size (.cells #[.int .i64 K, .int .i64 H, .int .i64 S] 40))
  have hsz : w.heap.size ≤ w1.heap.size := HB.out.size
  generalize w1.alloc (.cells #[.int .i64 K, .int .i64 H, .int .i64 S] 40) = w2 at *
  generalize w1.heap.size = P at *
  generalize hG : w.heap.size = G at *
  have HG := Lib.hid hG
  clear hG HB
  refine (CR.out P _ w2 HX.out).mono ?_
  rintro e w3 ⟨g, cp, rfl, hg, hM, hx, hb⟩
  have hGg : G ≤ w2.heap.size := by have := HB1.out.size; have := HG.out; omega
  have HB3 := Lib.hid (HB1.out.trans (hb.mono hGg))
  have HM3 := Lib.hid hM.rdM
  have HX3 := Lib.hid hx
  clear hM hx hb HX HB1 hg
  go_wp2_with fail
  refine (gf_new _).mono ?_
  rintro e w4 ⟨gf, rfl, hgf, hfl, hb4⟩
  have hG3 : G ≤ w3.heap.size := by have := HB3.out.size; have := HG.out; omega
  have HB4 := Lib.hid (HB3.out.trans (hb4.mono hG3))
  have HM4 := Lib.hid ((HM3.out.below hb4 (Nat.le_refl _)).more hb4.size)
  have HX4 := Lib.hid (HX3.out.below hb4 (Blk.lt HX3.out))
  have HF4 := Lib.hid hfl
  clear hgf hfl hb4 HB3 HM3 HX3
  obtain ⟨c0, c1, c2⟩ := blk3 HX4.out
  have hHH : ((H : Int) != (H : Int)) = false := by simp
  have hNN : ((N : Int) != (N : Int)) = false := by simp
  have hG4 : G ≤ w4.heap.size := by have := HB4.out.size; have := HG.out; omega
  have CK := Lib.hid (mat_Rank (some ⟨gf, 0, none⟩) N H cp (aheadR K H H) (some ⟨g, 0, none⟩) (w4.drewN 1) (Fp.of (Blk.drewN HF4.out 1)) HM4.out HWF.out (by omega) (by omega))
  rw [HRK.out] at CK
  go_wp2_with fail
  go_region_held3 (fun w' => w'.cell? ⟨P, 0, none⟩ = some (.int .i64 K) ∧ w'.cell? ⟨P, 1, none⟩ = some (.int .i64 H) ∧ w'.cell? ⟨P, 2, none⟩ = some (.int .i64 S)) (go_keep) (first
    | (go_at_call 65
       refine CK.out.mono ?_
       rintro e w5 ⟨rfl, hb5⟩
       have HB5 : Hid (Below w4.heap.size w4 w5) := Lib.hid ((below_drewN (Below.refl w4.heap.size w4) 1).trans hb5)
       have HX5 := Lib.hid (HX4.out.below HB5.out (Blk.lt HX4.out))
       obtain ⟨n0, n1, n2⟩ := blk3 HX5.out
       clear hb5)
    | (go_at_call 40
       refine (CC.out P _ w5 HX5.out).mono ?_
       rintro e w6 ⟨rfl, hx6, hb6⟩
       obtain ⟨n0, n1, n2⟩ := blk3 hx6
       have HX6 := Lib.hid hx6
       have HB6 := Lib.hid (HB5.out.trans (hb6.mono HB5.out.size))
       clear hx6 hb6))
  have HBB := Lib.hid (HB4.out.trans (HB6.out.mono hG4))
  have HM6 := Lib.hid ((HM4.out.below HB6.out (Nat.le_refl _)).more HB6.out.size)
  have HF6 := Lib.hid (HF4.out.below HB6.out (Blk.lt HF4.out))
  clear HB4 HM4 HX4 HF4 CK HB5 HX5 HB6 c0 c1 c2
  obtain ⟨c0, c1, c2⟩ := blk3 HX6.out
  have hmk := make_bytes (n := N) (by omega)
  go_wp2_with (simp only [hmk])
  have hG6 : G ≤ w6.heap.size := by have := HBB.out.size; have := HG.out; omega
  have hPD : P < w6.heap.size := Blk.lt HX6.out
  have hgfD : gf < w6.heap.size := Blk.lt HF6.out
  have hO0 : OwnB (w6.alloc (.cells (rowB (List.replicate N 0)) 5)) w6.heap.size (.slice (some ⟨w6.heap.size, 0, none⟩) N N) (laidX N xs 0) := by
    have := own_of_blk (l := List.replicate N 0) (Blk.new w6 5 (rowB (List.replicate N 0))) (Nat.le_refl _) (by rw [List.length_replicate]; omega)
    rwa [List.length_replicate] at this
  have HO0 := Lib.hid hO0
  have HBD0 := Lib.hid ((Below.refl w6.heap.size w6).alloc (Nat.le_refl _) (.cells (rowB (List.replicate N 0)) 5))
  clear hO0 hmk c0 c1 c2
  generalize w6.alloc (.cells (rowB (List.replicate N 0)) 5) = w7 at *
  generalize hD : w6.heap.size = D at *
  have HD := Lib.hid hD
  clear hD
  go_wp2_with fail
  go_loopw [13] (fun i wr => ∃ j : Nat, j ≤ K ∧ i = .int .i64 j ∧ Hid (OwnB wr D (.slice (some ⟨D, 0, none⟩) N N) (laidX N xs j)) ∧ Hid (Below D w6 wr)) (fun i _ => K - (intOf i).toNat)
  case atStart => exact ⟨0, by omega, rfl, HO0, HBD0⟩
  case round =>
    clear HO0 HBD0
    obtain ⟨j, hj, rfl, HO, HB⟩ := hrel
    obtain ⟨c0, c1, c2⟩ := blk3 (HX6.out.below HB.out hPD)
    by_cases hjl : j < K ∧ j < len
    · obtain ⟨hjK, hjn⟩ := hjl
      have hjKI : (j : Int) < (K : Int) := by omega
      have hjnI : (j : Int) < (len : Int) := by omega
      have hjNI : (j : Int) < (N : Int) := by omega
      obtain ⟨bx, ox, rfl, hbx, hcc⟩ := HR.out.atB hjn
      have cx := ((HBB.out.cell (p := ⟨bx, ox + j, none⟩) hbx).trans (hcc j hjn))
      have cx2 := (HB.out.cell (p := ⟨bx, ox + j, none⟩) (by show bx < D; omega)).trans cx
      have hl := laidX_len N xs j
      obtain ⟨cc, cf⟩ := OwnB.cell HO.out hl (k := j) (by omega)
      have HS := Lib.hid (OwnB.stored HO.out hl j (xs.getD j 0))
      have HLD : Hid (laidX N xs (j + 1) = (laidX N xs j).set j (xs.getD j 0)) := Lib.hid rfl
      clear hl hcc cx
      generalize xs.getD j 0 = y at *
      go_wp2_with fail
      have HO5 : Hid (OwnB (wr.setCell ⟨D, j, none⟩ (.int .u8 (y : Nat))) D (.slice (some ⟨D, 0, none⟩) N N) (laidX N xs (j + 1))) := Lib.hid (by rw [HLD.out]; exact HS.out.1)
      have HB5 : Hid (Below D w6 (wr.setCell ⟨D, j, none⟩ (.int .u8 (y : Nat)))) := Lib.hid (Below.setCell HB.out (p := ⟨D, j, none⟩) (Nat.le_refl _) _)
      clear HS HO HB cc cf c0 c1 c2 cx2
      generalize wr.setCell ⟨D, j, none⟩ (.int .u8 (y : Nat)) = w8 at *
      go_roundw
      case rel => first | exact ⟨j + 1, by omega, by go_num, HO5, HB5⟩ | ((repeat apply Exists.intro); exact ⟨⟨j + 1, by omega, by go_num, HO5, HB5⟩, rfl⟩)
      case measure => simp [intOf]; omega
    · have hx0 : ∀ i, i < H → (laidX N xs j).getD (K + i) 0 = 0 := fun i hi => laidX_hi N xs j (by omega)
      have HX0 := Lib.hid hx0
      have HXL : Hid ((laidX N xs j).length = K + H) := Lib.hid (by rw [laidX_len, HN.out])
      have HXB := Lib.hid (laidX_by N HBY.out j)
      have HTELL := Lib.hid fun r (hr : r < H) => dot_told hr HXL.out HXB.out HX0.out
      have HO1 : Hid (OwnB wr D (.slice (some ⟨D, 0, none⟩) N N) (preX K H (laidX N xs j) 0)) := HO
      have hcase : ¬ (j : Int) < (K : Int) ∨ ((j : Int) < (K : Int) ∧ ¬ (j : Int) < (len : Int)) := by omega
      clear hx0 HO HX0 hjl
      generalize laidX N xs j = X at *
      have HB1 := HB
      rcases hcase with h1 | ⟨h1, h2⟩
      all_goals (
        go_wp2_with fail
        clear c0 c1 c2
        go_loopw [14, 15, 16, 77, 80] (fun _ _ _ i _ wq => ∃ r : Nat, r ≤ H ∧ i = .int .i64 r ∧ Hid (OwnB wq D (.slice (some ⟨D, 0, none⟩) N N) (preX K H X r)) ∧ Hid (Below D w6 wq)) (fun _ _ _ i _ _ => H - (intOf i).toNat)
        case atStart => exact ⟨0, by omega, rfl, HO1, HB1⟩
        case round =>
          clear HO1 HB1 HB
          obtain ⟨r, hr, rfl, HO, HB⟩ := hrel
          obtain ⟨c0, c1, c2⟩ := blk3 (HX6.out.below HB.out hPD)
          by_cases hrm : r < H
          · have hrmI : (r : Int) < (H : Int) := by omega
            obtain ⟨t1, t2, -⟩ := HTELL.out r hrm
            obtain ⟨bH, oH, aR, cR, e1, hbH, hcell0, hrd0, -⟩ := HM6.out.at hrm
            injection e1 with e1
            injection e1 with e1 e2
            subst e1 e2
            rw [aheadR_get K H H hrm] at hcell0 hrd0
            have hlR : (rowJ (K + H) (K + r) r K).length = N := by rw [rowJ_len]; exact HN.out
            rw [hlR] at hcell0 hrd0
            rw [Nat.zero_add] at hcell0
            have hbyR := rowJ_by (K + H) (K + r) r K
            have hlX : (preX K H X r).length = N := by rw [preX_len, HXL.out]; exact HN.out
            have hbyX := preX_by HXB.out (K := K) (H := H) r
            have hDr : D ≤ wr.heap.size := by have := HB.out.size; have := HD.out; omega
            have hrX := HO.out.rd2 hlX
            obtain ⟨aX, cX, eX, hrX, -⟩ := hrX
            injection eX with eX1 eX2 eX3
            subst eX1 eX3
            have CD := Lib.hid (row_dot (some ⟨gf, 0, none⟩) (rowJ (K + H) (K + r) r K) (preX K H X r) aR (some ⟨D, 0, none⟩) N cR N wr (Fp.of (HF6.out.below HB.out hgfD)) ((hrd0.below HB.out (Nat.le_refl _)).more hDr) hrX hbyR hbyX (by omega))
            rw [HN.out] at t1
            rw [HN.out, t1] at CD
            have hcell := (HB.out.cell (p := ⟨g, r, none⟩) hbH).trans hcell0
            have HSX : Hid (preX K H X (r + 1) = (preX K H X r).set (K + r) (srcD K H r X)) := Lib.hid rfl
            have hsb : srcD K H r X < 256 := dotK_lt _ _ _
            have HLX := Lib.hid hlX
            have HT2 := Lib.hid t2
            have HBX := Lib.hid hbyX
            obtain ⟨q, hq⟩ : ∃ q, K + r = q := ⟨_, rfl⟩
            have hqI : ((K : Int) + (r : Int)) = (q : Int) := by omega
            have hqw : IntKind.i64.wrap (q : Int) = (q : Int) := by rw [IntKind.wrap_i64]; omega
            have hqN : q < N := by omega
            have hqNI : (q : Int) < (N : Int) := by omega
            rw [hq] at HSX HT2
            clear hlR hbyR hlX hbyX hrX hrd0 t1 t2 hq
            generalize srcD K H r X = s at *
            generalize hX1 : preX K H X (r + 1) = X1 at *
            generalize preX K H X r = Xr at *
            have HX1 := Lib.hid hX1
            clear hX1
            go_wp2_with fail
            refine CD.out.mono ?_
            rintro e w8 ⟨rfl, hb8⟩
            have HO8 := Lib.hid (HO.out.below hb8)
            have HB8 := Lib.hid (HB.out.trans (hb8.mono hDr))
            have k0 := (hb8.cell (p := ⟨P, 0, none⟩) (by show P < _; omega)).trans c0
            have kh := (hb8.cell (p := ⟨g, r, none⟩) (by show g < _; omega)).trans hcell
            obtain ⟨cc, cf⟩ := OwnB.cell HO8.out HLX.out (k := q) hqN
            rw [HT2.out] at cc
            have HS := Lib.hid (OwnB.stored HO8.out HLX.out q s)
            have hNN : ((N : Int) != (N : Int)) = false := by simp
            have CA := Lib.hid fun w => gf_add (.pointer (some ⟨gf, 0, none⟩)) 0 s (by omega) hsb w
            rw [Nat.zero_xor] at CA
            clear hb8 HO HB c0 c1 c2 hcell CD
            go_wp2_with fail
            go_region_with (first
              | (go_at_call 25
                 refine (CA.out _).mono ?_
                 rintro e w9 ⟨rfl, rfl⟩))
            all_goals (
            have HO5 : Hid (OwnB (w8.setCell ⟨D, q, none⟩ (.int .u8 (s : Nat))).drew D (.slice (some ⟨D, 0, none⟩) N N) X1) := Lib.hid (by rw [HSX.out]; exact OwnB.drewN HS.out.1 1)
            have HB5 : Hid (Below D w6 (w8.setCell ⟨D, q, none⟩ (.int .u8 (s : Nat))).drew) := Lib.hid (Below.setCell HB8.out (p := ⟨D, q, none⟩) (Nat.le_refl _) _).drew
            clear HS HSX HO8 HB8 cc cf k0 kh CA
            generalize (w8.setCell ⟨D, q, none⟩ (.int .u8 (s : Nat))).drew = w9 at *
            go_wp2_with fail
            go_roundw
            case rel => first | exact ⟨r + 1, by omega, by go_num, by rw [HX1.out]; exact HO5, HB5⟩ | ((repeat apply Exists.intro); exact ⟨⟨r + 1, by omega, by go_num, by rw [HX1.out]; exact HO5, HB5⟩, rfl⟩)
            case measure => simp [intOf]; omega)
          · obtain rfl : r = H := by omega
            clear c0 c1 c2
            go_wp2_with fail
            go_loopw [17, 18, 19, 121, 124] (fun _ _ _ i _ wq => ∃ r' : Nat, r' ≤ r ∧ i = .int .i64 r' ∧ Hid (OwnB wq D (.slice (some ⟨D, 0, none⟩) N N) (preX K r X r)) ∧ Hid (Below D w6 wq)) (fun _ _ _ i _ _ => r - (intOf i).toNat)
            case atStart => exact ⟨0, by omega, rfl, HO, HB⟩
            case round =>
              clear HO HB
              obtain ⟨k, hk, rfl, HO, HB⟩ := hrel
              have hDr : D ≤ wr.heap.size := by have := HB.out.size; have := HD.out; omega
              by_cases hkm : k < r
              · have hkmI : (k : Int) < (r : Int) := by omega
                obtain ⟨-, -, t3⟩ := HTELL.out k hkm
                obtain ⟨bH, oH, aR, cR, e1, hbH, hcell0, hrd0, -⟩ := HM6.out.at hkm
                injection e1 with e1
                injection e1 with e1 e2
                subst e1 e2
                rw [aheadR_get K r r hkm] at hcell0 hrd0
                have hlR : (rowJ (K + r) (K + k) k K).length = N := by rw [rowJ_len]; exact HN.out
                rw [hlR] at hcell0 hrd0
                rw [Nat.zero_add] at hcell0
                have hbyR := rowJ_by (K + r) (K + k) k K
                have hlX : (preX K r X r).length = N := by rw [preX_len, HXL.out]; exact HN.out
                have hbyX := preX_by HXB.out (K := K) (H := r) r
                have hrX := HO.out.rd2 hlX
                obtain ⟨aX, cX, eX, hrX, -⟩ := hrX
                injection eX with eX1 eX2 eX3
                subst eX1 eX3
                have CD := Lib.hid (row_dot (some ⟨gf, 0, none⟩) (rowJ (K + r) (K + k) k K) (preX K r X r) aR (some ⟨D, 0, none⟩) N cR N wr (Fp.of (HF6.out.below HB.out hgfD)) ((hrd0.below HB.out (Nat.le_refl _)).more hDr) hrX hbyR hbyX (by omega))
                rw [HN.out] at t3
                rw [HN.out, t3] at CD
                have hcell := (HB.out.cell (p := ⟨g, k, none⟩) hbH).trans hcell0
                clear hlR hbyR hlX hbyX hrX hrd0 t3 hcell0
                go_wp2_with fail
                refine CD.out.mono ?_
                rintro e w8 ⟨rfl, hb8⟩
                have HO8 := Lib.hid (HO.out.below hb8)
                have HB8 := Lib.hid (HB.out.trans (hb8.mono hDr))
                clear hb8 HO HB hcell CD
                go_wp2_with fail
                go_roundw
                case rel => first | exact ⟨k + 1, by omega, by go_num, HO8, HB8⟩ | ((repeat apply Exists.intro); exact ⟨⟨k + 1, by omega, by go_num, HO8, HB8⟩, rfl⟩)
                case measure => simp [intOf]; omega
              · obtain rfl : k = r := by omega
                go_wp2_with fail
                refine (CW.out _).mono ?_
                rintro e w8 ⟨rfl, hb8⟩
                have HB8 : Hid (Below G w w8) := Lib.hid ((HBB.out.trans (HB.out.mono hG6)).trans (hb8.mono (by omega)))
                clear hb8
                go_wp2_with fail
                go_ret
                exact ⟨rfl, by rw [HG.out]; exact HB8.out⟩)
end Go.Proofs.Ytfbhbjhfebkpfaa
