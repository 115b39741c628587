/- law08: the rows ahead side by side (PreDense). -/
import Derived.Test.YtfbhbjhfebkpfaaLaw08a
import Derived.Test.YtfbhbjhfebkpfaaVand
import Derived.Test.YtfbhbjhfebkpfaaLaw03a
namespace Go.Proofs.Ytfbhbjhfebkpfaa
open Go.RowKit
set_option linter.unusedVariables false

theorem rowJ_get (n q h : Nat) : ∀ (j i : Nat), i < j → j ≤ n → (rowJ n q h j).getD i 0 = ex ((h + 1) * (i + 1))
  | 0, i, hi, _ => by omega
  | j + 1, i, hi, hj => by
    rw [rowJ, List.getD_eq_getElem?_getD, List.getElem?_set, rowJ_len]
    by_cases h1 : j = i
    · subst h1; rw [if_pos rfl, if_pos (by omega)]; rfl
    · rw [if_neg h1, ← List.getD_eq_getElem?_getD]; exact rowJ_get n q h j i (by omega) (by omega)
/-- So many rows, of each the columns f .. f + k. -/
def denR (K H f k r : Nat) : List (List Nat) := (aheadR K H r).map fun l => (l.drop f).take k
theorem denR_len (K H f k r : Nat) : (denR K H f k r).length = r := by unfold denR; rw [List.length_map, aheadR_len]
theorem denR_succ (K H f k r : Nat) : denR K H f k (r + 1) = denR K H f k r ++ [((rowJ (K + H) (K + r) r K).drop f).take k] := by
  unfold denR; rw [aheadR, List.map_append]; rfl
theorem denR_wf (K H f k r : Nat) (hf : f + k ≤ K) : Wf k (denR K H f k r) := by
  intro l hl
  unfold denR at hl
  obtain ⟨l', h1, rfl⟩ := List.mem_map.1 hl
  obtain ⟨h2, h3⟩ := aheadR_wf K H r l' h1
  refine ⟨by rw [List.length_take, List.length_drop, h2]; omega, fun x hx => h3 x (List.mem_of_mem_drop (List.mem_of_mem_take hx))⟩
theorem denR_gt (K H f k r : Nat) (hf : f + k ≤ K) (i j : Nat) (hi : i < r) (hj : j < k) : gt (denR K H f k r) i j = ex ((i + 1) * (f + j + 1)) := by
  unfold gt denR
  have h1 : ((aheadR K H r).map fun l => (l.drop f).take k).getD i [] = (((aheadR K H r).getD i []).drop f).take k := by
    rw [List.getD_eq_getElem?_getD, List.getElem?_map, getD_some (M := aheadR K H r) (i := i) (by rw [aheadR_len]; exact hi)]; rfl
  rw [h1, aheadR_get K H r hi, List.getD_eq_getElem?_getD, List.getElem?_take, if_pos hj, List.getElem?_drop, ← List.getD_eq_getElem?_getD]
  exact rowJ_get _ _ _ _ _ (by omega) (by omega)
theorem denR_rank (K H f k : Nat) (hf : f + k ≤ K) (hk : k ≤ H) (hK : K ≤ 16) : (rref (denR K H f k H)).length = k :=
  vand_rank (denR_wf K H f k H hf) (denR_len K H f k H) hk (by omega) fun i j hi hj => denR_gt K H f k H hf i j hi hj

set_option maxRecDepth 100000 in
set_option maxHeartbeats 8000000 in
theorem preDense_walk (w : World) (a : Int) (ha : -9223372036854775808 ≤ a ∧ a ≤ 9223372036854775807) (b : Int) (hb : -9223372036854775808 ≤ b ∧ b ≤ 9223372036854775807) (c : Int) (hc : -9223372036854775808 ≤ c ∧ c ≤ 9223372036854775807) :
    Calls Try.prog 17 #[.int .i64 a, .int .i64 b, .int .i64 c] w fun e w' => e = .returned (.bool true) ∧ Below w.heap.size w w' := by
  have CP := Lib.hid (play_params a b 0 w ha hb (by omega))
  obtain ⟨K, hK1, hK⟩ : ∃ K : Nat, (K : Int) = 1 + a % 16 ∧ 1 ≤ K ∧ K ≤ 16 := ⟨(1 + a % 16).toNat, by have := mod_bd a 16 (by omega); omega, by have := mod_bd a 16 (by omega); omega⟩
  obtain ⟨H, hH1, hH⟩ : ∃ H : Nat, (H : Int) = 1 + b % 4 ∧ 1 ≤ H ∧ H ≤ 4 := ⟨(1 + b % 4).toNat, by have := mod_bd b 4 (by omega); omega, by have := mod_bd b 4 (by omega); omega⟩
  rw [← hK1, ← hH1, show (1 : Int) + 0 % 24 = 1 from by decide] at CP
  clear hK1 hH1 ha hb
  unfold parV at CP
  obtain ⟨k, hk⟩ : ∃ k : Nat, k = if K < H then K else H := ⟨_, rfl⟩
  have hk1 : 1 ≤ k ∧ k ≤ K ∧ k ≤ H := by split at hk <;> omega
  have hmin : (if K < H then (K : Int) else (H : Int)) = (k : Int) := by
    rw [hk]; split <;> rfl
  obtain ⟨d, hd⟩ : ∃ d : Nat, d = K - k := ⟨_, rfl⟩
  have hdI : (K : Int) - (k : Int) = (d : Int) := by omega
  have hdw : IntKind.i64.wrap (d : Int) = (d : Int) := by rw [IntKind.wrap_i64]; omega
  have hdw2 : IntKind.i64.wrap ((d : Int) + 1) = (d : Int) + 1 := by rw [IntKind.wrap_i64]; omega
  obtain ⟨f, hf1, hf⟩ : ∃ f : Nat, (f : Int) = c % ((d : Int) + 1) ∧ f ≤ d := ⟨(c % ((d : Int) + 1)).toNat, by have := mod_bd c ((d : Int) + 1) (by omega); omega, by have := mod_bd c ((d : Int) + 1) (by omega); omega⟩
  have CWI := Lib.hid fun w => keep_within c ((d : Int) + 1) w hc (by omega) (by omega)
  rw [← hf1] at CWI
  have hfk : f + k ≤ K := by omega
  have HRK := Lib.hid (denR_rank K H f k hfk hk1.2.2 hK.2)
  have HWF := Lib.hid (denR_wf K H f k H hfk)
  obtain ⟨t, ht⟩ : ∃ t, f + k = t := ⟨_, rfl⟩
  have htI : (f : Int) + (k : Int) = (t : Int) := by omega
  have htw : IntKind.i64.wrap (t : Int) = (t : Int) := by rw [IntKind.wrap_i64]; omega
  obtain ⟨N, hN⟩ : ∃ N, K + H = N := ⟨_, rfl⟩
  have hNI : (K : Int) + (H : Int) = (N : Int) := by omega
  have hNw : IntKind.i64.wrap (N : Int) = (N : Int) := by rw [IntKind.wrap_i64]; omega
  have htK : t ≤ K := by omega
  have hKN : K < N := by omega
  have hN2 : N ≤ 20 := by omega
  have HT := Lib.hid ht
  have HN := Lib.hid hN
  have HMIN := Lib.hid hmin
  clear hf1 hc hd hk ht hN
  have CR := Lib.hid fun G cs w hx => pre_rows_box K H 1 hK hH (by omega) G cs w hx
  have CW := Lib.hid fun w => wakes08 w
  go_enter Try.func17, Try.ntmps17
  go_wp2_with fail
  refine CP.out.mono ?_
  rintro e w1 ⟨rfl, hb⟩
  have HB := Lib.hid hb
  clear hb CP
  go_wp2_with fail
  have HX := Lib.hid (Blk.new w1 40 #[.int .i64 K, .int .i64 H, .int .i64 1])
  have HB1 := Lib.hid (HB.out.alloc HB.out.size (.cells #[.int .i64 K, .int .i64 H, .int .i64 1] 40))
  have hsz : w.heap.size ≤ w1.heap.size := HB.out.size
  generalize w1.alloc (.cells #[.int .i64 K, .int .i64 H, .int .i64 1] 40) = w2 at *
  generalize w1.heap.size = P at *
  generalize hG : w.heap.size = G at *
  have HG := Lib.hid hG
  clear hG HB
  refine (CR.out P _ w2 HX.out).mono ?_
  rintro e w3 ⟨g, cp, rfl, hg, hM, hx, hb⟩
  have hGg : G ≤ w2.heap.size := by have := HB1.out.size; have := HG.out; omega
  have HR : Hid (RdM w3 w3.heap.size (some ⟨g, 0, none⟩) H (aheadR K H H)) := Lib.hid hM.rdM
  have HX0 : Hid (Blk w3 P 40 #[.int .i64 K, .int .i64 H, .int .i64 1]) := Lib.hid hx
  have HB0 := Lib.hid (HB1.out.trans (hb.mono hGg))
  have hGD : G ≤ w3.heap.size := Nat.le_trans hGg hb.size
  have hPD : P < w3.heap.size := Blk.lt hx
  clear hM hx hb HX HB1 hg
  obtain ⟨c0, c1, c2⟩ := blk3 HX0.out
  have hHH : ((H : Int) != (H : Int)) = false := by simp
  go_wp2_with fail
  refine (CWI.out _).mono ?_
  rintro e w4 ⟨rfl, rfl⟩
  go_wp2_with fail
  clear c0 c1 c2 hHH hmin hdI hdw hdw2
  generalize hD : w3.heap.size = D at *
  have HD := Lib.hid hD
  clear hD
  have HE0 : Hid (Ev w3 D (.slice none 0 0) (denR K H f k 0)) := Lib.hid (Ev.nil _ _)
  have HBD0 : Hid (Below D w3 w3) := Lib.hid (Below.refl _ _)
  go_loopw [11, 12, 13, 38] (fun o _ _ i wr => ∃ r : Nat, r ≤ H ∧ i = .int .i64 r ∧ Hid (Ev wr D o (denR K H f k r)) ∧ Hid (Below D w3 wr)) (fun _ _ _ i _ => H - (intOf i).toNat)
  case atStart => exact ⟨0, by omega, rfl, HE0, HBD0⟩
  case round =>
    clear HE0 HBD0
    obtain ⟨r, hr, rfl, HE, HB⟩ := hrel
    rename World => wo
    by_cases hrm : r < H
    · have hrmI : (r : Int) < (H : Int) := by omega
      obtain ⟨c0, c1, c2⟩ := blk3 (HX0.out.below HB.out hPD)
      obtain ⟨bH, oH, aR, cR, e1, hbH, hcell3, hrd, hnR, hlc, hcm⟩ := HR.out.at hrm
      injection e1 with e1
      injection e1 with e1 e2
      subst e1 e2
      rw [aheadR_get K H H hrm] at hcell3 hrd hlc
      have hlen : (rowJ (K + H) (K + r) r K).length = N := by rw [rowJ_len]; exact HN.out
      rw [hlen] at hcell3 hrd hlc
      rw [Nat.zero_add] at hcell3
      have hne0 : ∀ j, j < K → (rowJ (K + H) (K + r) r K).getD j 0 ≠ 0 := fun j hj => by rw [rowJ_get _ _ _ _ _ hj (by omega)]; have := (ex_bd ((r + 1) * (j + 1))).1; omega
      have HST := Lib.hid (denR_succ K H f k r)
      obtain ⟨bR, oR, rfl, hbR, hcR⟩ := hrd.atB (k := 0) (by omega)
      generalize rowJ (K + H) (K + r) r K = R at *
      have hcell := (HB.out.cell (p := ⟨g, r, none⟩) hbH).trans hcell3
      have HCE := Lib.hid hcell3
      have HRD := Lib.hid hrd
      have HCR := Lib.hid hcR
      have HNE := Lib.hid hne0
      have HLN := Lib.hid hlen
      clear hrd hcR hne0 hlen hnR
      have hNN : ((N : Int) != (N : Int)) = false := by simp
      go_wp2_with fail
      go_quiet (fail)
      go_wp2_with fail
      clear c0 c1 c2 hcell hNN hcell3
      go_loopw [13] (fun i wq => ∃ j : Nat, j ≤ K ∧ i = .int .i64 j ∧ Hid (Ev wq D u11 (denR K H f k r)) ∧ Hid (Below D w3 wq)) (fun i _ => K - (intOf i).toNat)
      case atStart => exact ⟨0, by omega, rfl, Lib.hid (HE.out.new (below_drewN (Below.refl _ _) _)), Lib.hid (below_drewN HB.out _)⟩
      case round =>
        clear HE HB
        obtain ⟨j, hj, rfl, HE, HB⟩ := hrel
        obtain ⟨c0, c1, c2⟩ := blk3 (HX0.out.below HB.out hPD)
        have hcell := (HB.out.cell (p := ⟨g, r, none⟩) hbH).trans HCE.out
        by_cases hjn : j < K
        · have hjnI : (j : Int) < (K : Int) := by omega
          have cR := (HB.out.cell (p := ⟨bR, oR + j, none⟩) hbR).trans (HCR.out j (by omega))
          have hnz := HNE.out j hjn
          have hjN : (j : Int) < (N : Int) := by omega
          generalize R.getD j 0 = y at *
          have hyz : ((y : Int) == 0) = false := by simp; omega
          clear hnz
          go_wp2_with fail
          clear c0 c1 c2 hcell cR hyz
          go_roundw
          case rel => first | exact ⟨j + 1, by omega, by go_num, HE, HB⟩ | ((repeat apply Exists.intro); exact ⟨⟨j + 1, by omega, by go_num, HE, HB⟩, rfl⟩)
          case measure => simp [intOf]; omega
        · obtain rfl : j = K := by omega
          have hDr : D ≤ wr.heap.size := by have := HB.out.size; have := HD.out; omega
          have hbW : Below wr.heap.size wr (wr.alloc (.cells #[.slice (some ⟨bR, oR + f, none⟩) k (cR - f)] 49)) := (Below.refl _ _).alloc (Nat.le_refl _) _
          have hBW : Below D w3 (wr.alloc (.cells #[.slice (some ⟨bR, oR + f, none⟩) k (cR - f)] 49)) := HB.out.alloc hDr _
          have hlt : ((R.drop f).take k).length = k := by rw [List.length_take, List.length_drop, HLN.out]; omega
          have hrc := rd_cut HRD.out hlc (lo := f) (n := k) (by omega)
          rw [if_neg (by omega), Option.map_some, Addr.add_lit] at hrc
          have hx2 : RdX (wr.alloc (.cells #[.slice (some ⟨bR, oR + f, none⟩) k (cR - f)] 49)) u11.ownBlock (some ⟨bR, oR + f, none⟩) k (cellsB ((R.drop f).take k)) :=
            rdX_of (hrc.below hBW (Nat.le_refl _)) (Nat.le_trans hDr hbW.size) (ev_below HE.out (Nat.le_refl _))
          have HONE : Hid (HdR (wr.alloc (.cells #[.slice (some ⟨bR, oR + f, none⟩) k (cR - f)] 49)) u11.ownBlock [(R.drop f).take k] [.slice (some ⟨bR, oR + f, none⟩) k (cR - f)]) := Lib.hid (by
            have := HdR.one (w := wr.alloc (.cells #[.slice (some ⟨bR, oR + f, none⟩) k (cR - f)] 49)) (r := u11.ownBlock) (a := some ⟨bR, oR + f, none⟩) (c := cR - f) (l := (R.drop f).take k) (by rw [hlt]; exact hx2) (fun e => by cases e) (by omega) (by omega)
            rwa [hlt] at this)
          have HEW := Lib.hid (HE.out.new hbW)
          have HRL : Hid (Rd (wr.alloc (.cells #[.slice (some ⟨bR, oR + f, none⟩) k (cR - f)] 49)) (wr.alloc (.cells #[.slice (some ⟨bR, oR + f, none⟩) k (cR - f)] 49)).heap.size (some ⟨wr.heap.size, 0, none⟩) 1 [.slice (some ⟨bR, oR + f, none⟩) k (cR - f)]) := Lib.hid (rd_lit wr #[.slice (some ⟨bR, oR + f, none⟩) k (cR - f)] 49 wr.heap.size 1 rfl rfl)
          have hX2 : D ≤ (wr.alloc (.cells #[.slice (some ⟨bR, oR + f, none⟩) k (cR - f)] 49)).heap.size := Nat.le_trans hDr hbW.size
          have h10 : (denR j H f k r).length + [(R.drop f).take k].length ≤ 1000000 := by rw [denR_len, List.length_singleton]; omega
          have HBW := Lib.hid hBW
          have hfc : f < cR := by omega
          have hftI : (f : Int) ≤ (t : Int) := by omega
          have htc : (t : Int) ≤ (cR : Int) := by omega
          have hcf : cR ≠ f := by omega
          have htf : t - f = k := by have := HT.out; omega
          clear hx2 hrc hlt hbW hBW
          go_wp2_with (at_builtin; refine wp_appHd (C := D) (v := u11) (M := denR j H f k r) (N := [(R.drop f).take k]) rfl _ _ rfl HEW.out hX2 h10 rfl rfl (fun e => (by cases e)) HRL.out HONE.out ?_)
          intro v' w6 hE6 hb6 hg6 hat6
          rw [← HST.out] at hE6
          have HE6 := Lib.hid hE6
          have HB6 := Lib.hid (HBW.out.trans hb6)
          clear hE6 hb6 hg6 hat6 HEW HONE HRL HBW HST HE HB c0 c1 c2 hcell
          go_wp2_with fail
          go_roundw
          case rel => first | exact ⟨r + 1, by omega, by go_num, HE6, HB6⟩ | ((repeat apply Exists.intro); exact ⟨⟨r + 1, by omega, by go_num, HE6, HB6⟩, rfl⟩)
          case measure => simp [intOf]; omega
    · obtain rfl : r = H := by omega
      obtain ⟨av, cv, rfl⟩ := HE.out.val
      rw [denR_len] at HE ⊢
      have hkk : ((k : Int) == (k : Int)) = true := by simp
      go_wp2_with fail
      refine (gf_new _).mono ?_
      rintro e w5 ⟨gf, rfl, hgf, hfl, hb5⟩
      have CK := Lib.hid (mat_Rank (some ⟨gf, 0, none⟩) k r cv _ av w5 (Fp.of hfl) (HE.out.new hb5).rdM.1 HWF.out (by omega) (by omega))
      rw [HRK.out] at CK
      have hGw : G ≤ wo.heap.size := by have h1 := HB.out.size; have h2 := HD.out; omega
      have HB5 : Hid (Below G w w5) := Lib.hid ((HB0.out.trans (HB.out.mono hGD)).trans (hb5.mono hGw))
      have hG5 : G ≤ w5.heap.size := Nat.le_trans hGw hb5.size
      clear hgf hfl hb5
      go_wp2_with fail
      refine CK.out.mono ?_
      rintro e w6 ⟨rfl, hb6⟩
      have HB6 := Lib.hid (HB5.out.trans (hb6.mono hG5))
      have hG6 : G ≤ w6.heap.size := Nat.le_trans hG5 hb6.size
      clear hb6
      go_wp2_with fail
      refine (CW.out _).mono ?_
      rintro e w7 ⟨rfl, hb7⟩
      have HB7 := Lib.hid (HB6.out.trans (hb7.mono hG6))
      clear hb7
      go_wp2_with fail
      go_ret
      exact ⟨rfl, by rw [HG.out]; exact HB7.out⟩
end Go.Proofs.Ytfbhbjhfebkpfaa
