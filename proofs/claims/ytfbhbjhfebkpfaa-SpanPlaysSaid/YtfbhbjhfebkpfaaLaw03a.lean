/- The walk of wellspringlaw03.MatReduced. -/
import Derived.Test.YtfbhbjhfebkpfaaEven
namespace Go.Proofs.Ytfbhbjhfebkpfaa
open Go.RowKit
set_option linter.unusedVariables false

theorem rd_lit (w : World) (cs : Array Value) (t : TypeId) (g n : Nat) (hg : g = w.heap.size) (hn : n = cs.size) : Rd (w.alloc (.cells cs t)) (w.alloc (.cells cs t)).heap.size (some ⟨g, 0, none⟩) n cs.toList := by
  subst hg hn
  exact ⟨by simp, fun _ => ⟨w.heap.size, 0, rfl, by simp, fun i u hu => by
    rw [Nat.zero_add, cell_lit]
    simpa using hu⟩⟩

set_option maxRecDepth 100000 in
set_option maxHeartbeats 2000000 in
theorem wakes03 (w : World) :
    Calls Try.prog 66 #[] w fun e w' => e = .returned (.bool true) ∧ Below w.heap.size w w' := by
  go_enter Try.func66, Try.ntmps66
  go_wp2_with fail
  refine (gf_new _).mono ?_
  rintro e w1 ⟨g, rfl, hg, hF, hb⟩
  have HS : Hid (Sx w w1 [eFp (some ⟨g, 0, none⟩)]) := Lib.hid (((Sx.nil w).step hb).add (eFp _) (.inr ⟨g, rfl, hF⟩))
  clear hg hF hb
  go_wp2_with fail
  have s1 := (((HS.out.alloc (.cells #[.int .u8 1, .int .u8 1] 5)).add _ (lit_rd w1 [1, 1] _ rfl 2 rfl _ rfl)).alloc (.cells #[.int .u8 1, .int .u8 1] 5)).add _ (lit_rd _ [1, 1] (w1.heap.size + 1) (by simp) 2 rfl _ rfl)
  have s2 := s1.alloc (.cells #[.slice (some ⟨w1.heap.size, 0, none⟩) 2 2, .slice (some ⟨w1.heap.size + 1, 0, none⟩) 2 2] 49)
  have hh := rd_lit ((w1.alloc (.cells #[.int .u8 1, .int .u8 1] 5)).alloc (.cells #[.int .u8 1, .int .u8 1] 5)) #[.slice (some ⟨w1.heap.size, 0, none⟩) 2 2, .slice (some ⟨w1.heap.size + 1, 0, none⟩) 2 2] 49 (w1.heap.size + 1 + 1) 2 (by simp) rfl
  have r1 := s2.rd 1 rfl
  have r0 := s2.rd 0 rfl
  have hf := s2.fp 2 rfl
  generalize ((w1.alloc (.cells #[.int .u8 1, .int .u8 1] 5)).alloc (.cells #[.int .u8 1, .int .u8 1] 5)).alloc (.cells #[.slice (some ⟨w1.heap.size, 0, none⟩) 2 2, .slice (some ⟨w1.heap.size + 1, 0, none⟩) 2 2] 49) = w4 at *
  have hM : RdM w4 w4.heap.size (some ⟨w1.heap.size + 1 + 1, 0, none⟩) 2 [[1, 1], [1, 1]] := ⟨rfl, _, hh, fun i l hl => by
    match i, hl with
    | 0, hl =>
      obtain rfl : [1, 1] = l := by simpa using hl
      exact ⟨_, 2, rfl, r1, fun e => (by cases e), Nat.le_refl _, by decide⟩
    | 1, hl =>
      obtain rfl : [1, 1] = l := by simpa using hl
      exact ⟨_, 2, rfl, r0, fun e => (by cases e), Nat.le_refl _, by decide⟩
    | i + 2, hl => simp at hl⟩
  have hW : Wf 2 [[1, 1], [1, 1]] := by unfold Wf; decide
  have hr : (rref [[1, 1], [1, 1]]).length = 1 := by decide +kernel
  have CR := Lib.hid (mat_Rank (some ⟨g, 0, none⟩) 2 2 2 [[1, 1], [1, 1]] _ w4 hf hM hW (by omega) (by omega))
  rw [hr] at CR
  have HB := Lib.hid s2.1
  clear s1 s2 hh r1 r0 hf hM hW hr HS
  refine CR.out.mono ?_
  rintro e w5 ⟨rfl, hb5⟩
  have HB5 := Lib.hid (HB.out.trans (hb5.mono HB.out.size))
  clear hb5 HB CR
  have CM := Lib.hid (mat_may 0 0 [] 0 none 0 w5 (RdM.nil _ _ _) (by unfold Wf; simp) (by omega) (by omega))
  go_wp2_with fail
  refine CM.out.mono ?_
  rintro e w6 ⟨rfl, rfl⟩
  go_wp2_with fail
  go_ret
  exact ⟨rfl, HB5.out⟩

theorem Red.rows {n : Nat} {R : List (List Nat)} {ls : List Nat} (h : Red n R ls) : R.length = ls.length := by have := h.red.len; rwa [List.length_map] at this
theorem ls_some {ls : List Nat} {i : Nat} (h : i < ls.length) : ls[i]? = some (ls.getD i 0) := by rw [List.getD_eq_getElem?_getD, List.getElem?_eq_getElem h]; rfl
theorem Red.at {n : Nat} {R : List (List Nat)} {ls : List Nat} (h : Red n R ls) {i : Nat} (hi : i < R.length) :
    leadI (R.getD i []) = ((ls.getD i 0 : Nat) : Int) ∧ ls.getD i 0 < n ∧ (R.getD i []).getD (ls.getD i 0) 0 = 1 := by
  have hl := ls_some (ls := ls) (i := i) (by rw [← h.rows]; exact hi)
  obtain ⟨h1, h2, h3⟩ := h.lead (getD_some hi) hl
  refine ⟨?_, h.lt _ (List.mem_of_getElem? hl), h3⟩
  unfold leadI
  rw [h1, if_pos h2]
theorem Red.off {n : Nat} {R : List (List Nat)} {ls : List Nat} (h : Red n R ls) {i j : Nat} (hi : i < R.length) (hj : j < R.length) (hne : j ≠ i) : (R.getD j []).getD (ls.getD i 0) 0 = 0 := by
  have hl := ls_some (ls := ls) (i := i) (by rw [← h.rows]; exact hi)
  exact h.red.zero i j (vO (R.getD j [])) _ (by rw [List.getElem?_map, getD_some hj]; rfl) hl hne
theorem Red.up {n : Nat} {R : List (List Nat)} {ls : List Nat} (h : Red n R ls) {i : Nat} (hi : i + 1 < R.length) : ls.getD i 0 < ls.getD (i + 1) 0 := by
  have h1 : i + 1 < ls.length := by rw [← h.rows]; exact hi
  have := List.pairwise_iff_getElem.1 h.red.up i (i + 1) (by omega) h1 (by omega)
  rw [List.getD_eq_getElem?_getD, List.getElem?_eq_getElem (by omega), List.getD_eq_getElem?_getD, List.getElem?_eq_getElem h1]
  exact this
theorem spn_app {n : Nat} {A B : List (List Nat)} (hA : Wf n A) (hB : Wf n B) (h : ∀ v, Spn (B.map vO) v → Spn (A.map vO) v) : SpEq (A ++ B) A := by
  intro v
  constructor
  · intro hv
    refine hv.trans hA.vb fun r hr => ?_
    rw [List.map_append] at hr
    rcases List.mem_append.1 hr with hr | hr
    · exact Spn.mem hA.vb hr
    · exact h r (Spn.mem hB.vb hr)
  · exact fun hv => hv.sub fun r hr => by rw [List.map_append]; exact List.mem_append_left _ hr
theorem wf_app {n : Nat} {A B : List (List Nat)} (hA : Wf n A) (hB : Wf n B) : Wf n (A ++ B) := fun r hr => by
  rcases List.mem_append.1 hr with hr | hr
  · exact hA r hr
  · exact hB r hr
theorem sp_turn (A : List (List Nat)) (k : Nat) : SpEq (A.drop k ++ A.take k) A := by
  intro v
  have e : ∀ r, r ∈ A.drop k ++ A.take k ↔ r ∈ A := fun r => by
    rw [List.mem_append, Or.comm, ← List.mem_append, List.take_append_drop]
  constructor
  · exact fun hv => hv.sub fun r hr => by
      obtain ⟨x, hx, rfl⟩ := List.mem_map.1 hr
      exact List.mem_map_of_mem ((e x).1 hx)
  · exact fun hv => hv.sub fun r hr => by
      obtain ⟨x, hx, rfl⟩ := List.mem_map.1 hr
      exact List.mem_map_of_mem ((e x).2 hx)
/-- Where the row ahead begins. -/
def lastI (ls : List Nat) : Nat → Int | 0 => -1 | i + 1 => ((ls.getD i 0 : Nat) : Int)

set_option maxRecDepth 100000 in
set_option maxHeartbeats 8000000 in
theorem matReduced_walk (w : World) (a : Option Addr) (len cap : Nat) (zs : List Int) (hr : Rd w w.heap.size a len (zs.map (Value.int .u8))) (hc : len ≤ cap ∧ cap ≤ maxLen ∧ (a = none → cap = 0)) (hz : ∀ z ∈ zs, (Lit.int .u8 z).wf = true) (n0 : Int) (hn0 : -9223372036854775808 ≤ n0 ∧ n0 ≤ 9223372036854775807) (t0 : Int) (ht0 : -9223372036854775808 ≤ t0 ∧ t0 ≤ 9223372036854775807) :
    Calls Try.prog 14 #[.slice a len cap, .int .i64 n0, .int .i64 t0] w fun e w' => e = .returned (.bool true) ∧ Below w.heap.size w w' := by
  obtain ⟨xs, hxs, hby⟩ := bytes_of hz
  rw [hxs] at hr
  obtain ⟨hc1, hc2, hc3⟩ := hc
  have CW := Lib.hid (keep_within n0 12 w hn0 (by omega) (by omega))
  have CC := Lib.hid fun w => keep_cut a len cap 140 w hc1 hc2 (by decide) hc3
  have hq1 : 0 ≤ n0 % 12 := Int.emod_nonneg _ (by omega)
  have hq2 : n0 % 12 < 12 := Int.emod_lt_of_pos _ (by omega)
  generalize n0 % 12 = q at *
  obtain ⟨n1, rfl⟩ := Int.eq_ofNat_of_zero_le hq1
  obtain ⟨n, hn⟩ : ∃ n, n = 1 + n1 := ⟨_, rfl⟩
  have hnI : (1 : Int) + (n1 : Int) = (n : Int) := by omega
  have hn1 : 1 ≤ n := by omega
  have hn2 : n ≤ 12 := by omega
  have HR := Lib.hid (rd_cut0 hr (n := Nat.min len 140) (Nat.min_le_left _ _))
  have hm1 : Nat.min len 140 ≤ cap := Nat.le_trans (Nat.min_le_left _ _) hc1
  have hby2 : By (xs.take (Nat.min len 140)) := fun x hx => hby x (List.mem_of_mem_take hx)
  generalize Nat.min len 140 = N at *
  generalize xs.take N = ys at *
  have CE := Lib.hid (law_even n ys _ a N cap w HR.out (Nat.le_refl _) ⟨hm1, hc2, hc3⟩ hn1 (by omega))
  have HAW := Lib.hid (evenL_wf (n := n) 14 ys hby2)
  have HAL := Lib.hid (evenL_len (n := n) 14 ys)
  generalize evenL n 14 ys = A at *
  have HN := Lib.hid hn
  clear hr hc1 hc2 hc3 hq1 hq2 hn HR hm1 hby hby2 hxs hz
  go_enter Try.func14, Try.ntmps14
  go_wp2_with fail
  refine CW.out.mono ?_
  rintro e w1 ⟨rfl, rfl⟩
  go_wp2_with fail
  refine (CC.out _).mono ?_
  rintro e w1 ⟨rfl, rfl⟩
  go_wp2_with fail
  refine CE.out.mono ?_
  rintro e w1 ⟨v, rfl, hE, hb⟩
  have hbd : A.length ≤ 14 := HAL.out
  obtain ⟨L, hL⟩ : ∃ L, A.length = L := ⟨_, rfl⟩
  obtain ⟨aA, cA, rfl, hA, hnA, hcA, hmA⟩ := hE.rdM2 hL
  have S1 := Lib.hid (((Sx.nil w).step hb).add (eRdM aA L A) hA)
  clear hE hb hA CW CC CE
  go_wp2_with fail
  refine (gf_new _).mono ?_
  rintro e w2 ⟨g, rfl, hg, hF, hb⟩
  have S2 := Lib.hid ((S1.out.step hb).add (eFp (some ⟨g, 0, none⟩)) (.inr ⟨g, rfl, hF⟩))
  clear hb hF hg S1
  go_wp2_with fail
  refine (mat_Reduce (some ⟨g, 0, none⟩) n L cA A aA w2 (S2.out.fp 0 rfl) (S2.out.rdM 1 rfl) HAW.out (by omega) (by omega)).mono ?_
  rintro e w3 ⟨v, rfl, hM, hb⟩
  obtain ⟨ls, hR, hSp⟩ := rref_spec HAW.out
  obtain ⟨hl1, hl2⟩ := rref_len HAW.out
  obtain ⟨K, hK⟩ : ∃ K, (rref A).length = K := ⟨_, rfl⟩
  obtain ⟨aM, cM, rfl, hM2, hnM, hcM, hmM⟩ := hM.rdM2 hK
  have S3 := Lib.hid ((S2.out.step hb).add (eRdM aM K (rref A)) hM2)
  have HRed := Lib.hid hR
  have HSp := Lib.hid hSp
  have HL := Lib.hid hL
  have HK := Lib.hid hK
  have hKn : K ≤ n := by omega
  have hKL : K ≤ L := by omega
  have hL14 : L ≤ 14 := by omega
  clear hM hb hM2 S2 hR hSp hl1 hl2 hL hK hbd
  have hwR := HRed.out.wf
  have h1 : rref (A ++ rref A) = rref A := rref_eq (wf_app HAW.out hwR) HAW.out (spn_app HAW.out hwR fun v hv => (HSp.out v).2 hv)
  have h2 : rref (rref A) = rref A := rref_id HRed.out
  have h3 : ∀ k, rref (A.drop k ++ A.take k) = rref A := fun k => rref_eq (wf_app (fun r hr => HAW.out r (List.mem_of_mem_drop hr)) (fun r hr => HAW.out r (List.mem_of_mem_take hr))) HAW.out (sp_turn A k)
  have HWR := Lib.hid hwR
  have H1 := Lib.hid h1
  have H2 := Lib.hid h2
  have H3 := Lib.hid h3
  clear hwR h1 h2 h3 HSp
  generalize hRA : rref A = R at *
  have HRA := Lib.hid hRA
  clear hRA
  go_wp2_with fail
  go_loopw [11, 31] (fun _ i wr => ∃ k : Nat, k ≤ K ∧ i = .int .i64 k ∧ w3 = wr) (fun _ i _ => K - (intOf i).toNat)
  case atStart => exact ⟨0, by omega, rfl, rfl⟩
  case round =>
    obtain ⟨k, hk, rfl, rfl⟩ := hrel
    by_cases hlt : k < K
    · obtain ⟨b, o, a', c', rfl, hb, hcell, _⟩ := (S3.out.rdM 0 rfl).at hlt
      rw [(HWR.out.get (i := k) (by rw [HK.out]; exact hlt)).1] at hcell
      have hlt' : (k : Int) < (K : Int) := by omega
      have hnn : ((n : Int) != (n : Int)) = false := by simp
      go_wp2_with fail
      go_roundw
      case rel => exact ⟨k + 1, by omega, by go_num, by first | trivial | rfl⟩
      case measure => simp [intOf]; omega
    · obtain rfl : k = K := by omega
      go_wp2_with fail
      go_loopw [10, 12, 13, 14, 44] (fun l _ _ _ i wr => ∃ i' : Nat, i' ≤ k ∧ i = .int .i64 i' ∧ l = .int .i64 (lastI ls i') ∧ Hid (∃ j, wr = w3.drewN j)) (fun _ _ _ _ i _ => k - (intOf i).toNat)
      case atStart => exact ⟨0, by omega, rfl, rfl, Lib.hid ⟨0, rfl⟩⟩
      case round =>
        obtain ⟨i, hi, rfl, rfl, HJ⟩ := hrel
        obtain ⟨j, hj⟩ := HJ.out
        clear HJ
        by_cases hik : i < k
        · have hikI : (i : Int) < (k : Int) := by omega
          obtain ⟨b, o, a', c', rfl, hb, hcell, hrd, _⟩ := (S3.out.rdM 0 rfl).at hik
          have hgr := HWR.out.get (i := i) (by rw [HK.out]; exact hik)
          rw [hgr.1] at hcell hrd
          obtain ⟨hl1, hl2, hl3⟩ := HRed.out.at (i := i) (by rw [HK.out]; exact hik)
          have CL := Lib.hid (row_lead (R.getD i []) w3.heap.size a' n c' wr (by rw [hj]; exact hrd) hgr.2 (by unfold maxLen; omega))
          rw [hl1] at CL
          have hlast : lastI ls i < ((ls.getD i 0 : Nat) : Int) := by
            cases i with
            | zero => show (-1 : Int) < _; omega
            | succ i => have := HRed.out.up (i := i) (by rw [HK.out]; exact hik); show ((ls.getD i 0 : Nat) : Int) < _; omega
          have hle : ¬ (((ls.getD i 0 : Nat) : Int) ≤ lastI ls i) := by omega
          have HLL : Hid (((ls.getD i 0 : Nat) : Int) = lastI ls (i + 1)) := Lib.hid rfl
          have HOFF : Hid (∀ j, j < k → j ≠ i → (R.getD j []).getD (ls.getD i 0) 0 = 0) := Lib.hid fun j hj hne => HRed.out.off (by rw [HK.out]; exact hik) (by rw [HK.out]; exact hj) hne
          obtain ⟨bx, ox, rfl, hbx, hcc⟩ := hrd.atB (k := ls.getD i 0) hl2
          have cx := hcc _ hl2
          rw [hl3] at cx
          clear hl1 hl3 hcc hgr hlast
          generalize ls.getD i 0 = l at *
          generalize lastI ls i = la at *
          have k1 : wr.cell? ⟨b, o + i, none⟩ = some (.slice (some ⟨bx, ox, none⟩) n c') := by rw [hj]; exact hcell
          have k2 : wr.cell? ⟨bx, ox + l, none⟩ = some (.int .u8 1) := by rw [hj]; exact cx
          clear hcell cx
          have HJ := Lib.hid hj
          clear hj
          have hl2I : (l : Int) < (n : Int) := by omega
          have hd : decide ((l : Int) ≤ la) = false := by simpa using hle
          go_wp2_with fail
          refine CL.out.mono ?_
          rintro e w4 ⟨rfl, j2, rfl⟩
          go_wp2_with fail
          go_loopw [14, 67] (fun _ i wq => ∃ r : Nat, r ≤ k ∧ i = .int .i64 r ∧ Hid (∃ j, wq = w3.drewN j)) (fun _ i _ => k - (intOf i).toNat)
          case atStart => exact ⟨0, by omega, rfl, Lib.hid ⟨j + j2, by rw [HJ.out, World.drewN_drewN]⟩⟩
          case round =>
            obtain ⟨r, hr, rfl, HJ2⟩ := hrel
            obtain ⟨j3, hj3⟩ := HJ2.out
            clear HJ2
            by_cases hrk : r < k
            · have hrkI : (r : Int) < (k : Int) := by omega
              by_cases hri : r = i
              · have hne : ((r : Int) != (i : Int)) = false := by simp [hri]
                have HJ3 := Lib.hid hj3
                clear hj3
                go_wp2_with fail
                go_roundw
                case rel => exact ⟨r + 1, by omega, by go_num, Lib.hid ⟨j3, HJ3.out⟩⟩
                case measure => simp [intOf]; omega
              · have hne : ((r : Int) != (i : Int)) = true := by simp; omega
                obtain ⟨b2, o2, a2, c2, e2, hb2, hcell2, hrd2, _⟩ := (S3.out.rdM 0 rfl).at hrk
                injection e2 with e2
                injection e2 with e2 e3 e4
                subst e2 e3
                have hgr := HWR.out.get (i := r) (by rw [HK.out]; exact hrk)
                rw [hgr.1] at hcell2 hrd2
                obtain ⟨b3, o3, rfl, hb3, hcc⟩ := hrd2.atB (k := l) hl2
                have cx := hcc _ hl2
                rw [HOFF.out r hrk hri] at cx
                have k1 : wr.cell? ⟨b, o + r, none⟩ = some (.slice (some ⟨b3, o3, none⟩) n c2) := by rw [hj3]; exact hcell2
                have k2 : wr.cell? ⟨b3, o3 + l, none⟩ = some (.int .u8 0) := by rw [hj3]; exact cx
                have HJ3 := Lib.hid hj3
                clear hj3 hcell2 cx hcc hrd2 hgr
                go_wp2_with fail
                go_roundw
                case rel => exact ⟨r + 1, by omega, by go_num, Lib.hid ⟨j3, HJ3.out⟩⟩
                case measure => simp [intOf]; omega
            · obtain rfl : r = k := by omega
              have HJ3 := Lib.hid hj3
              clear hj3
              go_wp2_with fail
              go_roundw
              case rel => exact ⟨i + 1, by omega, by go_num, by rw [← HLL.out], Lib.hid ⟨j3, HJ3.out⟩⟩
              case measure => simp [intOf]; omega
        · obtain rfl : i = k := by omega
          have S4 := Lib.hid (S3.out.drewN j)
          rw [← hj] at S4
          clear hj S3
          have hlA : ([] : List (List Nat)).length + A.length ≤ 1000000 := by rw [HL.out]; simp; omega
          have hlB : A.length + R.length ≤ 1000000 := by rw [HL.out, HK.out]; omega
          obtain ⟨usA, hUA, hHA⟩ := (S4.out.rdM 2 rfl).hdr (Nat.le_refl _) (r := (Value.slice none 0 0).ownBlock) (fun g e => by cases e)
          have HUA := Lib.hid hUA
          have HHA := Lib.hid hHA
          have HnA := Lib.hid hnA
          have HnM := Lib.hid hnM
          clear hUA hHA hnA hnM
          go_wp2_with (at_builtin; refine wp_appHd (C := wr.heap.size) (v := .slice none 0 0) (M := []) (N := A) rfl _ _ rfl (Ev.nil _ _) (Nat.le_refl _) hlA rfl rfl HnA.out HUA.out HHA.out ?_)
          intro v5 w5 hE5 hb5 hg5 hat5
          obtain ⟨usR, hUR, hHR⟩ := ((S4.out.rdM 0 rfl).below hb5 (Nat.le_refl _)).hdr (by exact hb5.size) (r := v5.ownBlock) (ev_below hE5 (Nat.le_refl _))
          have HUR := Lib.hid hUR
          have HHR := Lib.hid hHR
          have HE5 := Lib.hid hE5
          have HB5 := Lib.hid hb5
          have h5s := hb5.size
          clear hUR hHR hE5 hb5 hg5 hat5 HUA HHA
          go_wp2_with (at_builtin; refine wp_appHd (C := wr.heap.size) (v := v5) (M := A) (N := R) rfl _ _ rfl HE5.out h5s hlB rfl rfl HnM.out HUR.out HHR.out ?_)
          intro v6 w6 hE6 hb6 hg6 hat6
          obtain ⟨aB, cB, rfl, hB6, hnB, hcB, hmB⟩ := hE6.rdM2 (n := L + i) (by rw [List.length_append, HL.out, HK.out])
          have S6 := Lib.hid ((S4.out.step (HB5.out.trans hb6)).add _ hB6)
          clear hE6 hb6 hg6 hat6 HE5 HB5 HUR HHR S4 hB6
          have hL1 : (0 : Int) < (L : Int) + 1 := by omega
          have CW := Lib.hid (keep_within t0 ((L : Int) + 1) w6 ht0 hL1 (by omega))
          have hq1 : 0 ≤ t0 % ((L : Int) + 1) := Int.emod_nonneg _ (by omega)
          have hq2 : t0 % ((L : Int) + 1) < (L : Int) + 1 := Int.emod_lt_of_pos _ hL1
          generalize t0 % ((L : Int) + 1) = q at *
          obtain ⟨k, rfl⟩ := Int.eq_ofNat_of_zero_le hq1
          have hkL : k ≤ L := by omega
          clear hq1 hq2 hL1
          go_wp2_with fail
          refine CW.out.mono ?_
          rintro e w7 ⟨rfl, rfl⟩
          have hkc : k ≤ cA := by omega
          have hlD : ([] : List (List Nat)).length + (A.drop k).length ≤ 1000000 := by rw [List.length_drop, HL.out]; simp; omega
          have hlT : (A.drop k).length + (A.take k).length ≤ 1000000 := by rw [List.length_drop, List.length_take, HL.out]; omega
          obtain ⟨usD, hUD, hHD⟩ := ((S6.out.rdM 3 rfl).drop hcA hkL).hdr (Nat.le_refl _) (r := (Value.slice none 0 0).ownBlock) (fun g e => by cases e)
          have HUD : Hid (Rd w6.drew w6.heap.size (if cA = k then aA else Option.map (fun x => x.add k) aA) (L - k) usD) := Lib.hid hUD
          have HHD : Hid (HdR w6.drew (Value.slice none 0 0).ownBlock (A.drop k) usD) := Lib.hid hHD
          have HT6 : Hid (RdM w6.drew w6.heap.size aA k (A.take k)) := Lib.hid ((S6.out.rdM 3 rfl).take hkL)
          have HnD := Lib.hid (nil_drop (k := k) HnA.out)
          clear hUD hHD CW
          go_wp2_with fail
          go_region_held3 (fun _ => True) (trivial) (first
            | (refine step_appHd (w := w7) (C := w6.heap.size) (v := v7) (M := A.drop k) (N := A.take k) rfl _ _ rfl hE7 hb7.size hlT rfl rfl HnA.out hUT hHT ?_
               intro v8 w8 hE8 hb8 hg8 hat8)
            | (refine step_appHd (w := w6.drew) (C := w6.heap.size) (v := .slice none 0 0) (M := []) (N := A.drop k) rfl _ _ rfl (Ev.nil _ _) (Nat.le_refl _) hlD rfl rfl HnD.out HUD.out HHD.out ?_
               intro v7 w7 hE7 hb7 hg7 hat7
               obtain ⟨usT, hUT, hHT⟩ := (HT6.out.below hb7 (Nat.le_refl _)).hdr (by exact hb7.size) (r := v7.ownBlock) (ev_below hE7 (Nat.le_refl _))))
          obtain ⟨aO, cO, rfl, hO8, hnO, hcO, hmO⟩ := hE8.rdM2 (n := L) (by rw [List.length_append, List.length_drop, List.length_take, HL.out]; omega)
          have hb68 : Below w6.heap.size w6 w8 := (((Below.refl w6.heap.size w6).drew).trans hb7).trans hb8
          have S8 := Lib.hid ((S6.out.step hb68).add _ hO8)
          have HWO : Hid (Wf n (A.drop k ++ A.take k)) := Lib.hid (wf_app (fun r hr => HAW.out r (List.mem_of_mem_drop hr)) (fun r hr => HAW.out r (List.mem_of_mem_take hr)))
          have HWB : Hid (Wf n (A ++ R)) := Lib.hid (wf_app HAW.out HWR.out)
          have HRO := Lib.hid (H3.out k)
          clear hE7 hb7 hg7 hat7 hUT hHT hE8 hb8 hg8 hat8 hb68 S6 HUD HHD HT6 HnD hO8 H3
          generalize A.drop k ++ A.take k = O at *
          generalize hAB : A ++ R = AB at *
          have HAB := Lib.hid hAB
          clear hAB
          generalize (if cA = k then aA else Option.map (fun x => x.add k) aA) = aD at *
          -- [O, AB, R, f, A]
          have hkk : ((i : Int) == (i : Int)) = true := by simp
          obtain ⟨mn, hmn⟩ : ∃ mn, mn = if n < L then n else L := ⟨_, rfl⟩
          have hmnI : (if n < L then (n : Int) else (L : Int)) = (mn : Int) := by rw [hmn]; split <;> rfl
          have hmin : i ≤ mn := by rw [hmn]; split <;> omega
          have hminI : (i : Int) ≤ (mn : Int) := by omega
          clear hmn
          go_wp2_with fail
          refine (mat_Rank (some ⟨g, 0, none⟩) n L cA A aA w8 (S8.out.fp 3 rfl) (S8.out.rdM 4 rfl) HAW.out (by omega) (by omega)).mono ?_
          rintro e w9 ⟨rfl, hb9⟩
          rw [HRA.out, HK.out]
          have S9 := Lib.hid (S8.out.step hb9)
          clear hb9 S8
          go_wp2_with fail
          refine (mat_Rank (some ⟨g, 0, none⟩) n (L + i) cB AB aB w9 (S9.out.fp 3 rfl) (S9.out.rdM 1 rfl) HWB.out (by omega) (by omega)).mono ?_
          rintro e w10 ⟨rfl, hb10⟩
          rw [H1.out, HK.out]
          have S10 := Lib.hid (S9.out.step hb10)
          clear hb10 S9
          go_wp2_with fail
          refine (mat_Reduce (some ⟨g, 0, none⟩) n i cM R aM w10 (S10.out.fp 3 rfl) (S10.out.rdM 2 rfl) HWR.out (by omega) (by omega)).mono ?_
          rintro e w11 ⟨v, rfl, hM, hb11⟩
          rw [H2.out] at hM
          obtain ⟨aN, cN, rfl, hMN, -, -, -⟩ := hM.rdM2 HK.out
          have S11 := Lib.hid ((S10.out.step hb11).add _ hMN)
          clear hM hMN hb11 S10
          have hRl : ∀ l ∈ R, l.length ≤ 1000000 := fun l hl => by have := (HWR.out l hl).1; omega
          have HRl := Lib.hid hRl
          clear hRl
          go_wp2_with fail
          refine (keep_rows R aN aM i cN cM w11 (S11.out.rdM 0 rfl) (S11.out.rdM 3 rfl) (by omega) HRl.out).mono ?_
          rintro e w12 ⟨rfl, j5, rfl⟩
          have S12 := Lib.hid (S11.out.drewN j5)
          clear S11
          generalize w11.drewN j5 = w12 at *
          go_wp2_with fail
          refine (mat_Reduce (some ⟨g, 0, none⟩) n L cO O aO w12 (S12.out.fp 4 rfl) (S12.out.rdM 1 rfl) HWO.out (by omega) (by omega)).mono ?_
          rintro e w13 ⟨v, rfl, hM, hb13⟩
          rw [HRO.out] at hM
          obtain ⟨aP, cP, rfl, hMP, -, -, -⟩ := hM.rdM2 HK.out
          have S13 := Lib.hid ((S12.out.step hb13).add _ hMP)
          clear hM hMP hb13 S12
          go_wp2_with fail
          refine (keep_rows R aP aM i cP cM w13 (S13.out.rdM 0 rfl) (S13.out.rdM 4 rfl) (by omega) HRl.out).mono ?_
          rintro e w14 ⟨rfl, j6, rfl⟩
          have S14 := Lib.hid (S13.out.drewN j6)
          clear S13
          generalize w13.drewN j6 = w14 at *
          go_wp2_with fail
          refine (wakes03 w14).mono ?_
          rintro e w15 ⟨rfl, hb⟩
          have S15 := Lib.hid (S14.out.step hb)
          clear hb S14
          go_wp2_with fail
          go_ret
          exact ⟨rfl, S15.out.1⟩
end Go.Proofs.Ytfbhbjhfebkpfaa
