/- The document's Count: a row of Pascal's triangle, cut at the limit. -/
import Derived.Test.YtmaofhbnmkcimaaSetsE
import Derived.StillTailTactics
namespace Go.Proofs.Ytmaofhbnmkcimaa
open Go.RowKit
set_option linter.unusedVariables false

def crowP (t i k : Nat) : List Nat := (List.range (t + 1)).map fun j => if k < j then min (ch (i + 1) j) 4097 else min (ch i j) 4097
def crowL (t i : Nat) : List Nat := (List.range (t + 1)).map fun j => min (ch i j) 4097
theorem crowP_len (t i k : Nat) : (crowP t i k).length = t + 1 := by simp [crowP]
theorem crowL_len (t i : Nat) : (crowL t i).length = t + 1 := by simp [crowL]
theorem crowP_get {t i k j : Nat} (h : j ≤ t) : (crowP t i k).getD j 0 = if k < j then min (ch (i + 1) j) 4097 else min (ch i j) 4097 := by
  simp [crowP, List.getD_eq_getElem?_getD, List.getElem?_map, List.getElem?_range, Nat.lt_succ_of_le h]
theorem crowL_get {t i j : Nat} (h : j ≤ t) : (crowL t i).getD j 0 = min (ch i j) 4097 := by
  simp [crowL, List.getD_eq_getElem?_getD, List.getElem?_map, List.getElem?_range, Nat.lt_succ_of_le h]
theorem crow_full (t i : Nat) : crowP t i t = crowL t i := by
  unfold crowP crowL
  refine List.map_congr_left fun j hj => ?_
  rw [if_neg (by have := List.mem_range.1 hj; omega)]
theorem crow_done (t i : Nat) : crowP t i 0 = crowL t (i + 1) := by
  unfold crowP crowL
  refine List.map_congr_left fun j hj => ?_
  cases j with
  | zero => rw [if_neg (by omega), ch_zero, ch_zero]
  | succ j => rw [if_pos (by omega)]
theorem crow_step {t i k : Nat} (h : k + 1 ≤ t) : (crowP t i (k + 1)).set (k + 1) (min ((crowP t i (k + 1)).getD (k + 1) 0 + (crowP t i (k + 1)).getD k 0) 4097) = crowP t i k := by
  rw [crowP_get h, crowP_get (by omega), if_neg (by omega), if_neg (by omega)]
  refine List.ext_getElem (by simp [crowP_len]) fun j h1 h2 => ?_
  have hj : j < t + 1 := by rw [crowP_len] at h2; exact h2
  rw [List.getElem_set]
  have e : ∀ k, (crowP t i k)[j]'(by rw [crowP_len]; exact hj) = if k < j then min (ch (i + 1) j) 4097 else min (ch i j) 4097 := fun k => by simp [crowP]
  rw [e, e]
  by_cases hk : k + 1 = j
  · subst hk
    rw [if_pos rfl, if_pos (by omega)]
    have : ch (i + 1) (k + 1) = ch i k + ch i (k + 1) := rfl
    rw [this]
    omega
  · rw [if_neg hk]
    by_cases h3 : k + 1 < j
    · rw [if_pos h3, if_pos (by omega)]
    · rw [if_neg h3, if_neg (by omega)]
theorem crow_bd {t i k j : Nat} : (crowP t i k).getD j 0 ≤ 4097 := by
  rcases Nat.lt_or_ge j (t + 1) with h | h
  · rw [crowP_get (by omega)]; split <;> omega
  · rw [List.getD_eq_getElem?_getD, List.getElem?_eq_none (by rw [crowP_len]; exact h)]; simp
theorem crow_start (t : Nat) : (rowA (crowL t 0)).toList = (madeCells #[Value.int .i64 0] (t + 1)).toList.set 0 (.int .i64 1) := by
  refine List.ext_getElem (by simp [rowA, crowL_len, size_madeCells]) fun j h1 h2 => ?_
  have hj : j < t + 1 := by simpa [rowA, crowL_len] using h1
  have e1 : (rowA (crowL t 0)).toList[j] = .int .i64 ((min (ch 0 j) 4097 : Nat) : Int) := by simp [rowA, crowL]
  rw [e1, List.getElem_set]
  cases j with
  | zero => rw [if_pos rfl]; rfl
  | succ j => rw [if_neg (by omega)]; simp [madeCells, ch, Nat.mod_one]

set_option maxRecDepth 100000 in
set_option maxHeartbeats 4000000 in
theorem ref_count (n t : Int) (hn : -9223372036854775808 ≤ n ∧ n ≤ 9223372036854775807) (ht : -9223372036854775808 ≤ t ∧ t ≤ 9223372036854775807) (w : World) :
    Calls Try.prog 21 #[.int .i64 n, .int .i64 t] w fun e w' => e = .returned (.int .i64 (cntI n t : Nat)) ∧ Below w.heap.size w w' := by
  by_cases hin : 0 ≤ n ∧ n ≤ 64 ∧ 0 ≤ t ∧ t ≤ n
  · rw [cntI_in hin.1 hin.2.1 hin.2.2.1 hin.2.2.2]
    obtain ⟨N, rfl⟩ := Int.eq_ofNat_of_zero_le hin.1
    obtain ⟨T, rfl⟩ := Int.eq_ofNat_of_zero_le hin.2.2.1
    rw [Int.toNat_natCast, Int.toNat_natCast, cnt_ch (by omega) (by omega)]
    have hN : N ≤ 64 := by omega
    have hT : T ≤ N := by omega
    clear hn ht hin
    obtain ⟨M, hM⟩ : ∃ M, M = T + 1 := ⟨_, rfl⟩
    have hMi : (T : Int) + 1 = (M : Int) := by omega
    have HM := Lib.hid hM
    have hTM : T < M := by omega
    have hTM2 : M ≤ T + 1 := by omega
    clear hM
    obtain ⟨i0, hi, hz0, hz1, hz2⟩ := info_parts info_int
    go_enter Try.func21, Try.ntmps21
    go_wp2_with (at_make; refine wpList_make_full _ rfl _ _ 31 rfl w.heap.size 3 i0 (.int .i64 0) 1 Try.underlying31 hi hz0 hz1 _ _ _ _ M rfl rfl rfl rfl ?m1 ?m2 ?m3 ?_)
    case m1 => rw [hz2]; omega
    case m2 => unfold maxLen; omega
    case m3 => exact Nat.le_refl _
    intro w1 hown hg
    have hblk := blk_of_own hown
    have hb1 : Below w.heap.size w w1 := (Below.refl _ _).grown hg (Nat.le_refl _) (by simp)
    have hB : Blk w1 w.heap.size 3 (madeCells #[.int .i64 0] M) := by
      have e : (madeCells #[Value.int .i64 0] M).toList.toArray = madeCells #[Value.int .i64 0] M := by simp
      rw [← e]; exact hblk
    have hS : Hid (Blk (w1.setCell ⟨w.heap.size, 0, none⟩ (.int .i64 1)) w.heap.size 3 (rowA (crowP T 0 T))) := Lib.hid (by
      have := hB.set 0 (.int .i64 1)
      have e : (madeCells #[Value.int .i64 0] M).setIfInBounds 0 (.int .i64 1) = rowA (crowP T 0 T) := by
        rw [crow_full]
        apply Array.ext'
        rw [Array.toList_setIfInBounds, crow_start, HM.out]
      rwa [e] at this)
    have c0 : w1.cell? ⟨w.heap.size, 0, none⟩ = some (.int .i64 0) := by
      rw [hB.cell 0, Array.getElem?_eq_getElem (by rw [size_madeCells]; omega)]
      simp [madeCells]
    have f0 := hB.frozen 0
    have HB1 : Hid (Below w.heap.size w (w1.setCell ⟨w.heap.size, 0, none⟩ (.int .i64 1))) := Lib.hid (hb1.setCell (Nat.le_refl _) _)
    have hT1 : (0 : Int) < (M : Int) := by omega
    clear hown hg hblk hb1 hB hi hz0 hz1 hz2
    go_wp2_with fail
    generalize hG : w.heap.size = G at *
    have HG := Lib.hid hG
    clear hG c0 f0
    generalize w1.setCell ⟨G, 0, none⟩ (.int .i64 1) = w2 at *
    go_loopw [6, 7] (fun i _ wr => ∃ k : Nat, k ≤ N ∧ i = .int .i64 k ∧ Hid (Blk wr G 3 (rowA (crowL T k))) ∧ Hid (Below G w wr)) (fun i _ _ => N - (intOf i).toNat)
    case atStart => exact ⟨0, by omega, rfl, Lib.hid (by rw [← crow_full]; exact hS.out), HB1⟩
    case round =>
      clear hS HB1
      obtain ⟨k, hk, rfl, HS, HB⟩ := hrel
      by_cases hlt : k < N
      · rw [← crow_full] at HS
        go_wp2_with fail
        go_loopw [7] (fun j wr => ∃ y : Nat, y ≤ T ∧ j = .int .i64 y ∧ Hid (Blk wr G 3 (rowA (crowP T k y))) ∧ Hid (Below G w wr)) (fun j _ => (intOf j).toNat)
        case atStart => exact ⟨T, by omega, rfl, HS, HB⟩
        case round =>
          clear HS HB
          obtain ⟨y, hy, rfl, HS, HB⟩ := hrel
          by_cases hy0 : 0 < y
          · have hst := crow_step (t := T) (i := k) (k := y - 1) (by omega)
            rw [show y - 1 + 1 = y by omega] at hst
            have cy := (HS.out.cell y).trans (rowA_get _ y (by rw [crowP_len]; omega))
            have cz := (HS.out.cell (y - 1)).trans (rowA_get _ (y - 1) (by rw [crowP_len]; omega))
            have ba := crow_bd (t := T) (i := k) (k := y) (j := y)
            have bb := crow_bd (t := T) (i := k) (k := y) (j := y - 1)
            have hset := HS.out.set y (.int .i64 (min ((crowP T k y).getD y 0 + (crowP T k y).getD (y - 1) 0) 4097 : Nat))
            rw [rowA_set, hst] at hset
            have fy := HS.out.frozen y
            generalize (crowP T k y).getD y 0 = a at *
            generalize (crowP T k y).getD (y - 1) 0 = b at *
            have HST := Lib.hid hset
            clear hset hst HS
            have y1 : ((y : Int) - 1).toNat = y - 1 := by omega
            have y2 : 0 ≤ (y : Int) - 1 := by omega
            have y3 : (y : Int) - 1 < (M : Int) := by omega
            have y4 : (y : Int) < (M : Int) := by omega
            have y9 : (1 : Int) ≤ (y : Int) := by omega
            have w1' : IntKind.i64.wrap ((y : Int) - 1) = (y : Int) - 1 := by rw [IntKind.wrap_i64]; omega
            have w2' : IntKind.i64.wrap ((a : Int) + (b : Int)) = (a : Int) + (b : Int) := by rw [IntKind.wrap_i64]; omega
            have hmin : (a + b ≤ 4097 ∧ min (a + b) 4097 = a + b) ∨ (4097 < a + b ∧ min (a + b) 4097 = 4097) := by omega
            rcases hmin with ⟨hm, hme⟩ | ⟨hm, hme⟩
            · rw [hme] at HST
              have hm' : ¬ (4097 : Int) < (a : Int) + (b : Int) := by omega
              clear hm hme
              go_wp2_with fail
              go_still_tail 14, (by kernel_rfl)
              change wpList _ _ _ _ _ wr.drew
              have fy2 : wr.drew.frozen? ⟨G, y, none⟩ = false := fy
              have cy2 : wr.drew.cell? ⟨G, y, none⟩ = some (.int .i64 (a : Nat)) := cy
              have HST2 : Hid (Blk (wr.drew.setCell ⟨G, y, none⟩ (.int .i64 ((a : Int) + (b : Int)))) G 3 (rowA (crowP T k (y - 1)))) := Lib.hid HST.out
              have HB2 : Hid (Below G w (wr.drew.setCell ⟨G, y, none⟩ (.int .i64 ((a : Int) + (b : Int))))) := Lib.hid ((Below.drew HB.out).setCell (Nat.le_refl _) _)
              clear HST HB fy cy cz
              generalize wr.drew = w3 at *
              go_wp2_with fail
              go_roundw
              case rel => exact ⟨y - 1, by omega, by go_num, HST2, HB2⟩
              case measure => simp [intOf]; omega
            · rw [hme] at HST
              have hm' : (4097 : Int) < (a : Int) + (b : Int) := by omega
              clear hm hme
              go_wp2_with fail
              go_still_tail 14, (by kernel_rfl)
              change wpList _ _ _ _ _ wr.drew
              have fy2 : wr.drew.frozen? ⟨G, y, none⟩ = false := fy
              have cy2 : wr.drew.cell? ⟨G, y, none⟩ = some (.int .i64 (a : Nat)) := cy
              have HST2 : Hid (Blk (wr.drew.setCell ⟨G, y, none⟩ (.int .i64 4097)) G 3 (rowA (crowP T k (y - 1)))) := Lib.hid HST.out
              have HB2 : Hid (Below G w (wr.drew.setCell ⟨G, y, none⟩ (.int .i64 4097))) := Lib.hid ((Below.drew HB.out).setCell (Nat.le_refl _) _)
              clear HST HB fy cy cz
              generalize wr.drew = w3 at *
              go_wp2_with fail
              go_roundw
              case rel => exact ⟨y - 1, by omega, by go_num, HST2, HB2⟩
              case measure => simp [intOf]; omega
          · obtain rfl : y = 0 := by omega
            have HS2 : Hid (Blk wr G 3 (rowA (crowL T (k + 1)))) := Lib.hid (by rw [← crow_done]; exact HS.out)
            clear HS
            go_wp2_with fail
            go_roundw
            case rel => exact ⟨k + 1, by omega, by go_num, HS2, HB⟩
            case measure => simp [intOf]; omega
      · obtain rfl : k = N := by omega
        have cT := (HS.out.cell T).trans (rowA_get _ T (by rw [crowL_len]; omega))
        rw [crowL_get (Nat.le_refl _)] at cT
        obtain ⟨r, hr⟩ : ∃ r, r = min (ch k T) 4097 := ⟨_, rfl⟩
        rw [← hr] at cT
        have HR := Lib.hid hr
        clear hr
        have hTT : (T : Int) < (M : Int) := by omega
        go_wp2_with fail
        go_ret
        exact ⟨ret_i64 HR.out, by rw [HG.out]; exact HB.out⟩
  · rw [cntI_out (by omega)]
    by_cases a1 : n < 0
    · go_enter Try.func21, Try.ntmps21
      go_wp2_with fail
      go_ret
      exact ⟨rfl, Below.refl _ _⟩
    · by_cases a2 : 64 < n
      · go_enter Try.func21, Try.ntmps21
        go_wp2_with fail
        go_ret
        exact ⟨rfl, Below.refl _ _⟩
      · by_cases a3 : t < 0
        · go_enter Try.func21, Try.ntmps21
          go_wp2_with fail
          go_ret
          exact ⟨rfl, Below.refl _ _⟩
        · have a4 : n < t := by omega
          clear hin
          go_enter Try.func21, Try.ntmps21
          go_wp2_with fail
          go_ret
          exact ⟨rfl, Below.refl _ _⟩
end Go.Proofs.Ytmaofhbnmkcimaa
