/- The package sets: next. -/
import Derived.Test.YtmaofhbnmkcimaaSetsA
namespace Go.Proofs.Ytmaofhbnmkcimaa
open Go.RowKit
set_option linter.unusedVariables false

/-- Numbers as cells. -/
def rowA (l : List Nat) : Array Value := (l.map fun x : Nat => Value.int .i64 x).toArray
theorem rowA_size (l : List Nat) : (rowA l).size = l.length := by simp [rowA]
theorem rowA_get (l : List Nat) (i : Nat) (h : i < l.length) : (rowA l)[i]? = some (.int .i64 (l.getD i 0 : Nat)) := by
  simp [rowA, List.getD, List.getElem?_eq_getElem h]
theorem rowA_set (l : List Nat) (i x : Nat) : (rowA l).setIfInBounds i (.int .i64 (x : Nat)) = rowA (l.set i x) := by
  apply Array.toList_inj.1
  simp [rowA, List.map_set]

/-- The numbers, from place i on counted up from one more than stands there, as far as place k. -/
def layT (l : List Nat) (i k : Nat) : List Nat := (List.range l.length).map fun j => if j < i then l.getD j 0 else if j < k then l.getD i 0 + 1 + (j - i) else l.getD j 0
theorem layT_len (l : List Nat) (i k : Nat) : (layT l i k).length = l.length := by simp [layT]
theorem layT_get (l : List Nat) (i k j : Nat) (h : j < l.length) : (layT l i k).getD j 0 = if j < i then l.getD j 0 else if j < k then l.getD i 0 + 1 + (j - i) else l.getD j 0 := by
  simp [layT, List.getD, h]
theorem layT_first (l : List Nat) (i : Nat) (h : i < l.length) : l.set i (l.getD i 0 + 1) = layT l i (i + 1) := by
  apply List.ext_getElem?
  intro j
  by_cases hj : j < l.length
  · simp only [layT, List.getElem?_map, List.getElem?_range hj, Option.map_some, List.getElem?_set, List.getD, List.getElem?_eq_getElem hj, Option.getD_some]
    by_cases h1 : i = j
    · subst h1; simp [h]
    · by_cases h2 : j < i
      · simp [h1, h2]
      · simp [h1, h2, show ¬ j < i + 1 by omega]
  · rw [List.getElem?_eq_none (by simp; omega), List.getElem?_eq_none (by rw [layT_len]; omega)]
theorem layT_step (l : List Nat) (i k : Nat) (h : k < l.length) (hi : i < k) : (layT l i k).set k (l.getD i 0 + 1 + (k - 1 - i) + 1) = layT l i (k + 1) := by
  apply List.ext_getElem?
  intro j
  by_cases hj : j < l.length
  · simp only [layT, List.getElem?_map, List.getElem?_range hj, Option.map_some, List.getElem?_set, List.length_map, List.length_range]
    by_cases h1 : k = j
    · subst h1; simp [h, show ¬ k < i by omega]; omega
    · by_cases h2 : j < i
      · simp [h1, h2]
      · by_cases h3 : j < k
        · simp [h1, h2, h3, show j < k + 1 by omega]
        · simp [h1, h2, h3, show ¬ j < k + 1 by omega]
  · rw [List.getElem?_eq_none (by simp [layT]; omega), List.getElem?_eq_none (by rw [layT_len]; omega)]

/-- The set behind one: looked for from place k - 1 down. -/
def nxF (n : Nat) (l : List Nat) : Nat → Option (List Nat)
  | 0 => none
  | k + 1 => if l.getD k 0 + l.length < n + k then some (layT l k l.length) else nxF n l k

def NextPost (w : World) (g : Nat) (r : Option (List Nat)) (l : List Nat) (e : Ending) (w' : World) : Prop :=
  e = .returned (.bool r.isSome) ∧ Blk w' g 3 (rowA (r.getD l)) ∧ w.grownBy w' (some g)

set_option maxRecDepth 100000 in
set_option maxHeartbeats 2000000 in
theorem sets_next (g n c : Nat) (l : List Nat) (w : World) (hn : n ≤ 64) (hl : l.length ≤ n) (hx : ∀ x ∈ l, x ≤ 64) (hB : Blk w g 3 (rowA l)) :
    Calls Try.prog 31 #[.slice (some ⟨g, 0, none⟩) l.length c, .int .i64 n] w (NextPost w g (nxF n l l.length) l) := by
  have HX : Hid (∀ k, k < l.length → l.getD k 0 ≤ 64) := by
    intro k hk
    rw [List.getD_eq_getElem?_getD, List.getElem?_eq_getElem hk]
    exact hx _ (List.getElem_mem hk)
  have HB := Lib.hid hB
  clear hx hB
  obtain ⟨t, ht⟩ : ∃ t, t = l.length := ⟨_, rfl⟩
  rw [← ht]
  have HT := Lib.hid ht
  have hl' : t ≤ n := by omega
  clear hl ht
  go_enter Try.func31, Try.ntmps31
  go_wp2_with fail
  go_loop [5] (fun i => ∃ k : Nat, k ≤ t ∧ i = .int .i64 ((k : Int) - 1) ∧ nxF n l k = nxF n l t) (fun i => (intOf i + 1).toNat)
  case atStart => exact ⟨t, Nat.le_refl _, rfl, rfl⟩
  case round =>
    obtain ⟨k, hk, rfl, hnx⟩ := hrel
    have HN := Lib.hid hnx
    clear hnx
    by_cases h0 : k = 0
    · subst h0
      go_wp2_with fail
      go_ret
      have h1 := HN.out
      rw [nxF] at h1
      exact ⟨by rw [← h1]; rfl, by rw [← h1]; exact HB.out, World.grownBy.refl _ _⟩
    · obtain ⟨i, rfl⟩ : ∃ i, k = i + 1 := ⟨k - 1, by omega⟩
      have ei : ((i + 1 : Nat) : Int) - 1 = (i : Int) := by omega
      rw [ei]
      clear ei
      have hit : i < l.length := by rw [← HT.out]; omega
      have hc := (HB.out.cell i).trans (rowA_get l i hit)
      have hf := HB.out.frozen i
      have hxb := HX.out i hit
      have hst : nxF n l (i + 1) = if l.getD i 0 + t < n + i then some (layT l i t) else nxF n l i := by rw [nxF, ← HT.out]
      have HS := Lib.hid hst
      clear hst
      have HI := Lib.hid hit
      clear hit
      have hset := (HB.out.set i (.int .i64 ((l.getD i 0 + 1 : Nat) : Int)))
      rw [rowA_set, layT_first l i HI.out] at hset
      have HSET := Lib.hid hset
      clear hset
      have hgrow : w.grownBy (w.setCell ⟨g, i, none⟩ (.int .i64 ((l.getD i 0 + 1 : Nat) : Int))) (some g) :=
        ⟨rfl, rfl, rfl, by simp, fun k _ hk => heap_setCell_other w ⟨g, i, none⟩ k _ (fun e => hk (by simp [e]))⟩
      obtain ⟨x, hxe⟩ : ∃ x, l.getD i 0 = x := ⟨_, rfl⟩
      rw [hxe] at hc hxb HS HSET hgrow
      have HXE := Lib.hid hxe
      clear hxe
      rw [show ((x + 1 : Nat) : Int) = (x : Int) + 1 by omega] at HSET hgrow
      by_cases hgo : x + t < n + i
      · have hgo' : (x : Int) < (n : Int) - t + i := by omega
        go_wp2_with fail
        have HG := Lib.hid hgrow
        clear hgrow hc hf
        generalize w.setCell ⟨g, i, none⟩ (.int .i64 ((x : Int) + 1)) = w1 at *
        go_loopw [6] (fun v wr => ∃ k : Nat, i < k ∧ k ≤ t ∧ v = .int .i64 k ∧ Hid (Blk wr g 3 (rowA (layT l i k))) ∧ Hid (w.grownBy wr (some g))) (fun v _ => t - (intOf v).toNat)
        case atStart => exact ⟨i + 1, by omega, by omega, by go_num, HSET, HG⟩
        case round =>
          clear HSET HG
          obtain ⟨k, hik, hkt, rfl, HK, HG⟩ := hrel
          by_cases hlt : k < t
          · have hkl : k < l.length := by rw [← HT.out]; exact hlt
            have hc1 := (HK.out.cell (k - 1)).trans (rowA_get _ (k - 1) (by rw [layT_len]; omega))
            rw [layT_get l i k (k - 1) (by omega), if_neg (by omega), if_pos (by omega), HXE.out] at hc1
            have hc2 := (HK.out.cell k).trans (rowA_get _ k (by rw [layT_len]; omega))
            have hf2 := HK.out.frozen k
            have hset := HK.out.set k (.int .i64 ((x + 1 + (k - 1 - i) + 1 : Nat) : Int))
            rw [rowA_set] at hset
            have hls := layT_step l i k hkl hik
            rw [HXE.out] at hls
            rw [hls] at hset
            have hgr : w.grownBy (wr.setCell ⟨g, k, none⟩ (.int .i64 ((x + 1 + (k - 1 - i) + 1 : Nat) : Int))) (some g) :=
              ⟨HG.out.os, HG.out.tape, HG.out.output, by have := HG.out.size; simpa using this, fun j hj hk' => (heap_setCell_other wr ⟨g, k, none⟩ j _ (fun e => hk' (by simp [e]))).trans (HG.out.block j hj hk')⟩
            have HSET := Lib.hid hset
            have HGR := Lib.hid hgr
            clear hset hgr hls hkl
            obtain ⟨y, hy, hyb⟩ : ∃ y, x + 1 + (k - 1 - i) = y ∧ y ≤ 64 + 1 + t := ⟨_, rfl, by omega⟩
            rw [hy] at hc1 HSET HGR
            rw [show ((y + 1 : Nat) : Int) = (y : Int) + 1 by omega] at HSET HGR
            obtain ⟨q, rfl⟩ : ∃ q, k = q + 1 := ⟨k - 1, by omega⟩
            rw [show q + 1 - 1 = q by omega] at hc1
            clear hy
            go_wp2_with fail
            go_roundw
            case rel => exact ⟨q + 1 + 1, by omega, by omega, by go_num, HSET, HGR⟩
            case measure => simp [intOf]; omega
          · obtain rfl : k = t := by omega
            have hs := HS.out
            rw [HN.out, if_pos hgo] at hs
            have HS2 := Lib.hid hs
            clear hs
            go_wp2_with fail
            go_ret
            exact ⟨by rw [HS2.out]; rfl, by rw [HS2.out]; exact HK.out, HG.out⟩
      · have hgo' : ¬ (x : Int) < (n : Int) - t + i := by omega
        have hs := HS.out
        rw [if_neg hgo] at hs
        have HS2 := Lib.hid (hs.symm.trans HN.out)
        clear hs hgrow hf
        go_wp2_with fail
        go_round
        case rel => exact ⟨i, by omega, by go_num, HS2.out⟩
        case measure => simp [intOf] <;> omega
end Go.Proofs.Ytmaofhbnmkcimaa
