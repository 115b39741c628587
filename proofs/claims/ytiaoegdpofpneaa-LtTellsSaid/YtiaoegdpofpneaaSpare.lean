/- Contracts of wellspringkeep.Spare and Kept: a copy with two marks behind it, and whether it is as it was. -/
import Derived.Test.YtiaoegdpofpneaaKeep
import Derived.Laws.CopyOwn
namespace Go.Proofs.Ytiaoegdpofpneaa
open Go.RowKit
set_option linter.unusedVariables false

/-- What a copy with marks behind it holds, so many marks laid. -/
def spareL (k : IntKind) (xs : List Int) (m : Int) (j : Nat) : List Value := xs.map (Value.int k) ++ (List.range 2).map fun i => if i < j then Value.int k m else Value.int k 0
theorem spareL_len (k : IntKind) (xs : List Int) (m : Int) (j : Nat) : (spareL k xs m j).length = xs.length + 2 := by simp [spareL]
theorem spareL_set (k : IntKind) (xs : List Int) (m : Int) (j : Nat) (h : j < 2) : (spareL k xs m j).toArray.setIfInBounds (xs.length + j) (.int k m) = (spareL k xs m (j + 1)).toArray := by
  apply Array.ext'
  rw [Array.toList_setIfInBounds]
  refine List.ext_getElem? fun i => ?_
  rw [List.getElem?_set]
  have hj : j = 0 ∨ j = 1 := by omega
  by_cases e : xs.length + j = i
  · subst e
    rw [if_pos rfl, if_pos (by simp [spareL]; omega)]
    unfold spareL
    rw [List.getElem?_append_right (by simp), List.length_map, Nat.add_sub_cancel_left]
    rcases hj with rfl | rfl <;> rfl
  · rw [if_neg e]
    unfold spareL
    rcases Nat.lt_or_ge i xs.length with h1 | h1
    · simp only [List.getElem?_append_left (show i < (xs.map (Value.int k)).length by simpa using h1)]
    · simp only [List.getElem?_append_right (show (xs.map (Value.int k)).length ≤ i by simpa using h1), List.length_map]
      have : i - xs.length = 0 ∨ i - xs.length = 1 ∨ 2 ≤ i - xs.length := by omega
      rcases this with h | h | h
      · rw [h]; rcases hj with rfl | rfl
        · omega
        · rfl
      · rw [h]; rcases hj with rfl | rfl
        · rfl
        · omega
      · rw [List.getElem?_eq_none (by simpa using h), List.getElem?_eq_none (by simpa using h)]
theorem spareL_full (k : IntKind) (xs : List Int) (m : Int) : spareL k xs m 2 = xs.map (Value.int k) ++ [.int k m, .int k m] := rfl
theorem spareL_made (k : IntKind) (xs : List Int) (m : Int) : splice (madeCells #[Value.int k 0] (xs.length + 2)).toList 0 (xs.map (Value.int k)) = spareL k xs m 0 := by
  unfold splice spareL
  rw [List.take_zero, List.nil_append, Nat.zero_add, List.length_map]
  congr 1
  refine List.ext_getElem? fun i => ?_
  rw [List.getElem?_drop, Array.getElem?_toList]
  have h0 : (#[Value.int k 0] : Array Value)[0]! = Value.int k 0 := rfl
  have : i = 0 ∨ i = 1 ∨ 2 ≤ i := by omega
  rcases this with h | h | h
  · subst h; simp [madeCells, Nat.mod_one]
  · subst h; simp [madeCells, Nat.mod_one]
  · rw [List.getElem?_eq_none (by simpa using h), Array.getElem?_eq_none (by rw [size_madeCells]; omega)]
theorem rd_spare {w : World} {g : Nat} {t : TypeId} {k : IntKind} {xs : List Int} {m : Int} (h : Blk w g t (spareL k xs m 2).toArray) : Rd w w.heap.size (some ⟨g, 0, none⟩) xs.length (xs.map (Value.int k)) := by
  refine ⟨by simp, fun _ => ⟨g, 0, rfl, h.lt, fun i u hu => ?_⟩⟩
  rw [Nat.zero_add, h.cell i]
  have hi := (List.getElem?_eq_some_iff.1 hu).1
  simp only [List.getElem?_toArray]
  unfold spareL
  rw [List.getElem?_append_left hi]; exact hu
theorem spareL_mark (k : IntKind) (xs : List Int) (m : Int) (j : Nat) (h : j < 2) : (spareL k xs m 2).toArray[xs.length + j]? = some (.int k m) := by
  simp only [List.getElem?_toArray]
  unfold spareL
  rw [List.getElem?_append_right (by simp), List.length_map, Nat.add_sub_cancel_left]
  have hj : j = 0 ∨ j = 1 := by omega
  rcases hj with rfl | rfl <;> rfl
/-- 'copy' into a block of the call's own, known whole: as a run. -/
theorem copy_run {P : Program} (w : World) (T ty elem : TypeId) (hu : P.underlying T = some (.slice elem)) (hsz : (P.info? elem).map (·.size) = some 1) (g dLen dCap : Nat) (a : Option Addr) (sLen sCap : Nat)
    (cur : List Value) (t : TypeId) (hg : w.heap[g]? = some (.cells cur.toArray t (0, 0))) (cs : List Value) (hn : cs.length = Nat.min sLen dLen)
    (hpos : 0 < cs.length → ∃ ad, a = some ad ∧ ∀ j v, cs[j]? = some v → w.cell? (ad.add j) = some v) (hfit : cs.length ≤ cur.length) (h1 : ∀ v ∈ cs, v.oneCell' = true) :
    ∃ w', (Builtin.copy_ #[T, T] ty #[.slice (some ⟨g, 0, none⟩) dLen dCap, .slice a sLen sCap]).run P w = .ok (goInt cs.length) w' ∧ Blk w' g t (splice cur 0 cs).toArray ∧ w.grownBy w' (some g) := by
  by_cases h0 : cs.length = 0
  · obtain rfl : cs = [] := List.eq_nil_of_length_eq_zero h0
    exact ⟨w, run_copy_none (P := P) w T T ty elem _ _ dLen dCap sLen sCap hu hsz (by simpa using hn.symm), by simpa [splice, Blk] using hg, ⟨rfl, rfl, rfl, Nat.le_refl _, fun _ _ _ => rfl⟩⟩
  · obtain ⟨ad, rfl, hsrc⟩ := hpos (by omega)
    exact ⟨_, run_copy_row (P := P) w T T ty elem g 0 dLen dCap ad sLen sCap cur.toArray t cs hu hsz hg hn hsrc (by simpa using hfit) h1, by simpa [splice, Blk] using setRow_heap w g cur.toArray _ t _ hg,
      ⟨rfl, rfl, rfl, by simp [World.setRow], fun k _ hk => setRow_other w g k _ (fun e => hk (by rw [e]))⟩⟩
theorem one_ints (k : IntKind) (xs : List Int) : ∀ u ∈ xs.map (Value.int k), u.oneCell' = true := by
  intro u hu
  obtain ⟨x, _, rfl⟩ := List.mem_map.1 hu
  rfl

theorem infoS_i64 : (Try.prog.info? 3).map (fun i => (i.zero, i.size, i.bytes)) = some (some (.int .i64 0), 1, 8) := by kernel_rfl

set_option maxRecDepth 100000 in
set_option maxHeartbeats 2000000 in
theorem keep_spare_i64 (xs : List Int) (a : Option Addr) (n c : Nat) (m : Int) (w : World) (hx : Rd w w.heap.size a n (xs.map (Value.int .i64))) (hn : n ≤ 1000000) :
    Calls Try.prog 34 #[.slice a n c, .int .i64 m] w fun e w' => ∃ g, e = .returned (.slice (some ⟨g, 0, none⟩) n (n + 2)) ∧ w.heap.size ≤ g ∧ Blk w' g 3 (spareL .i64 xs m 2).toArray ∧ Below w.heap.size w w' := by
  have hlx : xs.length = n := by simpa using hx.1
  obtain ⟨i0, hi, hz0, hz1, hz2⟩ := info_parts infoS_i64
  have hmk : ∀ w : World, (Instr.makeSlice 30 (.int .i64 (n : Int)) (.int .i64 ((n : Int) + 2))).run Try.prog w = .ok (.slice (some ⟨w.heap.size, 0, none⟩) n (n + 2)) (w.alloc (.cells (madeCells #[Value.int .i64 0] (n + 2)) 3)) := by
    intro w
    have h := run_make (P := Try.prog) w 30 3 i0 (.int .i64 0) Try.underlying30 hi hz0 .i64 .i64 (n : Int) ((n : Int) + 2) (by omega) (by omega) (by rw [hz2]; omega) (by omega)
    rw [hz1, Nat.mul_one, Int.toNat_natCast, show ((n : Int) + 2).toNat = n + 2 by omega] at h
    exact h
  have hinf : (Try.prog.info? 3).map (·.size) = some 1 := by kernel_rfl
  have hsz : (madeCells #[Value.int .i64 0] (n + 2)).toList.length = n + 2 := by rw [Array.length_toList, size_madeCells]
  have hspl : splice (madeCells #[Value.int .i64 0] (n + 2)).toList 0 (xs.map (Value.int .i64)) = spareL .i64 xs m 0 := by rw [← hlx]; exact spareL_made .i64 xs m
  have hMa : madeCells #[Value.int .i64 0] (n + 2) = (madeCells #[Value.int .i64 0] (n + 2)).toList.toArray := by simp
  rw [hMa] at hmk
  generalize (madeCells #[Value.int .i64 0] (n + 2)).toList = M at *
  have hX1 := one_ints .i64 xs
  have hXl : (xs.map (Value.int .i64)).length = n := by rw [List.length_map]; exact hlx
  generalize xs.map (Value.int .i64) = X at *
  obtain ⟨w1, hrun, hblk, hgr⟩ := copy_run (P := Try.prog) (w.alloc (.cells M.toArray 3)) 30 3 3 Try.underlying30 hinf w.heap.size n (n + 2) a n c M 3 (Blk.new w _ _) X (by rw [hXl]; exact (Nat.min_self n).symm)
    (fun h => by
      obtain ⟨b, o, rfl, hb, hc⟩ := hx.2 (by omega)
      refine ⟨⟨b, o, none⟩, rfl, fun j v hv => ?_⟩
      rw [Addr.add_lit]
      exact (((Below.refl w.heap.size w).alloc (Nat.le_refl _) _).cell (p := ⟨b, o + j, none⟩) hb).trans (hc j v hv)) (by omega) hX1
  rw [hspl] at hblk
  have HBK := Lib.hid hblk
  have HB : Hid (Below w.heap.size w w1) := Lib.hid (((Below.refl _ _).alloc (Nat.le_refl _) _).grown hgr (by simp) (fun g hg => by simp at hg; omega))
  have HL := Lib.hid hlx
  clear hi hz0 hz1 hz2 hx hlx hspl hMa hX1 hblk hgr hinf hsz
  rw [hXl] at hrun
  clear hXl X
  go_enter Try.func34, Try.ntmps34
  go_wp2_with (first | simp only [hmk] | simp only [hrun])
  go_loopw [7] (fun i wr => ∃ j : Nat, j ≤ 2 ∧ i = .int .i64 ((n : Int) + (j : Int)) ∧ Hid (Blk wr w.heap.size 3 (spareL .i64 xs m j).toArray) ∧ Hid (Below w.heap.size w wr)) (fun i _ => n + 2 - (intOf i).toNat)
  case atStart => exact ⟨0, by omega, by simp, HBK, HB⟩
  case round =>
    clear HBK HB
    obtain ⟨j, hj, rfl, HBK, HB⟩ := hrel
    by_cases hlt : j < 2
    · have hset := HBK.out.set (xs.length + j) (.int .i64 m)
      rw [spareL_set .i64 xs m j hlt] at hset
      have hf := HBK.out.frozen (n + j)
      obtain ⟨u, hu⟩ : ∃ u, wr.cell? ⟨w.heap.size, n + j, none⟩ = some u := by
        refine ⟨_, (HBK.out.cell (n + j)).trans (Array.getElem?_eq_getElem ?_)⟩
        simp only [List.size_toArray, spareL_len, HL.out]; omega
      rw [HL.out] at hset
      have HS := Lib.hid hset
      clear hset
      have ht : ((n : Int) + (j : Int)).toNat = n + j := by omega
      go_wp2_with fail
      go_roundw
      case rel => exact ⟨j + 1, by omega, by go_num, HS, Lib.hid (HB.out.setCell (Nat.le_refl _) _)⟩
      case measure => simp [intOf] <;> omega
    · obtain rfl : j = 2 := by omega
      go_wp2_with fail
      go_ret
      exact ⟨_, rfl, Nat.le_refl _, HBK.out, HB.out⟩

set_option maxRecDepth 100000 in
set_option maxHeartbeats 2000000 in
theorem keep_kept_i64 (xs : List Int) (g : Nat) (b : Option Addr) (n d : Nat) (m : Int) (w : World) (hB : Blk w g 3 (spareL .i64 xs m 2).toArray) (hlx : xs.length = n) (hy : Rd w w.heap.size b n (xs.map (Value.int .i64))) (hn : n ≤ 1000000) :
    Calls Try.prog 37 #[.slice (some ⟨g, 0, none⟩) n (n + 2), .slice b n d, .int .i64 m] w fun e w' => e = .returned (.bool true) ∧ ∃ j, w' = w.drewN j := by
  have hx := rd_spare hB
  rw [hlx] at hx
  have cs := same_i64 xs xs (some ⟨g, 0, none⟩) b n n (n + 2) d w hx hy (by unfold maxLen; omega) (by unfold maxLen; omega)
  rw [decide_eq_true rfl] at cs
  have CS := Lib.hid cs
  have HB := Lib.hid hB
  have HL := Lib.hid hlx
  clear cs hx hB hlx hy
  go_enter Try.func37, Try.ntmps37
  go_wp2_with fail
  refine CS.out.mono ?_
  rintro e w1 ⟨rfl, j0, rfl⟩
  go_wp2_with fail
  go_loopw [8] (fun i wr => ∃ j : Nat, j ≤ 2 ∧ i = .int .i64 ((n : Int) + (j : Int)) ∧ Hid (∃ q, wr = w.drewN q)) (fun i _ => n + 2 - (intOf i).toNat)
  case atStart => exact ⟨0, by omega, by simp, Lib.hid ⟨_, rfl⟩⟩
  case round =>
    obtain ⟨j, hj, rfl, HQ⟩ := hrel
    obtain ⟨q, rfl⟩ := HQ.out
    clear HQ
    by_cases hlt : j < 2
    · have hc : w.cell? ⟨g, n + j, none⟩ = some (.int .i64 m) := by
        rw [HB.out.cell, ← HL.out]
        exact spareL_mark .i64 xs m j hlt
      have ht : ((n : Int) + (j : Int)).toNat = n + j := by omega
      go_wp2_with fail
      go_roundw
      case rel => exact ⟨j + 1, by omega, by go_num, Lib.hid (by first | exact ⟨_, rfl⟩ | exact ⟨_, World.drewN_drewN _ _ _⟩)⟩
      case measure => simp [intOf] <;> omega
    · obtain rfl : j = 2 := by omega
      go_wp2_with fail
      go_ret
      exact ⟨rfl, by first | exact ⟨_, rfl⟩ | exact ⟨_, World.drewN_drewN _ _ _⟩⟩

end Go.Proofs.Ytiaoegdpofpneaa
