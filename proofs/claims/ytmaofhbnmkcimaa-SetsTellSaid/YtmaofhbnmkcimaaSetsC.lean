/- The package sets: All. -/
import Derived.Test.YtmaofhbnmkcimaaSetsMath
import Derived.Test.YtmaofhbnmkcimaaSlices
namespace Go.Proofs.Ytmaofhbnmkcimaa
open Go.RowKit
set_option linter.unusedVariables false

theorem info_ints : (Try.prog.info? 31).map (fun i => (i.zero, i.size, i.bytes)) = some (some (.slice none 0 0), 1, 24) := by kernel_rfl

/-- Numbers as a row of cells. -/
def cellsI (l : List Nat) : List Value := l.map fun x : Nat => Value.int .i64 x
theorem cellsI_one (l : List Nat) : ∀ u ∈ cellsI l, u.oneCell' = true := by
  intro u hu
  obtain ⟨x, _, rfl⟩ := List.mem_map.1 hu
  rfl
theorem rd_blk {w : World} {g : Nat} {l : List Nat} (h : Blk w g 3 (rowA l)) : Rd w w.heap.size (some ⟨g, 0, none⟩) l.length (cellsI l) :=
  ⟨by simp [cellsI], fun _ => ⟨g, 0, rfl, h.lt, fun i u hu => by
    rw [Nat.zero_add, h.cell i]
    simpa [rowA, cellsI] using hu⟩⟩

/-- A list of lists, each in new memory of its own, from block C on. -/
def OutOk (w : World) (C : Nat) (v : Value) (L : List (List Nat)) : Prop :=
  ∃ vs : List Value, w.ownsRow C 31 1 v L.length vs ∧ ∀ (i : Nat) (l : List Nat), L[i]? = some l → ∃ u, vs[i]? = some u ∧ w.ownsRow C 3 1 u l.length (cellsI l)

theorem OutOk.kept {w w' : World} {C : Nat} {v : Value} {L : List (List Nat)} {r : Option Nat} (h : OutOk w C v L) (hg : w.grownBy w' r) (hr : ∀ g, r = some g → g < C) : OutOk w' C v L := by
  obtain ⟨vs, h1, h2⟩ := h
  have hk : ∀ {e n : Nat} {u : Value} {xs : List Value}, w.ownsRow C e 1 u n xs → w'.ownsRow C e 1 u n xs := by
    intro e n u xs hu
    refine hu.kept hg ?_
    cases hub : u.ownBlock with
    | none => exact .inl rfl
    | some g => exact .inr (fun e => by have := (hu.lt g hub).1; have := hr g e.symm; omega)
  refine ⟨vs, hk h1, fun i l hl => ?_⟩
  obtain ⟨u, hu, ho⟩ := h2 i l hl
  exact ⟨u, hu, hk ho⟩
theorem OutOk.new {w w' : World} {C : Nat} {v : Value} {L : List (List Nat)} (h : OutOk w C v L) (hb : Below w.heap.size w w') : OutOk w' C v L := by
  obtain ⟨vs, h1, h2⟩ := h
  refine ⟨vs, own_new h1 hb, fun i l hl => ?_⟩
  obtain ⟨u, hu, ho⟩ := h2 i l hl
  exact ⟨u, hu, own_new ho hb⟩
theorem OutOk.snoc {w w' : World} {C : Nat} {v v' u : Value} {L : List (List Nat)} {l : List Nat} {vs : List Value} (h1 : w.ownsRow C 31 1 v L.length vs)
    (h2 : ∀ (i : Nat) (l : List Nat), L[i]? = some l → ∃ u, vs[i]? = some u ∧ w.ownsRow C 3 1 u l.length (cellsI l)) (hu : w.ownsRow C 3 1 u l.length (cellsI l))
    (h' : w'.ownsRow C 31 1 v' (L.length + 1) (vs ++ [u])) (hg : w.grownBy w' v.ownBlock) : OutOk w' C v' (L ++ [l]) := by
  have hvl : vs.length = L.length := by simpa using h1.1
  refine ⟨vs ++ [u], by simpa using h', fun i m hm => ?_⟩
  by_cases hi : i < L.length
  · rw [List.getElem?_append_left hi] at hm
    obtain ⟨x, hx, ho⟩ := h2 i m hm
    exact ⟨x, by rw [List.getElem?_append_left (by omega)]; exact hx, ho.kept hg (own_ne ho h1 (by decide))⟩
  · rw [List.getElem?_append_right (by omega)] at hm
    have hil : i - L.length = 0 := by
      rcases Nat.eq_zero_or_pos (i - L.length) with h | h
      · exact h
      · rw [List.getElem?_eq_none (by simp; omega)] at hm; cases hm
    rw [hil] at hm
    obtain rfl : l = m := by simpa using hm
    exact ⟨u, by rw [List.getElem?_append_right (by omega), show i - vs.length = 0 by omega]; rfl, hu.kept hg (own_ne hu h1 (by decide))⟩

theorem OutOk.base {w : World} {C C' : Nat} {v : Value} {L : List (List Nat)} (h : OutOk w C v L) (hC : C' ≤ C) : OutOk w C' v L := by
  obtain ⟨vs, h1, h2⟩ := h
  refine ⟨vs, own_base h1 hC, fun i l hl => ?_⟩
  obtain ⟨u, hu, ho⟩ := h2 i l hl
  exact ⟨u, hu, own_base ho hC⟩

theorem sets_next' (g n c t : Nat) (l : List Nat) (w : World) (hn : n ≤ 64) (hl : l.length = t) (htn : t ≤ n) (hx : ∀ x ∈ l, x ≤ 64) (hB : Blk w g 3 (rowA l)) :
    Calls Try.prog 31 #[.slice (some ⟨g, 0, none⟩) t c, .int .i64 n] w (NextPost w g (nextS n l) l) := by
  subst hl
  rw [← nxF_eq]
  exact sets_next g n c l w hn htn hx hB

/-- The first k places counted, noughts behind. -/
def cntRow (t k : Nat) : List Nat := (List.range t).map fun j => if j < k then j else 0
theorem cntRow_len (t k : Nat) : (cntRow t k).length = t := by simp [cntRow]
theorem cntRow_set (t k : Nat) (h : k < t) : (cntRow t k).set k k = cntRow t (k + 1) := by
  apply List.ext_getElem?
  intro j
  by_cases hj : j < t
  · simp only [cntRow, List.getElem?_map, List.getElem?_range hj, Option.map_some, List.getElem?_set, List.length_map, List.length_range]
    by_cases h1 : k = j
    · subst h1; simp [h]
    · by_cases h2 : j < k
      · simp [h1, h2, show j < k + 1 by omega]
      · simp [h1, h2, show ¬ j < k + 1 by omega]
  · rw [List.getElem?_eq_none (by simp [cntRow]; omega), List.getElem?_eq_none (by simp [cntRow]; omega)]
theorem cntRow_full (t : Nat) : cntRow t t = List.range' 0 t := by
  apply List.ext_getElem?
  intro j
  by_cases hj : j < t
  · simp [cntRow, hj]
  · rw [List.getElem?_eq_none (by simp [cntRow]; omega), List.getElem?_eq_none (by simp; omega)]
theorem cntRow_zero (t : Nat) : (rowA (cntRow t 0)).toList = (madeCells #[Value.int .i64 0] t).toList := by
  rw [toList_madeCells_one]
  simp [rowA, cntRow, List.map_const']

def AllPost (w : World) (n t : Nat) (e : Ending) (w' : World) : Prop :=
  ∃ v, e = .returned (.tuple #[v, .int .i64 0]) ∧ OutOk w' w.heap.size v (fromL n t 0) ∧ Below w.heap.size w w'

set_option maxRecDepth 100000 in
set_option maxHeartbeats 4000000 in
theorem sets_all_err (n t : Int) (hn : -9223372036854775808 ≤ n ∧ n ≤ 9223372036854775807) (ht : -9223372036854775808 ≤ t ∧ t ≤ 9223372036854775807) (w : World) (h : mayB n t = false) :
    Calls Try.prog 22 #[.int .i64 n, .int .i64 t] w fun e w' => e = .returned (.tuple #[.slice none 0 0, .int .i64 1]) ∧ w = w' := by
  have HM := Lib.hid h
  clear h
  go_enter Try.func22, Try.ntmps22
  go_wp2_with fail
  refine (sets_right n t _).mono ?_
  rintro e w1 ⟨rfl, rfl⟩
  rw [HM.out]
  go_wp2_with fail
  go_ret2
  exact ⟨rfl, rfl⟩

set_option maxRecDepth 100000 in
set_option maxHeartbeats 4000000 in
theorem sets_all_many (n t : Nat) (w : World) (hn : n ≤ 64) (ht : t ≤ n) (hc : 4096 < cnt n t) (hc2 : cnt n t ≤ 4097) :
    Calls Try.prog 22 #[.int .i64 n, .int .i64 t] w fun e w' => e = .returned (.tuple #[.slice none 0 0, .int .i64 13]) ∧ w = w' := by
  have hm : mayB n t = true := decide_eq_true (by omega)
  have hv : cntI n t = cnt n t := by unfold cntI; rw [hm]; rfl
  have HM := Lib.hid hm
  have HV := Lib.hid hv
  clear hm hv
  generalize cnt n t = q at *
  go_enter Try.func22, Try.ntmps22
  go_wp2_with fail
  refine (sets_right n t _).mono ?_
  rintro e w1 ⟨rfl, rfl⟩
  rw [HM.out]
  go_wp2_with fail
  refine (sets_count n t (by omega) (by omega) _).mono ?_
  rintro e w1 ⟨rfl, rfl⟩
  rw [HV.out]
  go_wp2_with fail
  go_ret2
  exact ⟨rfl, rfl⟩

set_option maxRecDepth 100000 in
set_option maxHeartbeats 4000000 in
theorem sets_all (n t : Nat) (w : World) (hn : n ≤ 64) (ht : t ≤ n) (hc : cnt n t ≤ 4096) (hL : (fromL n t 0).length ≤ 4096) :
    Calls Try.prog 22 #[.int .i64 n, .int .i64 t] w (AllPost w n t) := by
  have hm : mayB n t = true := decide_eq_true (by omega)
  have hv : cntI n t = cnt n t := by unfold cntI; rw [hm]; rfl
  have HM := Lib.hid hm
  have HV := Lib.hid hv
  clear hm hv
  generalize cnt n t = q at *
  go_enter Try.func22, Try.ntmps22
  go_wp2_with fail
  refine (sets_right n t _).mono ?_
  rintro e w1 ⟨rfl, rfl⟩
  rw [HM.out]
  go_wp2_with fail
  refine (sets_count n t (by omega) (by omega) _).mono ?_
  rintro e w1 ⟨rfl, rfl⟩
  rw [HV.out]
  obtain ⟨i0, hi, hz0, hz1, hz2⟩ := info_parts info_int
  go_wp2_with (at_make; refine wpList_make_full _ rfl _ _ 31 rfl w.heap.size 3 i0 (.int .i64 0) 1 Try.underlying31 hi hz0 hz1 _ _ _ _ t rfl rfl rfl rfl ?m1 ?m2 ?m3 ?_)
  case m1 => rw [hz2]; omega
  case m2 => unfold maxLen; omega
  case m3 => exact Nat.le_refl _
  intro w1 hown hg
  have hblk := blk_of_own hown
  have hb1 : Below w.heap.size w w1 := (Below.refl _ _).grown hg (Nat.le_refl _) (by simp)
  have hblk' : Blk w1 w.heap.size 3 (rowA (cntRow t 0)) := by
    rw [show rowA (cntRow t 0) = (rowA (cntRow t 0)).toList.toArray by simp, cntRow_zero]
    exact hblk
  have hz1' : w.heap.size < w1.heap.size := hblk'.lt
  have HB1 := Lib.hid hb1
  have HBLK := Lib.hid hblk'
  clear hown hg hblk hb1 hblk' hi hz0 hz1 hz2
  have hd : decide (4096 < (q : Int)) = false := decide_eq_false (by omega)
  go_wp2_with fail
  generalize hG : w.heap.size = G at *
  have HG := Lib.hid hG
  clear hG
  go_loopw [7, 23] (fun _ i wr => ∃ k : Nat, k ≤ t ∧ i = .int .i64 k ∧ Hid (Blk wr G 3 (rowA (cntRow t k))) ∧ Hid (Below G w wr)) (fun _ i _ => t - (intOf i).toNat)
  case atStart => exact ⟨0, by omega, rfl, HBLK, HB1⟩
  case round =>
    clear HBLK HB1
    obtain ⟨k, hk, rfl, HBLK, HB1⟩ := hrel
    by_cases hlt : k < t
    · have hc0 := (HBLK.out.cell k).trans (rowA_get _ k (by rw [cntRow_len]; exact hlt))
      have hf0 := HBLK.out.frozen k
      have hset := HBLK.out.set k (.int .i64 (k : Nat))
      rw [rowA_set, cntRow_set t k hlt] at hset
      have HS := Lib.hid hset
      clear hset
      generalize (cntRow t k).getD k 0 = y at *
      go_wp2_with fail
      go_roundw
      case rel => exact ⟨k + 1, by omega, by go_num, HS, Lib.hid (HB1.out.setCell (Nat.le_refl _) _)⟩
      case measure => simp [intOf] <;> omega
    · obtain rfl : k = t := by omega
      clear hk
      obtain ⟨wo, rfl⟩ : ∃ wo : World, wo = wr := ⟨_, rfl⟩
      have HB2 : Hid (Blk wo G 3 (rowA (List.range' 0 k))) := by rw [← cntRow_full]; exact HBLK
      clear HBLK
      have hrd := rd_blk HB2.out
      rw [List.length_range'] at hrd
      have HRD := Lib.hid hrd
      clear hrd
      go_wp2_with fail
      refine (slices_clone _ k k _ _ HRD.out (cellsI_one _) (by simp) (by omega)).mono ?_
      rintro e w2 ⟨v, rfl, hown, hb2⟩
      obtain ⟨va, vc, rfl, _⟩ := rd_of_own hown
      have hz2 : G < w2.heap.size := Nat.lt_of_lt_of_le HB2.out.lt hb2.size
      have hz1 : G < wo.heap.size := HB2.out.lt
      have hout : OutOk (w2.alloc (.cells #[.slice va k vc] 31)) (G + 1) (.slice (some ⟨w2.heap.size, 0, none⟩) 1 1) ((fromL n k 0).take 1) := by
        have hf0 := fromL_head n k 0 (by omega)
        have htk : (fromL n k 0).take 1 = [List.range' 0 k] := by
          cases hL0 : fromL n k 0 with
          | nil => rw [hL0] at hf0; cases hf0
          | cons x r => rw [hL0] at hf0; simpa using hf0
        rw [htk]
        refine ⟨[.slice va k vc], World.ownsRow_lit w2 #[.slice va k vc] 1 (by omega) (by unfold maxLen; omega) rfl, fun i l hl => ?_⟩
        cases i with
        | zero =>
          obtain rfl : List.range' 0 k = l := by simpa using hl
          exact ⟨_, rfl, by rw [List.length_range']; exact own_base (hown.alloc _) (by omega)⟩
        | succ i => simp at hl
      have hblk2 : Blk (w2.alloc (.cells #[.slice va k vc] 31)) G 3 (rowA (List.range' 0 k)) := (HB2.out.below hb2 hz1).alloc _
      have hbel2 : Below G w (w2.alloc (.cells #[.slice va k vc] 31)) := (HB1.out.trans (hb2.mono (by omega))).alloc (by omega) _
      have HO := Lib.hid hout
      have HB3 := Lib.hid hblk2
      have HB4 := Lib.hid hbel2
      clear hout hblk2 hbel2 HB1 HB2 HRD
      go_wp2_with fail
      generalize w2.alloc (.cells #[.slice va k vc] 31) = w3 at *
      clear hown hb2
      have HCH := Lib.hid (fromL_chain n k 0)
      have HLEN := Lib.hid (fromL_len n k 0)
      have HBD := Lib.hid (fromL_bd n k 0)
      have hpos : Hid ((fromL n k 0)[0]? = some (List.range' 0 k)) := fromL_head n k 0 (by omega)
      have hLp : 0 < (fromL n k 0).length := (List.getElem?_eq_some_iff.1 hpos.out).1
      go_loopg [8] ((fromL n k 0).length) (fun gk v wr => ∃ (i : Nat) (l : List Nat), gk = (fromL n k 0).length - i ∧ i < (fromL n k 0).length ∧ Hid ((fromL n k 0)[i]? = some l) ∧ Hid (OutOk wr (G + 1) v ((fromL n k 0).take (i + 1))) ∧ Hid (Blk wr G 3 (rowA l)) ∧ Hid (Below G w wr))
      case atStart => exact ⟨0, _, rfl, hLp, hpos, HO, HB3, HB4⟩
      case round =>
        clear HO HB3 HB4
        obtain ⟨i, l, hgk, hi, HL, HO, HB3, HB4⟩ := hrel
        have hlm := List.mem_of_getElem? HL.out
        have hll := HLEN.out l hlm
        have hlb := HBD.out l hlm
        have hnext := HCH.out i l HL.out
        go_wp2_with fail
        refine (sets_next' G n k k l _ hn hll ht (fun x hx => by have := hlb x hx; omega) HB3.out).mono ?_
        rintro e w4 ⟨rfl, hblk4, hgr4⟩
        have HO4 := Lib.hid (HO.out.kept hgr4 (fun g hg => by simp at hg; omega))
        have HB5 : Hid (Below G w w4) := HB4.out.grown hgr4 (by have := HB3.out.lt; omega) (fun g hg => by simp at hg; omega)
        have hz4 : G < w4.heap.size := Blk.lt hblk4
        clear HO HB4 hgr4 hlb
        cases hn1 : (fromL n k 0)[i + 1]? with
        | none =>
          rw [hn1] at hnext
          rw [hnext]
          have htk : (fromL n k 0).take (i + 1) = fromL n k 0 := List.take_of_length_le (List.getElem?_eq_none_iff.1 hn1)
          have HTK := Lib.hid htk
          clear hnext hn1 htk hblk4 hll hlm
          go_wp2_with fail
          go_ret2
          refine ⟨u8, rfl, ?_, ?_⟩
          · have := HO4.out
            rw [HTK.out] at this
            rw [HG.out]
            exact this.base (by omega)
          · rw [HG.out]
            exact HB5.out
        | some l' =>
          rw [hn1] at hnext
          rw [hnext] at hblk4
          rw [hnext]
          have hlm' := List.mem_of_getElem? hn1
          have hll' := HLEN.out l' hlm'
          have hi' : i + 1 < (fromL n k 0).length := (List.getElem?_eq_some_iff.1 hn1).1
          have hblk5 : Blk w4 G 3 (rowA l') := hblk4
          have hrd := rd_blk hblk5
          rw [hll'] at hrd
          have htk : (fromL n k 0).take (i + 1 + 1) = (fromL n k 0).take (i + 1) ++ [l'] := by
            rw [List.take_succ_eq_append_getElem hi']
            rw [List.getElem?_eq_getElem hi'] at hn1
            rw [Option.some.inj hn1]
          have htl : ((fromL n k 0).take (i + 1)).length = i + 1 := by rw [List.length_take]; omega
          have HTL := Lib.hid htl
          have HTK := Lib.hid htk
          have HRD := Lib.hid hrd
          have HBK := Lib.hid hblk5
          have HN1 := Lib.hid hn1
          have HLL := Lib.hid hll'
          clear hblk4 hblk5 hrd htk htl hn1 hll' hlm' hnext HB3 hll hlm
          go_wp2_with fail
          refine (slices_clone _ k k _ _ HRD.out (cellsI_one _) (by simp) (by omega)).mono ?_
          rintro e w5 ⟨v, rfl, hown5, hb5⟩
          obtain ⟨va2, vc2, rfl, _⟩ := rd_of_own hown5
          obtain ⟨vs, ho1, ho2⟩ := (HO4.out.new hb5)
          rw [HTL.out] at ho1
          have hz5 : G < w5.heap.size := Nat.lt_of_lt_of_le hz4 hb5.size
          have HO1 := Lib.hid ho1
          have HO2 := Lib.hid ho2
          have HOW5 := Lib.hid hown5
          have HB5' := Lib.hid hb5
          clear ho1 ho2 hown5 hb5
          go_wp2_with (at_builtin; refine wp_app1 _ rfl _ _ 42 rfl (G + 1) 31 (.slice none 0 0) 24 Try.underlying42 info_ints rfl _ (i + 1) vs rfl ?p1 _ (.slice va2 k vc2) rfl ?p2 rfl ?p3 ?p4 ?p5 ?_)
          case p1 => exact HO1.out.alloc _
          case p2 => go_simp
          case p3 => omega
          case p4 => unfold maxLen; omega
          case p5 => simp; omega
          intro v6 w6 hown6 hg6 _
          have hout6 : OutOk w6 (G + 1) v6 ((fromL n k 0).take (i + 1 + 1)) := by
            rw [HTK.out]
            refine OutOk.snoc (w := w5.alloc (.cells #[.slice va2 k vc2] 31)) (vs := vs) (by rw [HTL.out]; exact HO1.out.alloc _) (fun j m hm => ?_) (by rw [HLL.out]; exact own_base (HOW5.out.alloc _) (by omega)) (by rw [HTL.out]; exact hown6) hg6
            obtain ⟨u, hu, ho⟩ := HO2.out j m hm
            exact ⟨u, hu, ho.alloc _⟩
          have hgt : ∀ g, u8.ownBlock = some g → G + 1 ≤ g := fun g hg => (HO1.out.lt g hg).1
          have hblk6 : Blk w6 G 3 (rowA l') := ((HBK.out.below HB5'.out hz4).alloc _).grown hg6 (fun e => by have := hgt _ e.symm; omega)
          have hbel6 : Below G w w6 := ((HB5.out.trans (HB5'.out.mono (by omega))).alloc (by omega) _).grown hg6 (by simp; omega) (fun g hg => by have := hgt g hg; omega)
          have HO6 := Lib.hid hout6
          have HB6 := Lib.hid hblk6
          have HB7 := Lib.hid hbel6
          clear hout6 hblk6 hbel6 hown6 hg6 HO1 HO2 HOW5 HB5' HO4 HB5 HRD HBK
          go_wp2_with fail
          go_roundg ((fromL n k 0).length - (i + 1))
          case measure => omega
          case rel => exact ⟨i + 1, l', rfl, hi', HN1, HO6, HB6, HB7⟩
end Go.Proofs.Ytmaofhbnmkcimaa
