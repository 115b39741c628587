/- law09: contracts of lt.Cols, lt.Row and of the document's At and Row. -/
import Derived.Test.YtiaoegdpofpneaaLtE
import Derived.Test.YtiaoegdpofpneaaPre
import Derived.Deep.RegionHeld3
namespace Go.Proofs.Ytiaoegdpofpneaa
open Go.RowKit
set_option linter.unusedVariables false

def cellsY (l : List Nat) : List Value := l.map fun x : Nat => Value.int .u8 x
def rowY (l : List Nat) : Array Value := (cellsY l).toArray
theorem cellsY_len (l : List Nat) : (cellsY l).length = l.length := List.length_map _
theorem cellsY_get {l : List Nat} {i : Nat} (h : i < l.length) : (cellsY l)[i]? = some (.int .u8 (l.getD i 0 : Nat)) := by
  unfold cellsY
  rw [List.getElem?_map, List.getElem?_eq_getElem h, List.getD_eq_getElem?_getD, List.getElem?_eq_getElem h]
  rfl
theorem rowY_set (l : List Nat) (i x : Nat) : (rowY l).setIfInBounds i (.int .u8 (x : Nat)) = rowY (l.set i x) := by
  apply Array.ext'
  simp [rowY, cellsY]
theorem made_Y (n : Nat) : madeCells #[Value.int .u8 0] n = rowY (List.replicate n 0) := by
  apply Array.ext (by rw [size_madeCells]; simp [rowY, cellsY])
  intro i h1 h2
  rw [size_madeCells] at h1
  simp [rowY, cellsY, madeCells, Nat.mod_one]
theorem rd_blkY {w : World} {g : Nat} {l : List Nat} (h : Blk w g 5 (rowY l)) : Rd w w.heap.size (some ⟨g, 0, none⟩) l.length (cellsY l) := by
  refine ⟨cellsY_len l, fun _ => ⟨g, 0, rfl, h.lt, fun i u hu => ?_⟩⟩
  rw [Nat.zero_add, h.cell i]
  simpa [rowY] using hu
theorem blkP {w : World} {g : Nat} {t : TypeId} {x y z : Value} (h : Blk w g t #[x, y, z]) : w.cell? ⟨g, 0, none⟩ = some x ∧ w.cell? ⟨g, 1, none⟩ = some y ∧ w.cell? ⟨g, 2, none⟩ = some z := ⟨h.cell 0, h.cell 1, h.cell 2⟩
theorem colL_no {K H S s id : Int} (h : ¬ (okP K H S ∧ 0 ≤ id ∧ id ≤ 65535)) : colL K H S s id = [] := by unfold colL; rw [if_neg h]
theorem rowL_no {K H S s id : Int} (h : ¬ (okP K H S ∧ 0 ≤ id ∧ id ≤ 65535)) : rowL K H S s id = [] := by unfold rowL; rw [if_neg h]
theorem ok_cols {K H S : Int} (h : okP K H S = true) : ∃ n : Nat, colsI K H S = (n : Int) ∧ K + H = (n : Int) ∧ 2 ≤ n ∧ n ≤ 20 := by
  have h1 := of_decide_eq_true h
  obtain ⟨n, hn⟩ := Int.eq_ofNat_of_zero_le (a := K + H) (by omega)
  exact ⟨n, by unfold colsI; rw [if_pos h]; exact hn, hn, by omega, by omega⟩
/-- The ways in which it may not be. -/
theorem bad_cases {K H S id : Int} (h : ¬ (okP K H S ∧ 0 ≤ id ∧ id ≤ 65535)) : okP K H S = false ∨ (okP K H S = true ∧ id < 0) ∨ (okP K H S = true ∧ ¬ id < 0 ∧ 65535 < id) := by
  cases hk : okP K H S with
  | false => exact .inl rfl
  | true =>
    right
    by_cases h0 : id < 0
    · exact .inl ⟨rfl, h0⟩
    · exact .inr ⟨rfl, h0, by
        by_cases h1 : 65535 < id
        · exact h1
        · exact absurd ⟨hk, by omega, by omega⟩ h⟩
set_option maxRecDepth 100000 in
set_option maxHeartbeats 2000000 in
theorem lt_cols_no (K H S s id : Int) (w : World) (h : ¬ (okP K H S ∧ 0 ≤ id ∧ id ≤ 65535)) :
    Calls Try.prog 44 #[parV K H S, .int .u32 s, .int .i64 id] w fun e w' => e = .returned (.slice none 0 0) ∧ Below w.heap.size w w' := by
  have CM := Lib.hid fun w => pre_may K H S w
  have HB0 := Lib.hid ((Below.refl w.heap.size w).alloc (Nat.le_refl _) (.cells #[.int .i64 K, .int .i64 H, .int .i64 S] 61))
  unfold parV at CM ⊢
  rcases bad_cases h with h1 | ⟨h1, h2⟩ | ⟨h1, h2, h3⟩
  all_goals (
    rw [h1] at CM
    clear h h1
    go_enter Try.func44, Try.ntmps44
    go_wp2_with fail
    generalize w.alloc (.cells #[.int .i64 K, .int .i64 H, .int .i64 S] 61) = w0 at *
    refine (CM.out _).mono ?_
    rintro e w1 ⟨rfl, hb⟩
    have HB := Lib.hid (HB0.out.trans (hb.mono HB0.out.size))
    clear hb CM
    go_wp2_with fail
    go_ret
    exact ⟨rfl, HB.out⟩)
set_option maxRecDepth 100000 in
set_option maxHeartbeats 2000000 in
theorem lt_row_no (K H S s id : Int) (w : World) (h : ¬ (okP K H S ∧ 0 ≤ id ∧ id ≤ 65535)) :
    Calls Try.prog 47 #[parV K H S, .int .u32 s, .int .i64 id] w fun e w' => e = .returned (.slice none 0 0) ∧ Below w.heap.size w w' := by
  have CM := Lib.hid fun w => pre_may K H S w
  have HB0 := Lib.hid ((Below.refl w.heap.size w).alloc (Nat.le_refl _) (.cells #[.int .i64 K, .int .i64 H, .int .i64 S] 61))
  unfold parV at CM ⊢
  rcases bad_cases h with h1 | ⟨h1, h2⟩ | ⟨h1, h2, h3⟩
  all_goals (
    rw [h1] at CM
    clear h h1
    go_enter Try.func47, Try.ntmps47
    go_wp2_with fail
    generalize w.alloc (.cells #[.int .i64 K, .int .i64 H, .int .i64 S] 61) = w0 at *
    refine (CM.out _).mono ?_
    rintro e w1 ⟨rfl, hb⟩
    have HB := Lib.hid (HB0.out.trans (hb.mono HB0.out.size))
    clear hb CM
    go_wp2_with fail
    go_ret
    exact ⟨rfl, HB.out⟩)
theorem ref_mayID (id : Int) (w : World) :
    Calls Try.prog 56 #[.int .i64 id] w fun e w' => e = .returned (.bool (decide (0 ≤ id ∧ id ≤ 65535))) ∧ w = w' := by
  by_cases h1 : 0 ≤ id
  · by_cases h2 : id ≤ 65535
    · have e : decide (0 ≤ id ∧ id ≤ 65535) = true := decide_eq_true ⟨h1, h2⟩
      rw [e]
      clear e
      go_enter Try.func56, Try.ntmps56
      go_wp2_with fail
      go_ret
      exact ⟨rfl, rfl⟩
    · have e : decide (0 ≤ id ∧ id ≤ 65535) = false := decide_eq_false fun h => h2 h.2
      rw [e]
      clear e
      go_enter Try.func56, Try.ntmps56
      go_wp2_with fail
      go_ret
      exact ⟨rfl, rfl⟩
  · have e : decide (0 ≤ id ∧ id ≤ 65535) = false := decide_eq_false fun h => h1 h.1
    rw [e]
    clear e
    go_enter Try.func56, Try.ntmps56
    go_wp2_with fail
    go_ret
    exact ⟨rfl, rfl⟩
theorem bad_ref {K H S id : Int} (h : ¬ (okP K H S ∧ 0 ≤ id ∧ id ≤ 65535)) : okP K H S = false ∨ (okP K H S = true ∧ decide (0 ≤ id ∧ id ≤ 65535) = false) := by
  cases hk : okP K H S with
  | false => exact .inl rfl
  | true => exact .inr ⟨rfl, decide_eq_false fun h1 => h ⟨hk, h1⟩⟩
set_option maxRecDepth 100000 in
set_option maxHeartbeats 2000000 in
theorem ref_at_no (K H S s id : Int) (w : World) (h : ¬ (okP K H S ∧ 0 ≤ id ∧ id ≤ 65535)) :
    Calls Try.prog 45 #[parV K H S, .int .u32 s, .int .i64 id] w fun e w' => e = .returned (.slice none 0 0) ∧ Below w.heap.size w w' := by
  have CM := Lib.hid fun w => ref_may K H S w
  have CI := Lib.hid fun w => ref_mayID id w
  have HB0 := Lib.hid ((Below.refl w.heap.size w).alloc (Nat.le_refl _) (.cells #[.int .i64 K, .int .i64 H, .int .i64 S] 61))
  unfold parV at CM ⊢
  rcases bad_ref h with h1 | ⟨h1, h2⟩
  · rw [h1] at CM
    clear h h1 CI
    go_enter Try.func45, Try.ntmps45
    go_wp2_with fail
    generalize w.alloc (.cells #[.int .i64 K, .int .i64 H, .int .i64 S] 61) = w0 at *
    refine (CM.out _).mono ?_
    rintro e w1 ⟨rfl, hb⟩
    have HB := Lib.hid (HB0.out.trans (hb.mono HB0.out.size))
    clear hb CM
    go_wp2_with fail
    go_ret
    exact ⟨rfl, HB.out⟩
  · rw [h1] at CM
    rw [h2] at CI
    clear h h1 h2
    go_enter Try.func45, Try.ntmps45
    go_wp2_with fail
    generalize w.alloc (.cells #[.int .i64 K, .int .i64 H, .int .i64 S] 61) = w0 at *
    refine (CM.out _).mono ?_
    rintro e w1 ⟨rfl, hb⟩
    have HB := Lib.hid (HB0.out.trans (hb.mono HB0.out.size))
    clear hb CM
    go_wp2_with fail
    refine (CI.out _).mono ?_
    rintro e w2 ⟨rfl, rfl⟩
    go_wp2_with fail
    go_ret
    exact ⟨rfl, HB.out⟩
set_option maxRecDepth 100000 in
set_option maxHeartbeats 2000000 in
theorem ref_row_no (K H S s id : Int) (w : World) (h : ¬ (okP K H S ∧ 0 ≤ id ∧ id ≤ 65535)) :
    Calls Try.prog 48 #[parV K H S, .int .u32 s, .int .i64 id] w fun e w' => e = .returned (.slice none 0 0) ∧ Below w.heap.size w w' := by
  have CM := Lib.hid fun w => ref_may K H S w
  have CI := Lib.hid fun w => ref_mayID id w
  have HB0 := Lib.hid ((Below.refl w.heap.size w).alloc (Nat.le_refl _) (.cells #[.int .i64 K, .int .i64 H, .int .i64 S] 61))
  unfold parV at CM ⊢
  rcases bad_ref h with h1 | ⟨h1, h2⟩
  · rw [h1] at CM
    clear h h1 CI
    go_enter Try.func48, Try.ntmps48
    go_wp2_with fail
    generalize w.alloc (.cells #[.int .i64 K, .int .i64 H, .int .i64 S] 61) = w0 at *
    refine (CM.out _).mono ?_
    rintro e w1 ⟨rfl, hb⟩
    have HB := Lib.hid (HB0.out.trans (hb.mono HB0.out.size))
    clear hb CM
    go_wp2_with fail
    go_ret
    exact ⟨rfl, HB.out⟩
  · rw [h1] at CM
    rw [h2] at CI
    clear h h1 h2
    go_enter Try.func48, Try.ntmps48
    go_wp2_with fail
    generalize w.alloc (.cells #[.int .i64 K, .int .i64 H, .int .i64 S] 61) = w0 at *
    refine (CM.out _).mono ?_
    rintro e w1 ⟨rfl, hb⟩
    have HB := Lib.hid (HB0.out.trans (hb.mono HB0.out.size))
    clear hb CM
    go_wp2_with fail
    refine (CI.out _).mono ?_
    rintro e w2 ⟨rfl, rfl⟩
    go_wp2_with fail
    go_ret
    exact ⟨rfl, HB.out⟩

theorem tab_form {w : World} {C n : Nat} {v : Value} (h : OwnI w C v (tabI n)) (h1 : 1 ≤ n) (h2 : n ≤ 64) : ∃ g c, v = .slice (some ⟨g, 0, none⟩) n c ∧ C ≤ g ∧ g < w.heap.size ∧ Rd w w.heap.size (some ⟨g, 0, none⟩) n (cellsI (tabI n)) ∧ (tabI n).length = n := by
  have hl : (tabI (n : Int)).length = n := by rw [tabI_in ⟨h1, h2⟩, tabN_len]
  obtain ⟨a, c, rfl, hr⟩ := h.rd
  rw [hl] at h hr ⊢
  obtain ⟨g, rfl, hg1, hg2⟩ := h.formA hl (by omega)
  exact ⟨g, c, rfl, hg1, hg2, hr, rfl⟩
set_option maxRecDepth 100000 in
set_option maxHeartbeats 4000000 in
theorem lt_cols_yes (K H S s id : Int) (w : World) (hk : okP K H S = true) (h0 : 0 ≤ id) (h1 : id ≤ 65535) (hs0 : 0 ≤ s) (hs1 : s < 4294967296) :
    Calls Try.prog 44 #[parV K H S, .int .u32 s, .int .i64 id] w fun e w' => ∃ v, e = .returned v ∧ OwnI w' w.heap.size v (ltL (K + H) (nxt (ltS s id))) ∧ Below w.heap.size w w' := by
  obtain ⟨n, hn1, hn2, hn3, hn4⟩ := ok_cols hk
  have CM := Lib.hid fun w => pre_may K H S w
  have HB0 := Lib.hid ((Below.refl w.heap.size w).alloc (Nat.le_refl _) (.cells #[.int .i64 K, .int .i64 H, .int .i64 S] 61))
  have HX0 := Lib.hid (Blk.new w 61 #[.int .i64 K, .int .i64 H, .int .i64 S])
  have CC := Lib.hid fun w => pre_cols K H S w
  rw [hk] at CM
  rw [hn1] at CC
  rw [hn2]
  have hbd := ltS_bd id hs0 hs1
  have hid0 : ¬ id < 0 := by omega
  have hid1 : ¬ 65535 < id := by omega
  have hsd : bits .xor .u32 s (IntKind.u32.wrap (id % 4294967296 * 2654435761)) = ltS s id := rfl
  have hsd2 : bits .xor .u32 s (IntKind.u32.wrap (id * 2654435761)) = ltS s id := by unfold ltS mixI; rw [show id % 4294967296 = id by omega]
  have hsd3 : bits .xor .u32 s (id * 2654435761 % 4294967296) = ltS s id := by unfold ltS mixI; rw [show id % 4294967296 = id by omega, IntKind.wrap_u32]
  unfold parV at CM CC ⊢
  unfold ltL
  have HBD := Lib.hid hbd
  have HN := Lib.hid (And.intro hn3 hn4)
  have hn64 : n ≤ 64 := by omega
  clear hk hn1 hn2 hn3 hn4 hs0 hs1 hbd
  generalize ltS s id = sd at *
  go_enter Try.func44, Try.ntmps44
  go_wp2_with fail
  generalize w.alloc (.cells #[.int .i64 K, .int .i64 H, .int .i64 S] 61) = w0 at *
  refine (CM.out _).mono ?_
  rintro e w1 ⟨rfl, hb⟩
  have HB1 := Lib.hid (HB0.out.trans (hb.mono HB0.out.size))
  have HX1 := Lib.hid (HX0.out.below hb HX0.out.lt)
  obtain ⟨k0, k1, k2⟩ := blkP HX1.out
  clear hb CM HB0 HX0
  go_wp2_with fail
  refine (CC.out _).mono ?_
  rintro e w2 ⟨rfl, hb⟩
  have HB2 := Lib.hid (HB1.out.trans (hb.mono HB1.out.size))
  clear hb CC HB1
  go_wp2_with fail
  refine (draw_new sd w2 HBD.out.1 (by have := HBD.out.2; omega)).mono ?_
  rintro e w3 ⟨rfl, rfl⟩
  have HA3 := Lib.hid (At.new w2 (.int .u64 sd) 74)
  have HB3 := Lib.hid (HB2.out.alloc HB2.out.size (.cells #[.int .u64 sd] 74))
  have hB : w.heap.size ≤ w2.heap.size := HB2.out.size
  clear HB2
  generalize w2.alloc (.cells #[.int .u64 sd] 74) = w3 at *
  generalize w2.heap.size = B at *
  go_wp2_with fail
  refine (draw_next sd ⟨B, 0, none⟩ w3 HA3.out.1 HA3.out.2).mono ?_
  rintro e w4 ⟨rfl, rfl⟩
  have HA4 := Lib.hid (HA3.out.put (.int .u64 (nxt sd)))
  have HB4 := Lib.hid (HB3.out.setCell (p := ⟨B, 0, none⟩) hB (.int .u64 (nxt sd)))
  clear HA3 HB3
  generalize w3.setCell ⟨B, 0, none⟩ (.int .u64 (nxt sd)) = w4 at *
  have hBlt : B < w4.heap.size := HA4.out.lt
  go_wp2_with fail
  refine (sol_table n (by omega) w4).mono ?_
  rintro e w5 ⟨v, rfl, hT, hb5⟩
  obtain ⟨g, c, rfl, hg1, hg2, hr, hl⟩ := tab_form hT (by have := HN.out; omega) (by have := HN.out; omega)
  have HR := Lib.hid hr
  have HL := Lib.hid hl
  have HA5 := Lib.hid (HA4.out.below hb5 hBlt)
  have HB5 := Lib.hid (HB4.out.trans (hb5.mono HB4.out.size))
  have HSM := Lib.hid (tab_small n)
  clear hT hr hl hb5 HA4 HB4 hg2
  go_wp2_with fail
  refine (sol_draw (tabI n) w5.heap.size (some ⟨g, 0, none⟩) n c (nxt sd) ⟨B, 0, none⟩ w5 HR.out HL.out (by omega) HSM.out HA5.out.1 HA5.out.2 (.inr ⟨g, 0, rfl, by show g ≠ B; omega⟩)).mono ?_
  rintro e w6 ⟨rfl, rfl⟩
  have HA6 := Lib.hid (HA5.out.put (.int .u64 (drawS (tabI n) (nxt sd))))
  have HB6 := Lib.hid (HB5.out.setCell (p := ⟨B, 0, none⟩) hB (.int .u64 (drawS (tabI n) (nxt sd))))
  clear HA5 HB5 HR HL
  generalize w5.setCell ⟨B, 0, none⟩ (.int .u64 (drawS (tabI n) (nxt sd))) = w6 at *
  go_wp2_with fail
  refine (cho_any B 0 (drawS (tabI n) (nxt sd)) n (drawV (tabI n) (nxt sd)) w6 HA6.out).mono ?_
  rintro e w7 ⟨v, rfl, hO, hb7⟩
  obtain ⟨a7, c7, rfl⟩ := hO.lenA
  have HO := Lib.hid hO
  have HB7 := Lib.hid (Aft.below HA6.out hb7 HB6.out hB)
  have hsz : w.heap.size ≤ w6.heap.size := HB6.out.size
  clear hO hb7
  go_wp2_with fail
  go_ret
  exact ⟨_, rfl, HO.out.base hsz, HB7.out⟩
set_option maxRecDepth 100000 in
set_option maxHeartbeats 4000000 in
theorem ref_at_yes (K H S s id : Int) (w : World) (hk : okP K H S = true) (h0 : 0 ≤ id) (h1 : id ≤ 65535) (hs0 : 0 ≤ s) (hs1 : s < 4294967296) :
    Calls Try.prog 45 #[parV K H S, .int .u32 s, .int .i64 id] w fun e w' => ∃ v, e = .returned v ∧ OwnI w' w.heap.size v (ltL (K + H) (nxt (ltS s id))) ∧ Below w.heap.size w w' := by
  obtain ⟨n, hn1, hn2, hn3, hn4⟩ := ok_cols hk
  have CM := Lib.hid fun w => ref_may K H S w
  have HB0 := Lib.hid ((Below.refl w.heap.size w).alloc (Nat.le_refl _) (.cells #[.int .i64 K, .int .i64 H, .int .i64 S] 61))
  have HX0 := Lib.hid (Blk.new w 61 #[.int .i64 K, .int .i64 H, .int .i64 S])
  have CC := Lib.hid fun w => ref_cols K H S w
  have CI := Lib.hid fun w => ref_mayID id w
  rw [hk] at CM
  rw [hn1] at CC
  rw [hn2]
  rw [decide_eq_true ⟨h0, h1⟩] at CI
  have hbd := ltS_bd id hs0 hs1
  have hsd : bits .xor .u32 s (IntKind.u32.wrap (id % 4294967296 * 2654435761)) = ltS s id := rfl
  have hsd2 : bits .xor .u32 s (IntKind.u32.wrap (id * 2654435761)) = ltS s id := by unfold ltS mixI; rw [show id % 4294967296 = id by omega]
  have hsd3 : bits .xor .u32 s (id * 2654435761 % 4294967296) = ltS s id := by unfold ltS mixI; rw [show id % 4294967296 = id by omega, IntKind.wrap_u32]
  have hw1 : IntKind.u64.wrap (ltS s id) = ltS s id := by rw [IntKind.wrap_u64]; omega
  have hw2 : ltS s id % 18446744073709551616 = ltS s id := by omega
  unfold parV at CM CC ⊢
  unfold ltL
  have HBD := Lib.hid hbd
  have HN := Lib.hid (And.intro hn3 hn4)
  have hn64 : n ≤ 64 := by omega
  clear hk hn1 hn2 hn3 hn4 hs0 hs1 hbd
  generalize ltS s id = sd at *
  go_enter Try.func45, Try.ntmps45
  go_wp2_with fail
  generalize w.alloc (.cells #[.int .i64 K, .int .i64 H, .int .i64 S] 61) = w0 at *
  refine (CM.out _).mono ?_
  rintro e w1 ⟨rfl, hb⟩
  have HB1 := Lib.hid (HB0.out.trans (hb.mono HB0.out.size))
  have HX1 := Lib.hid (HX0.out.below hb HX0.out.lt)
  obtain ⟨k0, k1, k2⟩ := blkP HX1.out
  clear hb CM HB0 HX0
  go_wp2_with fail
  refine (CI.out _).mono ?_
  rintro e w2 ⟨rfl, rfl⟩
  clear CI
  go_wp2_with fail
  rename World => w2
  have HA3 := Lib.hid (At.new w2 (.int .u64 sd) 34)
  have HB3 := Lib.hid (HB1.out.alloc HB1.out.size (.cells #[.int .u64 sd] 34))
  have hB : w.heap.size ≤ w2.heap.size := HB1.out.size
  have hPB : w.heap.size < w2.heap.size := HX1.out.lt
  have HX3 := Lib.hid (HX1.out.alloc (.cells #[.int .u64 sd] 34))
  clear HB1 k0 k1 k2 HX1
  generalize w2.alloc (.cells #[.int .u64 sd] 34) = w3 at *
  generalize w2.heap.size = B at *
  refine (rdraw_next sd ⟨B, 0, none⟩ w3 HA3.out.1 HA3.out.2).mono ?_
  rintro e w4 ⟨rfl, rfl⟩
  have HA4 := Lib.hid (HA3.out.put (.int .u64 (nxt sd)))
  have HB4 := Lib.hid (HB3.out.setCell (p := ⟨B, 0, none⟩) hB (.int .u64 (nxt sd)))
  have HX4 := Lib.hid (HX3.out.far (p := ⟨B, 0, none⟩) (by show w.heap.size ≠ B; omega) (.int .u64 (nxt sd)))
  clear HA3 HB3 HX3
  generalize w3.setCell ⟨B, 0, none⟩ (.int .u64 (nxt sd)) = w4 at *
  have hBlt : B < w4.heap.size := HA4.out.lt
  obtain ⟨k0, k1, k2⟩ := blkP HX4.out
  go_wp2_with fail
  refine (CC.out _).mono ?_
  rintro e w4b ⟨rfl, hb⟩
  have HA4b := Lib.hid (HA4.out.below hb hBlt)
  have HB4b := Lib.hid (HB4.out.trans (hb.mono HB4.out.size))
  have hBlt := HA4b.out.lt
  have HX4b := Lib.hid (HX4.out.below hb HX4.out.lt)
  clear HA4 HB4 hb HX4 k0 k1 k2
  go_wp2_with fail
  refine (ref_table n (by omega) w4b).mono ?_
  rintro e w5 ⟨v, rfl, hT, hb5⟩
  obtain ⟨g, c, rfl, hg1, hg2, hr, hl⟩ := tab_form hT (by have := HN.out; omega) (by have := HN.out; omega)
  have HR := Lib.hid hr
  have HL := Lib.hid hl
  have HA5 := Lib.hid (HA4b.out.below hb5 hBlt)
  have HB5 := Lib.hid (HB4b.out.trans (hb5.mono HB4b.out.size))
  have HSM := Lib.hid (tab_small n)
  have HDT := Lib.hid (draw_tab n (nxt sd))
  have HX5 := Lib.hid (HX4b.out.below hb5 HX4b.out.lt)
  clear hT hr hl hb5 HA4b HB4b hg2 HX4b
  go_wp2_with fail
  refine (ref_drawDegree (tabI n) w5.heap.size (some ⟨g, 0, none⟩) n c (nxt sd) ⟨B, 0, none⟩ w5 HR.out HL.out (by omega) HSM.out HA5.out.1 HA5.out.2 (.inr ⟨g, 0, rfl, by show g ≠ B; omega⟩)).mono ?_
  rintro e w6 ⟨rfl, rfl⟩
  rw [← HDT.out]
  have HA6 := Lib.hid (HA5.out.put (.int .u64 (drawS (tabI n) (nxt sd))))
  have HB6 := Lib.hid (HB5.out.setCell (p := ⟨B, 0, none⟩) hB (.int .u64 (drawS (tabI n) (nxt sd))))
  have HX6 := Lib.hid (HX5.out.far (p := ⟨B, 0, none⟩) (by show w.heap.size ≠ B; omega) (.int .u64 (drawS (tabI n) (nxt sd))))
  obtain ⟨k0, k1, k2⟩ := blkP HX6.out
  clear HA5 HB5 HR HL HX5
  generalize w5.setCell ⟨B, 0, none⟩ (.int .u64 (drawS (tabI n) (nxt sd))) = w6 at *
  clear HDT HSM
  go_wp2_with fail
  refine (CC.out _).mono ?_
  rintro e w6b ⟨rfl, hb⟩
  have HA6b := Lib.hid (HA6.out.below hb HA6.out.lt)
  have HB6b := Lib.hid (HB6.out.trans (hb.mono HB6.out.size))
  clear HA6 HB6 hb
  go_wp2_with fail
  refine (ref_any B 0 (drawS (tabI n) (nxt sd)) n (drawV (tabI n) (nxt sd)) w6b HA6b.out).mono ?_
  rintro e w7 ⟨v, rfl, hO, hb7⟩
  obtain ⟨a7, c7, rfl⟩ := hO.lenA
  have HO := Lib.hid hO
  have HB7 := Lib.hid (Aft.below HA6b.out hb7 HB6b.out hB)
  have hsz : w.heap.size ≤ w6b.heap.size := HB6b.out.size
  clear hO hb7
  go_wp2_with fail
  go_ret
  exact ⟨_, rfl, HO.out.base hsz, HB7.out⟩

/-- Both, of anything. -/
theorem lt_cols (K H S s id : Int) (w : World) (hs0 : 0 ≤ s) (hs1 : s < 4294967296) :
    Calls Try.prog 44 #[parV K H S, .int .u32 s, .int .i64 id] w fun e w' => ∃ v, e = .returned v ∧ OwnI w' w.heap.size v (colL K H S s id) ∧ Below w.heap.size w w' := by
  by_cases h : okP K H S ∧ 0 ≤ id ∧ id ≤ 65535
  · have e : colL K H S s id = ltL (K + H) (nxt (ltS s id)) := by unfold colL; rw [if_pos h]
    rw [e]
    exact lt_cols_yes K H S s id w h.1 h.2.1 h.2.2 hs0 hs1
  · rw [colL_no h]
    exact (lt_cols_no K H S s id w h).mono fun e w' ⟨h1, h2⟩ => ⟨_, h1, OwnI.nil _ _, h2⟩
theorem ref_at (K H S s id : Int) (w : World) (hs0 : 0 ≤ s) (hs1 : s < 4294967296) :
    Calls Try.prog 45 #[parV K H S, .int .u32 s, .int .i64 id] w fun e w' => ∃ v, e = .returned v ∧ OwnI w' w.heap.size v (colL K H S s id) ∧ Below w.heap.size w w' := by
  by_cases h : okP K H S ∧ 0 ≤ id ∧ id ≤ 65535
  · have e : colL K H S s id = ltL (K + H) (nxt (ltS s id)) := by unfold colL; rw [if_pos h]
    rw [e]
    exact ref_at_yes K H S s id w h.1 h.2.1 h.2.2 hs0 hs1
  · rw [colL_no h]
    exact (ref_at_no K H S s id w h).mono fun e w' ⟨h1, h2⟩ => ⟨_, h1, OwnI.nil _ _, h2⟩
set_option maxRecDepth 100000 in
set_option maxHeartbeats 1000000 in
theorem keep_memberD (l : List Nat) (x n : Nat) (B : Nat) (a : Option Addr) (c : Nat) (w : World) (hr : Rd w B a n (cellsI l)) (hn : l.length = n) (hl : n ≤ 1000000) (hb : ∀ y ∈ l, y ≤ 1000000) (hx : x ≤ 1000000) :
    Calls Try.prog 42 #[.slice a n c, .int .i64 x] w fun e w' => e = .returned (.bool (decide (x ∈ l))) ∧ ∃ j, w' = w.drewN j := by
  have HR := Lib.hid hr
  have HN := Lib.hid hn
  have HBB := Lib.hid hb
  clear hr hn hb
  go_enter Try.func42, Try.ntmps42
  go_wp2_with fail
  go_loopw [5, 8] (fun _ i wr => ∃ k : Nat, k ≤ n ∧ i = .int .i64 k ∧ Hid (x ∉ l.take k) ∧ Hid (∃ j, wr = w.drewN j)) (fun _ i _ => n - (intOf i).toNat)
  case atStart => exact ⟨0, by omega, rfl, Lib.hid (by simp), Lib.hid ⟨0, rfl⟩⟩
  case round =>
    obtain ⟨k, hk, rfl, HX, HJ⟩ := hrel
    obtain ⟨j, hj⟩ := HJ.out
    clear HJ
    by_cases hkn : k < n
    · have hkl : k < l.length := by rw [HN.out]; exact hkn
      obtain ⟨bx, ox, rfl, _, hcx⟩ := HR.out.2 (by omega)
      have cx : wr.cell? ⟨bx, ox + k, none⟩ = some (.int .i64 (l.getD k 0 : Nat)) := by rw [hj]; exact hcx k _ (cellsI_get hkl)
      have hmem : l.getD k 0 ∈ l := by rw [getD_at hkl]; exact List.getElem_mem hkl
      have HMEM := Lib.hid hmem
      have hye := HBB.out _ hmem
      have HTK : Hid (l.take (k + 1) = l.take k ++ [l.getD k 0]) := Lib.hid (by rw [List.take_succ_eq_append_getElem hkl, getD_at hkl])
      clear hcx hkl hmem
      generalize l.getD k 0 = y at *
      have hlt' : (k : Int) < (n : Int) := by omega
      have HJ := Lib.hid hj
      clear hj
      by_cases hyx : y = x
      · subst hyx
        go_wp2_with fail
        go_ret
        exact ⟨by rw [decide_eq_true HMEM.out]; rfl, j, HJ.out⟩
      · have hyI : ((y : Int) == (x : Int)) = false := by simp; omega
        have hyI2 : ¬ (y : Int) = (x : Int) := by omega
        have HX2 : Hid (x ∉ l.take (k + 1)) := Lib.hid (by rw [HTK.out, List.mem_append]; exact fun h => h.elim HX.out fun h => hyx (List.mem_singleton.1 h).symm)
        go_wp2_with fail
        go_roundw
        case rel => exact ⟨k + 1, by omega, by go_num, HX2, Lib.hid ⟨j, HJ.out⟩⟩
        case measure => simp [intOf]; omega
    · obtain rfl : k = n := by omega
      have HX2 : Hid (x ∉ l) := Lib.hid (by have := HX.out; rwa [List.take_of_length_le (by rw [HN.out]; exact Nat.le_refl _)] at this)
      have HJ := Lib.hid hj
      clear hj
      go_wp2_with fail
      go_ret
      exact ⟨by rw [decide_eq_false HX2.out]; rfl, j, HJ.out⟩
theorem infoY : (Try.prog.info? 5).map (fun i => (i.zero, i.size, i.bytes)) = some (some (.int .u8 0), 1, 1) := by kernel_rfl
theorem make_Y {n : Nat} (hn : n ≤ 1000000) (w : World) : (Instr.makeSlice 66 (.int .i64 (n : Int)) (.int .i64 (n : Int))).run Try.prog w = .ok (.slice (some ⟨w.heap.size, 0, none⟩) n n) (w.alloc (.cells (rowY (List.replicate n 0)) 5)) := by
  obtain ⟨i0, hi, hz0, hz1, hz2⟩ := info_parts infoY
  have h := run_make (P := Try.prog) w 66 5 i0 (.int .u8 0) Try.underlying66 hi hz0 .i64 .i64 (n : Int) (n : Int) (by omega) (by omega) (by rw [hz2]; omega) (by omega)
  rw [hz1, Nat.mul_one, Int.toNat_natCast] at h
  rw [← made_Y]
  exact h
theorem OwnI.far {w : World} {C : Nat} {v : Value} {l : List Nat} (h : OwnI w C v l) {B : Nat} (hB : B < C) (i : Nat) (u : Value) : OwnI (w.setCell ⟨B, i, none⟩ u) C v l := by
  have hg : w.grownBy (w.setCell ⟨B, i, none⟩ u) (some B) := ⟨rfl, rfl, rfl, by simp, fun k _ hk => heap_setCell_other w ⟨B, i, none⟩ k u (fun e => hk (by rw [e]))⟩
  refine World.ownsRow.kept h hg ?_
  cases hv : v.ownBlock with
  | none => exact .inl rfl
  | some b =>
    right
    intro e
    have := (OwnI.ltA h b hv).1
    injection e with e
    omega

set_option maxRecDepth 100000 in
set_option maxHeartbeats 4000000 in
theorem lt_row_yes (K H S s id : Int) (w : World) (hk : okP K H S = true) (h0 : 0 ≤ id) (h1 : id ≤ 65535) (hs0 : 0 ≤ s) (hs1 : s < 4294967296) :
    Calls Try.prog 47 #[parV K H S, .int .u32 s, .int .i64 id] w fun e w' => ∃ g n, e = .returned (.slice (some ⟨g, 0, none⟩) n n) ∧ Blk w' g 5 (rowY (onL (K + H).toNat (ltL (K + H) (nxt (ltS s id))))) ∧ (K + H).toNat = n ∧ Below w.heap.size w w' := by
  obtain ⟨n, hn1, hn2, hn3, hn4⟩ := ok_cols hk
  have CM := Lib.hid fun w => pre_may K H S w
  have HB0 := Lib.hid ((Below.refl w.heap.size w).alloc (Nat.le_refl _) (.cells #[.int .i64 K, .int .i64 H, .int .i64 S] 61))
  have HX0 := Lib.hid (Blk.new w 61 #[.int .i64 K, .int .i64 H, .int .i64 S])
  have CC := Lib.hid fun w => pre_cols K H S w
  have CL := Lib.hid fun w => lt_cols_yes K H S s id w hk h0 h1 hs0 hs1
  rw [hk] at CM
  rw [hn1] at CC
  rw [hn2] at CL ⊢
  rw [Int.toNat_natCast]
  have hn64 : n ≤ 64 := by omega
  obtain ⟨-, hlt, -⟩ := ltL_in (n := n) (by omega) hn64 (nxt (ltS s id))
  have hll := ltL_len n (nxt (ltS s id))
  have hid0 : ¬ id < 0 := by omega
  have hid1 : ¬ 65535 < id := by omega
  have hmk := make_Y (n := n) (by omega)
  unfold parV at CM CC CL ⊢
  have HLT := Lib.hid hlt
  clear hk hn1 hn2 hn3 hn4 hs0 hs1 hlt
  generalize ltL (n : Int) (nxt (ltS s id)) = L at *
  obtain ⟨q, hq⟩ : ∃ q, L.length = q := ⟨_, rfl⟩
  have HQ := Lib.hid hq
  rw [hq] at hll
  clear hq
  go_enter Try.func47, Try.ntmps47
  go_wp2_with fail
  generalize w.alloc (.cells #[.int .i64 K, .int .i64 H, .int .i64 S] 61) = w0 at *
  refine (CM.out _).mono ?_
  rintro e w1 ⟨rfl, hb⟩
  have HB1 := Lib.hid (HB0.out.trans (hb.mono HB0.out.size))
  have HX1 := Lib.hid (HX0.out.below hb HX0.out.lt)
  obtain ⟨k0, k1, k2⟩ := blkP HX1.out
  clear hb CM HB0 HX0
  go_wp2_with fail
  refine (CC.out _).mono ?_
  rintro e w2 ⟨rfl, hb⟩
  have HB2 := Lib.hid (HB1.out.trans (hb.mono HB1.out.size))
  have HX2 := Lib.hid (HX1.out.below hb HX1.out.lt)
  clear hb CC HB1 k0 k1 k2
  obtain ⟨k0, k1, k2⟩ := blkP HX2.out
  obtain ⟨m0, m1, m2⟩ := blkP (HX2.out.alloc (.cells (rowY (List.replicate n 0)) 5))
  go_wp2_with (simp only [hmk])
  have HK3 : Hid (Blk (w2.alloc (.cells (rowY (List.replicate n 0)) 5)) w2.heap.size 5 (rowY (onL n (L.take 0)))) := Lib.hid (Blk.new w2 5 (rowY (List.replicate n 0)))
  have HB3 := Lib.hid (HB2.out.alloc HB2.out.size (.cells (rowY (List.replicate n 0)) 5))
  have hB : w.heap.size ≤ w2.heap.size := HB2.out.size
  clear HB2 hmk k0 k1 k2 m0 m1 m2
  generalize w2.alloc (.cells (rowY (List.replicate n 0)) 5) = w3 at *
  generalize w2.heap.size = B at *
  have hBlt : B < w3.heap.size := HK3.out.lt
  refine (CL.out w3).mono ?_
  rintro e w4 ⟨v, rfl, hO, hb⟩
  obtain ⟨aL, cL, rfl⟩ := hO.lenA
  rw [HQ.out] at hO ⊢
  have HO4 := Lib.hid hO
  have HK4 := Lib.hid (HK3.out.below hb hBlt)
  have HB4 := Lib.hid (HB3.out.trans (hb.mono HB3.out.size))
  generalize w3.heap.size = C at *
  clear hO hb HK3 HB3 CL
  generalize hG : w.heap.size = G at *
  have HG := Lib.hid hG
  clear hG
  go_wp2_with fail
  go_loopw [29] (fun i wr => ∃ k : Nat, k ≤ q ∧ i = .int .i64 k ∧ Hid (Blk wr B 5 (rowY (onL n (L.take k)))) ∧ Hid (OwnI wr C (.slice aL q cL) L) ∧ Hid (Below G w wr)) (fun i _ => q - (intOf i).toNat)
  case atStart => exact ⟨0, by omega, rfl, HK4, HO4, HB4⟩
  case round =>
    clear HK4 HO4 HB4
    obtain ⟨k, hk, rfl, HK, HO, HB⟩ := hrel
    by_cases hkq : k < q
    · have hkqI : (k : Int) < (q : Int) := by omega
      have hkL : k < L.length := by rw [HQ.out]; exact hkq
      obtain ⟨g, rfl, hg1, hg2⟩ := HO.out.formA HQ.out (by omega)
      obtain ⟨hcx, -⟩ := HO.out.cellA HQ.out hkq
      have hxn : L.getD k 0 < n := HLT.out _ (by rw [getD_at hkL]; exact List.getElem_mem hkL)
      have HTK : Hid (onL n (L.take (k + 1)) = (onL n (L.take k)).set (L.getD k 0) 1) := Lib.hid (by rw [List.take_succ_eq_append_getElem hkL, onL_snoc, getD_at hkL])
      have hlen := onL_len n (L.take k)
      generalize hX : L.getD k 0 = x at *
      clear hX
      have hcell : wr.cell? ⟨B, x, none⟩ = some (.int .u8 ((onL n (L.take k)).getD x 0 : Nat)) := by
        rw [HK.out.cell x]
        have := cellsY_get (l := onL n (L.take k)) (i := x) (by rw [hlen]; exact hxn)
        simpa [rowY] using this
      have hfr := HK.out.frozen x
      have hst := HK.out.set x (.int .u8 ((1 : Nat) : Int))
      rw [rowY_set, ← HTK.out] at hst
      have HK2 : Hid (Blk (wr.setCell ⟨B, x, none⟩ (.int .u8 1)) B 5 (rowY (onL n (L.take (k + 1))))) := Lib.hid hst
      have HO2 : Hid (OwnI (wr.setCell ⟨B, x, none⟩ (.int .u8 1)) C (.slice (some ⟨g, 0, none⟩) q cL) L) := Lib.hid (HO.out.far hBlt x (.int .u8 1))
      have HB2 : Hid (Below G w (wr.setCell ⟨B, x, none⟩ (.int .u8 1))) := Lib.hid (HB.out.setCell (p := ⟨B, x, none⟩) hB _)
      have hxnI : (x : Int) < (n : Int) := by omega
      clear hst HTK hlen HK HO HB hkL
      generalize (onL n (L.take k)).getD x 0 = y at *
      go_wp2_with fail
      go_roundw
      case rel => first | exact ⟨k + 1, by omega, by go_num, HK2, HO2, HB2⟩ | ((repeat apply Exists.intro); exact ⟨⟨k + 1, by omega, by go_num, HK2, HO2, HB2⟩, rfl⟩)
      case measure => simp [intOf]; omega
    · obtain rfl : k = q := by omega
      rw [List.take_of_length_le (by rw [HQ.out]; exact Nat.le_refl _)] at HK
      go_wp2_with fail
      go_ret
      exact ⟨_, _, rfl, HK.out, rfl, by rw [HG.out]; exact HB.out⟩

set_option maxRecDepth 100000 in
set_option maxHeartbeats 4000000 in
theorem ref_row_yes (K H S s id : Int) (w : World) (hk : okP K H S = true) (h0 : 0 ≤ id) (h1 : id ≤ 65535) (hs0 : 0 ≤ s) (hs1 : s < 4294967296) :
    Calls Try.prog 48 #[parV K H S, .int .u32 s, .int .i64 id] w fun e w' => ∃ g n, e = .returned (.slice (some ⟨g, 0, none⟩) n n) ∧ Blk w' g 5 (rowY (onL (K + H).toNat (ltL (K + H) (nxt (ltS s id))))) ∧ (K + H).toNat = n ∧ Below w.heap.size w w' := by
  obtain ⟨n, hn1, hn2, hn3, hn4⟩ := ok_cols hk
  have CM := Lib.hid fun w => ref_may K H S w
  have HB0 := Lib.hid ((Below.refl w.heap.size w).alloc (Nat.le_refl _) (.cells #[.int .i64 K, .int .i64 H, .int .i64 S] 61))
  have HX0 := Lib.hid (Blk.new w 61 #[.int .i64 K, .int .i64 H, .int .i64 S])
  have CC := Lib.hid fun w => ref_cols K H S w
  have CL := Lib.hid fun w => ref_at_yes K H S s id w hk h0 h1 hs0 hs1
  have CI := Lib.hid fun w => ref_mayID id w
  rw [decide_eq_true ⟨h0, h1⟩] at CI
  rw [hk] at CM
  rw [hn1] at CC
  rw [hn2] at CL ⊢
  rw [Int.toNat_natCast]
  have hn64 : n ≤ 64 := by omega
  obtain ⟨-, hlt, -⟩ := ltL_in (n := n) (by omega) hn64 (nxt (ltS s id))
  have hll := ltL_len n (nxt (ltS s id))
  have hid0 : ¬ id < 0 := by omega
  have hid1 : ¬ 65535 < id := by omega
  have hmk := make_Y (n := n) (by omega)
  unfold parV at CM CC CL ⊢
  have HLT := Lib.hid hlt
  clear hk hn1 hn2 hn3 hn4 hs0 hs1 hlt
  generalize ltL (n : Int) (nxt (ltS s id)) = L at *
  obtain ⟨q, hq⟩ : ∃ q, L.length = q := ⟨_, rfl⟩
  have HQ := Lib.hid hq
  rw [hq] at hll
  clear hq
  go_enter Try.func48, Try.ntmps48
  go_wp2_with fail
  generalize w.alloc (.cells #[.int .i64 K, .int .i64 H, .int .i64 S] 61) = w0 at *
  refine (CM.out _).mono ?_
  rintro e w1 ⟨rfl, hb⟩
  have HB1 := Lib.hid (HB0.out.trans (hb.mono HB0.out.size))
  have HX1 := Lib.hid (HX0.out.below hb HX0.out.lt)
  obtain ⟨k0, k1, k2⟩ := blkP HX1.out
  clear hb CM HB0 HX0
  go_wp2_with fail
  refine (CI.out _).mono ?_
  rintro e w1b ⟨rfl, rfl⟩
  clear CI
  go_wp2_with fail
  refine (CC.out _).mono ?_
  rintro e w2 ⟨rfl, hb⟩
  have HB2 := Lib.hid (HB1.out.trans (hb.mono HB1.out.size))
  have HX2 := Lib.hid (HX1.out.below hb HX1.out.lt)
  clear hb CC HB1 k0 k1 k2
  obtain ⟨k0, k1, k2⟩ := blkP HX2.out
  obtain ⟨m0, m1, m2⟩ := blkP (HX2.out.alloc (.cells (rowY (List.replicate n 0)) 5))
  go_wp2_with (simp only [hmk])
  have HK3 : Hid (Blk (w2.alloc (.cells (rowY (List.replicate n 0)) 5)) w2.heap.size 5 (rowY (onL n (L.take 0)))) := Lib.hid (Blk.new w2 5 (rowY (List.replicate n 0)))
  have HB3 := Lib.hid (HB2.out.alloc HB2.out.size (.cells (rowY (List.replicate n 0)) 5))
  have hB : w.heap.size ≤ w2.heap.size := HB2.out.size
  clear HB2 hmk k0 k1 k2 m0 m1 m2
  generalize w2.alloc (.cells (rowY (List.replicate n 0)) 5) = w3 at *
  generalize w2.heap.size = B at *
  have hBlt : B < w3.heap.size := HK3.out.lt
  refine (CL.out w3).mono ?_
  rintro e w4 ⟨v, rfl, hO, hb⟩
  obtain ⟨aL, cL, rfl⟩ := hO.lenA
  rw [HQ.out] at hO ⊢
  have HO4 := Lib.hid hO
  have HK4 := Lib.hid (HK3.out.below hb hBlt)
  have HB4 := Lib.hid (HB3.out.trans (hb.mono HB3.out.size))
  generalize w3.heap.size = C at *
  clear hO hb HK3 HB3 CL
  generalize hG : w.heap.size = G at *
  have HG := Lib.hid hG
  clear hG
  go_wp2_with fail
  go_loopw [26] (fun i wr => ∃ k : Nat, k ≤ q ∧ i = .int .i64 k ∧ Hid (Blk wr B 5 (rowY (onL n (L.take k)))) ∧ Hid (OwnI wr C (.slice aL q cL) L) ∧ Hid (Below G w wr)) (fun i _ => q - (intOf i).toNat)
  case atStart => exact ⟨0, by omega, rfl, HK4, HO4, HB4⟩
  case round =>
    clear HK4 HO4 HB4
    obtain ⟨k, hk, rfl, HK, HO, HB⟩ := hrel
    by_cases hkq : k < q
    · have hkqI : (k : Int) < (q : Int) := by omega
      have hkL : k < L.length := by rw [HQ.out]; exact hkq
      obtain ⟨g, rfl, hg1, hg2⟩ := HO.out.formA HQ.out (by omega)
      obtain ⟨hcx, -⟩ := HO.out.cellA HQ.out hkq
      have hxn : L.getD k 0 < n := HLT.out _ (by rw [getD_at hkL]; exact List.getElem_mem hkL)
      have HTK : Hid (onL n (L.take (k + 1)) = (onL n (L.take k)).set (L.getD k 0) 1) := Lib.hid (by rw [List.take_succ_eq_append_getElem hkL, onL_snoc, getD_at hkL])
      have hlen := onL_len n (L.take k)
      generalize hX : L.getD k 0 = x at *
      clear hX
      have hcell : wr.cell? ⟨B, x, none⟩ = some (.int .u8 ((onL n (L.take k)).getD x 0 : Nat)) := by
        rw [HK.out.cell x]
        have := cellsY_get (l := onL n (L.take k)) (i := x) (by rw [hlen]; exact hxn)
        simpa [rowY] using this
      have hfr := HK.out.frozen x
      have hst := HK.out.set x (.int .u8 ((1 : Nat) : Int))
      rw [rowY_set, ← HTK.out] at hst
      have HK2 : Hid (Blk (wr.setCell ⟨B, x, none⟩ (.int .u8 1)) B 5 (rowY (onL n (L.take (k + 1))))) := Lib.hid hst
      have HO2 : Hid (OwnI (wr.setCell ⟨B, x, none⟩ (.int .u8 1)) C (.slice (some ⟨g, 0, none⟩) q cL) L) := Lib.hid (HO.out.far hBlt x (.int .u8 1))
      have HB2 : Hid (Below G w (wr.setCell ⟨B, x, none⟩ (.int .u8 1))) := Lib.hid (HB.out.setCell (p := ⟨B, x, none⟩) hB _)
      have hxnI : (x : Int) < (n : Int) := by omega
      clear hst HTK hlen HK HO HB hkL
      generalize (onL n (L.take k)).getD x 0 = y at *
      go_wp2_with fail
      go_roundw
      case rel => first | exact ⟨k + 1, by omega, by go_num, HK2, HO2, HB2⟩ | ((repeat apply Exists.intro); exact ⟨⟨k + 1, by omega, by go_num, HK2, HO2, HB2⟩, rfl⟩)
      case measure => simp [intOf]; omega
    · obtain rfl : k = q := by omega
      rw [List.take_of_length_le (by rw [HQ.out]; exact Nat.le_refl _)] at HK
      go_wp2_with fail
      go_ret
      exact ⟨_, _, rfl, HK.out, rfl, by rw [HG.out]; exact HB.out⟩
theorem lt_row (K H S s id : Int) (w : World) (hs0 : 0 ≤ s) (hs1 : s < 4294967296) :
    Calls Try.prog 47 #[parV K H S, .int .u32 s, .int .i64 id] w fun e w' => ∃ a c, e = .returned (.slice a (rowL K H S s id).length c) ∧ Rd w' w'.heap.size a (rowL K H S s id).length (cellsY (rowL K H S s id)) ∧ Below w.heap.size w w' := by
  by_cases h : okP K H S ∧ 0 ≤ id ∧ id ≤ 65535
  · have e : rowL K H S s id = onL (K + H).toNat (ltL (K + H) (nxt (ltS s id))) := by unfold rowL; rw [if_pos h]
    rw [e]
    refine (lt_row_yes K H S s id w h.1 h.2.1 h.2.2 hs0 hs1).mono fun e w' ⟨g, n, h1, h2, h3, h4⟩ => ⟨some ⟨g, 0, none⟩, n, ?_, rd_blkY h2, h4⟩
    rw [h1, onL_len, h3]
  · rw [rowL_no h]
    exact (lt_row_no K H S s id w h).mono fun e w' ⟨h1, h2⟩ => ⟨none, 0, h1, rd_nil _ _ _, h2⟩
theorem ref_row (K H S s id : Int) (w : World) (hs0 : 0 ≤ s) (hs1 : s < 4294967296) :
    Calls Try.prog 48 #[parV K H S, .int .u32 s, .int .i64 id] w fun e w' => ∃ a c, e = .returned (.slice a (rowL K H S s id).length c) ∧ Rd w' w'.heap.size a (rowL K H S s id).length (cellsY (rowL K H S s id)) ∧ Below w.heap.size w w' := by
  by_cases h : okP K H S ∧ 0 ≤ id ∧ id ≤ 65535
  · have e : rowL K H S s id = onL (K + H).toNat (ltL (K + H) (nxt (ltS s id))) := by unfold rowL; rw [if_pos h]
    rw [e]
    refine (ref_row_yes K H S s id w h.1 h.2.1 h.2.2 hs0 hs1).mono fun e w' ⟨g, n, h1, h2, h3, h4⟩ => ⟨some ⟨g, 0, none⟩, n, ?_, rd_blkY h2, h4⟩
    rw [h1, onL_len, h3]
  · rw [rowL_no h]
    exact (ref_row_no K H S s id w h).mono fun e w' ⟨h1, h2⟩ => ⟨none, 0, h1, rd_nil _ _ _, h2⟩
end Go.Proofs.Ytiaoegdpofpneaa
