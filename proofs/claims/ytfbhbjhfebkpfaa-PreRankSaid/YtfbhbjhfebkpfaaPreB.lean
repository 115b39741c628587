/- The rows ahead: Rows of the package pre, Ahead of the document. -/
import Derived.Test.YtfbhbjhfebkpfaaPre
import Derived.Test.YtfbhbjhfebkpfaaMatE
namespace Go.Proofs.Ytfbhbjhfebkpfaa
open Go.RowKit
set_option linter.unusedVariables false

/-- The row with its 1 at k, and j of the powers. -/
def rowJ (n k h : Nat) : Nat → List Nat
  | 0 => eRow n k
  | j + 1 => (rowJ n k h j).set j (ex ((h + 1) * (j + 1)))
/-- The row of noughts, and j of the powers. -/
def refJ (n h : Nat) : Nat → List Nat
  | 0 => List.replicate n 0
  | j + 1 => (refJ n h j).set j (ex ((h + 1) * (j + 1)))
def aheadR (K H : Nat) : Nat → List (List Nat)
  | 0 => []
  | r + 1 => aheadR K H r ++ [rowJ (K + H) (K + r) r K]
theorem rowJ_len (n k h j : Nat) : (rowJ n k h j).length = n := by
  induction j with
  | zero => exact eRow_len _ _
  | succ j ih => rw [rowJ, List.length_set]; exact ih
theorem refJ_len (n h j : Nat) : (refJ n h j).length = n := by
  induction j with
  | zero => exact List.length_replicate ..
  | succ j ih => rw [refJ, List.length_set]; exact ih
theorem rowJ_by (n k h j : Nat) : By (rowJ n k h j) := by
  induction j with
  | zero => exact eRow_by _ _
  | succ j ih =>
    intro x hx
    rcases List.mem_or_eq_of_mem_set hx with h1 | h1
    · exact ih x h1
    · subst h1; exact (ex_bd _).2
theorem rowJ_ref (n k h j : Nat) (hj : j ≤ k) : rowJ n k h j = (refJ n h j).set k 1 := by
  induction j with
  | zero => rfl
  | succ j ih => rw [rowJ, refJ, ih (by omega), List.set_comm _ _ (by omega)]
theorem aheadR_len (K H r : Nat) : (aheadR K H r).length = r := by
  induction r with
  | zero => rfl
  | succ r ih => rw [aheadR, List.length_append, ih]; rfl
theorem rowJ_wf (K H r j : Nat) : (rowJ (K + H) (K + r) r j).length = K + H ∧ By (rowJ (K + H) (K + r) r j) := ⟨rowJ_len _ _ _ _, rowJ_by _ _ _ _⟩
theorem aheadR_get (K H r : Nat) {i : Nat} (hi : i < r) : (aheadR K H r).getD i [] = rowJ (K + H) (K + i) i K := by
  induction r with
  | zero => omega
  | succ r ih =>
    rw [aheadR, List.getD_eq_getElem?_getD, List.getElem?_append, aheadR_len]
    by_cases h : i < r
    · rw [if_pos h, ← List.getD_eq_getElem?_getD]; exact ih h
    · obtain rfl : i = r := by omega
      simp
theorem aheadR_wf (K H r : Nat) : Wf (K + H) (aheadR K H r) := by
  induction r with
  | zero => intro l hl; simp [aheadR] at hl
  | succ r ih =>
    intro l hl
    rw [aheadR, List.mem_append] at hl
    rcases hl with h | h
    · exact ih l h
    · rw [List.mem_singleton] at h; subst h; exact rowJ_wf _ _ _ _
theorem exI_nat (n : Nat) (h : n < 255) : exI (n : Int) = ex n := by
  unfold exI
  have : ((n : Int) % 255).toNat = n := by omega
  rw [this]
theorem blk3 {w : World} {g : Nat} {t : TypeId} {x y z : Value} (h : Blk w g t #[x, y, z]) : w.cell? ⟨g, 0, none⟩ = some x ∧ w.cell? ⟨g, 1, none⟩ = some y ∧ w.cell? ⟨g, 2, none⟩ = some z := ⟨h.cell 0, h.cell 1, h.cell 2⟩

theorem pre_cols_box (K H : Nat) (S : Int) (hK : 1 ≤ K ∧ K ≤ 16) (hH : 1 ≤ H ∧ H ≤ 4) (hS : 1 ≤ S ∧ S ≤ 24) (N : Nat) (hN : K + H = N) (G : Nat) (cs : Array Value) (w : World) (hx : Blk w G 40 cs) :
    Calls Try.prog 40 #[.agg #[.int .i64 K, .int .i64 H, .int .i64 S]] w fun e w' => e = .returned (.int .i64 N) ∧ Blk w' G 40 cs ∧ Below w.heap.size w w' := by
  have hok : okP K H S = true := okP_yes (by omega)
  have hc : colsI K H S = (N : Nat) := by unfold colsI; rw [if_pos hok]; omega
  have h := pre_cols K H S w
  rw [hc] at h
  exact h.mono fun e w' ⟨h1, h2⟩ => ⟨h1, hx.below h2 hx.lt, h2⟩
theorem row_unit_box (n k : Nat) (G : Nat) (t : TypeId) (cs : Array Value) (w : World) (hx : Blk w G t cs) (hn : n ≤ 64) (hk : k < n) :
    Calls Try.prog 61 #[.int .i64 n, .int .i64 k] w fun e w' => ∃ g cap, e = .returned (.slice (some ⟨g, 0, none⟩) n cap) ∧ w.heap.size ≤ g ∧ OwnB w' w.heap.size (.slice (some ⟨g, 0, none⟩) n cap) (eRow n k) ∧ Blk w' G t cs ∧ Below w.heap.size w w' :=
  (row_unit n k w hn hk).mono fun e w' ⟨v, h1, h2, h3⟩ => by
    obtain ⟨g, cap, h4, h5, h6⟩ := OwnB.form h2 (by rw [eRow_len]; omega)
    rw [eRow_len] at h4
    subst h4
    exact ⟨g, cap, h1, h5, h2, hx.below h3 hx.lt, h3⟩

set_option maxRecDepth 100000 in
set_option maxHeartbeats 4000000 in
theorem pre_rows_no (K H S : Int) (w : World) (hno : okP K H S = false) :
    Calls Try.prog 43 #[parV K H S] w fun e w' => e = .returned (.slice none 0 0) ∧ Below w.heap.size w w' := by
  have hb := (Below.refl w.heap.size w).alloc (Nat.le_refl _) (.cells #[.int .i64 K, .int .i64 H, .int .i64 S] 40)
  have hs : w.heap.size < (w.alloc (.cells #[.int .i64 K, .int .i64 H, .int .i64 S] 40)).heap.size := by simp
  have HB := Lib.hid hb
  have CM := Lib.hid fun w => pre_may K H S w
  rw [hno] at CM
  clear hb hno
  unfold parV at CM ⊢
  go_enter Try.func43, Try.ntmps43
  go_wp2_with fail
  generalize w.alloc (.cells #[.int .i64 K, .int .i64 H, .int .i64 S] 40) = w1 at *
  refine (CM.out _).mono ?_
  rintro e w2 ⟨rfl, hb2⟩
  have HB2 := Lib.hid (HB.out.trans (hb2.mono (Nat.le_of_lt hs)))
  clear hb2
  go_wp2_with fail
  go_ret
  exact ⟨rfl, HB2.out⟩

set_option maxRecDepth 100000 in
set_option maxHeartbeats 8000000 in
theorem pre_rows_yes (K H : Nat) (S : Int) (w : World) (hK : 1 ≤ K ∧ K ≤ 16) (hH : 1 ≤ H ∧ H ≤ 4) (hS : 1 ≤ S ∧ S ≤ 24) :
    Calls Try.prog 43 #[parV K H S] w fun e w' => ∃ v, e = .returned v ∧ MOwn w' w.heap.size v (aheadR K H H) ∧ Below w.heap.size w w' := by
  have hb := (Below.refl w.heap.size w).alloc (Nat.le_refl _) (.cells #[.int .i64 K, .int .i64 H, .int .i64 S] 40)
  have hB := Blk.new w 40 #[.int .i64 K, .int .i64 H, .int .i64 S]
  have hs : w.heap.size < (w.alloc (.cells #[.int .i64 K, .int .i64 H, .int .i64 S] 40)).heap.size := by simp
  have hok : okP K H S = true := okP_yes (by omega)
  have HB := Lib.hid hb
  have HBX := Lib.hid hB
  have CM := Lib.hid fun w => pre_may K H S w
  have CC := Lib.hid fun N hN G cs w hx => pre_cols_box K H S hK hH hS N hN G cs w hx
  rw [hok] at CM
  clear hb hB hok
  unfold parV at CM ⊢
  go_enter Try.func43, Try.ntmps43
  go_wp2_with fail
  generalize w.alloc (.cells #[.int .i64 K, .int .i64 H, .int .i64 S] 40) = w1 at *
  generalize hG : w.heap.size = G at *
  have HG := Lib.hid hG
  clear hG
  refine (CM.out _).mono ?_
  rintro e w2 ⟨rfl, hb2⟩
  have HBX2 := Lib.hid (HBX.out.below hb2 hs)
  have HB2 := Lib.hid (HB.out.trans (hb2.mono (Nat.le_of_lt hs)))
  have hs2 : G < w2.heap.size := by have := hb2.size; omega
  clear hb2 HBX HB CM hs
  go_wp2_with fail
  refine (gf_new _).mono ?_
  rintro e w3 ⟨gf, rfl, hgf, hfl, hb3⟩
  have HFL := Lib.hid hfl
  have HBX3 := Lib.hid (HBX2.out.below hb3 hs2)
  have HB3 := Lib.hid (HB2.out.trans (hb3.mono (Nat.le_of_lt hs2)))
  clear hb3 hfl hgf HBX2 HB2
  have c1 := (blk3 HBX3.out).2.1
  go_wp2_with fail
  clear c1 hs2 w2 w1
  have HM0 : Hid (MOwn w3 G (.slice none 0 0) (aheadR K H 0)) := Lib.hid (MOwn.nil _ _)
  go_loopw [4, 5, 6, 7, 14] (fun o _ _ _ i wr => ∃ r : Nat, r ≤ H ∧ i = .int .i64 r ∧ Hid (MOwn wr G o (aheadR K H r)) ∧ Hid (Fld wr gf) ∧ Hid (Blk wr G 40 #[.int .i64 K, .int .i64 H, .int .i64 S]) ∧ Hid (Below G w wr)) (fun _ _ _ _ i _ => H - (intOf i).toNat)
  case atStart => exact ⟨0, by omega, rfl, HM0, HFL, HBX3, HB3⟩
  case round =>
    clear HM0 HFL HB3 HBX3
    obtain ⟨r, hr, rfl, HM, HFL, HBX, HB⟩ := hrel
    rename World => wo
    have hGr : G < wo.heap.size := Blk.lt HBX.out
    by_cases hrm : r < H
    · have hrmI : (r : Int) < (H : Int) := by omega
      obtain ⟨c0, c1, c2⟩ := blk3 HBX.out
      have HC0 := Lib.hid c0
      have HC1 := Lib.hid c1
      have HC2 := Lib.hid c2
      obtain ⟨N, hN⟩ : ∃ N, K + H = N := ⟨_, rfl⟩
      obtain ⟨q, hq⟩ : ∃ q, K + r = q := ⟨_, rfl⟩
      have hqI : ((K : Int) + (r : Int)) = (q : Int) := by omega
      have hq2 : q ≤ 64 := by omega
      have hqw : IntKind.i64.wrap (q : Int) = (q : Int) := by rw [IntKind.wrap_i64]; omega
      have CU := Lib.hid fun w hx => row_unit_box N q G 40 #[.int .i64 K, .int .i64 H, .int .i64 S] w hx (by omega) (by omega)
      have HN := Lib.hid hN
      have HQ := Lib.hid hq
      clear hN hq
      generalize hD : wo.heap.size = D at *
      have HD := Lib.hid hD
      clear hD
      go_wp2_with fail
      go_region_with (first
          | (go_at_call 40
             refine (CC.out N HN.out G _ wo.drew HBX.out).mono ?_
             rintro e w2 ⟨rfl, hx2, hb2⟩
             obtain ⟨k0, k1, k2⟩ := blk3 hx2
             have HX2 := Lib.hid hx2
             have HB2 := Lib.hid hb2
             clear hx2 hb2)
          | (go_at_call 61
             try rw [hqw]
             refine (CU.out _ HX2.out).mono ?_
             rintro e w3 ⟨g3, cap3, rfl, hg3, hown, hx3, hb3⟩
             obtain ⟨m0, m1, m2⟩ := blk3 hx3
             have HX3 := Lib.hid hx3
             have HB3 := Lib.hid hb3
             have HO3 := Lib.hid hown
             have HG3 := Lib.hid hg3
             clear hx3 hb3 hown hg3))
      all_goals (
        have HBD0 : Hid (Below D wo w3) := Lib.hid (by
          have h1 : Below wo.heap.size wo wo.drew := below_drewN (Below.refl _ _) 1
          have h2 : Below wo.heap.size wo w2 := h1.trans HB2.out
          rw [← HD.out]
          exact h2.trans (HB3.out.mono h2.size))
        have hDg : D ≤ g3 := by have h1 := HD.out; have h2 := HB2.out.size; have h3 := HG3.out; have h4 : wo.drew.heap.size = wo.heap.size := rfl; omega
        have HO0 : Hid (OwnB w3 D (.slice (some ⟨g3, 0, none⟩) N cap3) (rowJ N q r 0)) := Lib.hid (OwnB.base HO3.out (by have h1 := HD.out; have h2 := HB2.out.size; have h4 : wo.drew.heap.size = wo.heap.size := rfl; omega))
        have HTK : Hid (aheadR K H (r + 1) = aheadR K H r ++ [rowJ N q r K]) := Lib.hid (by rw [aheadR, HN.out, HQ.out])
        have hKN : K ≤ N := by have := HN.out; omega
        clear HX2 HB2 HX3 HB3 HO3 HG3 k0 k1 k2 c0 c1 c2 HC0 HC1 HC2 hqI hqw CU
        go_wp2_with fail
        clear m0 m1 m2 hq2
        go_loopw [7, 26] (fun _ i wq => ∃ j : Nat, j ≤ K ∧ i = .int .i64 j ∧ Hid (OwnB wq D (.slice (some ⟨g3, 0, none⟩) N cap3) (rowJ N q r j)) ∧ Hid (Below D wo wq)) (fun _ i _ => K - (intOf i).toNat)
        case atStart => exact ⟨0, by omega, rfl, HO0, HBD0⟩
        case round =>
          clear HO0 HBD0
          obtain ⟨j, hj, rfl, HO, HBD⟩ := hrel
          by_cases hjn : j < K
          · have hjnI : (j : Int) < (K : Int) := by omega
            obtain ⟨x, hx⟩ : ∃ x, (r + 1) * (j + 1) = x := ⟨_, rfl⟩
            have hx2 : x ≤ 64 := by rw [← hx]; exact Nat.mul_le_mul (show r + 1 ≤ 4 by omega) (show j + 1 ≤ 16 by omega)
            have hxI : ((r : Int) + 1) * ((j : Int) + 1) = (x : Int) := by rw [← hx]; simp
            have hx64 : IntKind.i64.wrap (x : Int) = (x : Int) := by rw [IntKind.wrap_i64]; omega
            have CE := Lib.hid (gf_exp gf x (by omega) wr (HFL.out.below HBD.out (by have := Blk.lt HFL.out; rw [HD.out] at this; exact this)))
            rw [exI_nat x (by omega)] at CE
            have HST : Hid (rowJ N q r (j + 1) = (rowJ N q r j).set j (ex x)) := Lib.hid (by rw [rowJ, hx])
            have HX := Lib.hid hx
            have hjN : (j : Int) < (N : Int) := by omega
            clear hx
            generalize ex x = y at *
            go_wp2_with fail
            refine CE.out.mono ?_
            rintro e w5 ⟨rfl, z, rfl⟩
            have hl : (rowJ N q r j).length = N := rowJ_len _ _ _ _
            obtain ⟨cc, cf⟩ := OwnB.cell (HO.out.drewN z) hl (k := j) (by omega)
            have HS := Lib.hid (OwnB.stored (HO.out.drewN z) hl j y)
            clear hl
            go_wp2_with fail
            have HO5 : Hid (OwnB ((wr.drewN z).setCell ⟨g3, j, none⟩ (.int .u8 (y : Nat))) D (.slice (some ⟨g3, 0, none⟩) N cap3) (rowJ N q r (j + 1))) := Lib.hid (by rw [HST.out]; exact HS.out.1)
            have HB5 : Hid (Below D wo ((wr.drewN z).setCell ⟨g3, j, none⟩ (.int .u8 (y : Nat)))) := Lib.hid (Below.setCell (below_drewN HBD.out z) (p := ⟨g3, j, none⟩) hDg _)
            clear HS HST HO HBD CE cc cf
            generalize (wr.drewN z).setCell ⟨g3, j, none⟩ (.int .u8 (y : Nat)) = w5 at *
            go_wp2_with fail
            go_roundw
            case rel => first | exact ⟨j + 1, by omega, by go_num, HO5, HB5⟩ | ((repeat apply Exists.intro); exact ⟨⟨j + 1, by omega, by go_num, HO5, HB5⟩, rfl⟩)
            case measure => simp [intOf]; omega
          · obtain rfl : j = K := by omega
            have hmt : (aheadR j H r).length ≤ 1000000 := by rw [aheadR_len]; omega
            have hGD2 : G ≤ wo.heap.size := by rw [HD.out]; omega
            have HBD2 : Hid (Below wo.heap.size wo wr) := Lib.hid (by rw [HD.out]; exact HBD.out)
            have HO2 : Hid (OwnB wr wo.heap.size (.slice (some ⟨g3, 0, none⟩) N cap3) (rowJ N q r j)) := Lib.hid (by rw [HD.out]; exact HO.out)
            have HF5 : Hid (Fld wr gf) := Lib.hid (HFL.out.below HBD2.out (Blk.lt HFL.out))
            have HX5 : Hid (Blk wr G 40 #[.int .i64 j, .int .i64 H, .int .i64 S]) := Lib.hid (HBX.out.below HBD2.out (Blk.lt HBX.out))
            go_wp2_with (at_builtin; refine wp_appRow (w0 := wo) (w1 := wr) rfl _ _ rfl HM.out HBD2.out HO2.out hGD2 hmt rfl rfl ?_)
            intro v' w6 hM6 hb6 hg6 hat6
            rw [← HTK.out] at hM6
            have HM6 := Lib.hid hM6
            have HB6 := Lib.hid (HB.out.trans hb6)
            obtain ⟨vs, hMV⟩ := HM.out
            have hown : u4.ownBlock = none ∨ ∃ g' cs, u4.ownBlock = some g' ∧ Blk wo g' 49 cs := by
              rcases hMV.hd.2 with ⟨h1, _⟩ | ⟨g', cap, cur, h1, _, hb, _⟩
              · rw [h1]; exact .inl rfl
              · rw [h1]; exact .inr ⟨g', _, rfl, hb⟩
            have HF6 : Hid (Fld w6 gf) := Lib.hid (by
              refine Blk.grown (Blk.alloc HF5.out _) hg6 ?_
              rcases hown with h | ⟨g', cs, h, hb⟩
              · rw [h]; simp
              · rw [h]
                have : gf ≠ g' := Blk.ne (t := 100) (t' := 49) HFL.out hb (by decide)
                simpa using this)
            have HX6 : Hid (Blk w6 G 40 #[.int .i64 j, .int .i64 H, .int .i64 S]) := Lib.hid (by
              refine Blk.grown (Blk.alloc HX5.out _) hg6 ?_
              rcases hown with h | ⟨g', cs, h, hb⟩
              · rw [h]; simp
              · rw [h]
                have : G ≠ g' := Blk.ne (t := 40) (t' := 49) HBX.out hb (by decide)
                simpa using this)
            clear hM6 hb6 hg6 hat6 HM HBD HBD2 HO HO2 HF5 HX5 HTK HFL HB HBX hown hMV
            go_wp2_with fail
            go_roundw
            case rel => first | exact ⟨r + 1, by omega, by go_num, HM6, HF6, HX6, HB6⟩ | ((repeat apply Exists.intro); exact ⟨⟨r + 1, by omega, by go_num, HM6, HF6, HX6, HB6⟩, rfl⟩)
            case measure => simp [intOf]; omega)
    · obtain rfl : r = H := by omega
      go_wp2_with fail
      go_ret
      exact ⟨_, rfl, by rw [HG.out]; exact HM.out, by rw [HG.out]; exact HB.out⟩
end Go.Proofs.Ytfbhbjhfebkpfaa
