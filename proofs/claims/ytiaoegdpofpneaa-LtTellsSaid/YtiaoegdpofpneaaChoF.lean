/- law07: the walk of the document's Some. -/
import Derived.Test.YtiaoegdpofpneaaChoB
import Derived.Deep.DeepCutAuto
namespace Go.Proofs.Ytiaoegdpofpneaa
open Go.RowKit Go.Sort
set_option linter.unusedVariables false

theorem cellsI_set (l : List Nat) (k x : Nat) : (cellsI l).set k (.int .i64 (x : Nat)) = cellsI (l.set k x) := by simp [cellsI]
theorem OwnI.cellA {w : World} {C g n c : Nat} {l : List Nat} (h : OwnI w C (.slice (some ⟨g, 0, none⟩) n c) l) (hl : l.length = n) {k : Nat} (hk : k < n) : w.cell? ⟨g, k, none⟩ = some (.int .i64 (l.getD k 0 : Nat)) ∧ w.frozen? ⟨g, k, none⟩ = false := by
  unfold OwnI at h
  rw [hl] at h
  exact ⟨(h.cellAt k (by omega)).trans (cellsI_get (by omega)), h.frozenAt k⟩
theorem OwnI.storedA {w : World} {C g n c : Nat} {l : List Nat} (h : OwnI w C (.slice (some ⟨g, 0, none⟩) n c) l) (hl : l.length = n) (k x : Nat) :
    OwnI (w.setCell ⟨g, k, none⟩ (.int .i64 (x : Nat))) C (.slice (some ⟨g, 0, none⟩) n c) (l.set k x) := by
  unfold OwnI at h ⊢
  rw [hl] at h
  rw [List.length_set, hl, ← cellsI_set]
  exact (h.stored k _).1
theorem OwnI.formA {w : World} {C n c : Nat} {a : Option Addr} {l : List Nat} (h : OwnI w C (.slice a n c) l) (hl : l.length = n) (h0 : 0 < n) : ∃ g, a = some ⟨g, 0, none⟩ ∧ C ≤ g ∧ g < w.heap.size := by
  unfold OwnI at h
  rw [hl] at h
  obtain ⟨g, cap, e, h1, h2⟩ := h.form h0
  injection e with e
  exact ⟨g, e, h1, h2⟩
theorem OwnI.takeA {w : World} {C n c : Nat} {a : Option Addr} {l : List Nat} (h : OwnI w C (.slice a n c) l) (hl : l.length = n) {k : Nat} (hk : k ≤ n) : OwnI w C (.slice a k c) (l.take k) := by
  unfold OwnI at h ⊢
  rw [hl] at h
  have hkl : (l.take k).length = k := by rw [List.length_take]; omega
  rw [hkl]
  refine ⟨by simp [cellsI]; omega, ?_⟩
  rcases h.2 with ⟨h1, h0⟩ | ⟨g', cap, cur, h1, h2, h3, h4, h5, h6, h7⟩
  · injection h1 with e1 e2 e3
    subst e1 e3
    obtain rfl : k = 0 := by omega
    exact .inl ⟨rfl, rfl⟩
  · injection h1 with e1 e2 e3
    subst e1 e3
    refine .inr ⟨g', c, cur, rfl, h2, h3, by omega, h5, h6, ?_⟩
    have : cellsI (l.take k) = (cellsI l).take k := by simp [cellsI]
    rw [this, ← h7, List.take_take, Nat.mul_one, Nat.mul_one, Nat.min_eq_left hk]
theorem OwnI.lenA {w : World} {C : Nat} {v : Value} {l : List Nat} (h : OwnI w C v l) : ∃ a c, v = .slice a l.length c := by
  obtain ⟨a, c, rfl, _⟩ := OwnI.rd h
  exact ⟨a, c, rfl⟩
theorem OwnI.ltA {w : World} {C : Nat} {v : Value} {l : List Nat} (h : OwnI w C v l) : ∀ g, v.ownBlock = some g → C ≤ g ∧ g < w.heap.size := World.ownsRow.lt h

set_option maxRecDepth 100000 in
set_option maxHeartbeats 2000000 in
theorem ref_some_un (p : Option Addr) (n k : Int) (w : World) (hno : ¬ (0 ≤ n ∧ n ≤ 64 ∧ 0 ≤ k ∧ k ≤ n)) :
    Calls Try.prog 39 #[.pointer p, .int .i64 n, .int .i64 k] w fun e w' => e = .returned (.slice none 0 0) ∧ w = w' := by
  go_enter Try.func39, Try.ntmps39
  go_upto_region 3 with fail
  all_goals first | omega | (go_ret; exact ⟨rfl, rfl⟩) | skip

set_option maxRecDepth 100000 in
set_option maxHeartbeats 8000000 in
theorem ref_some (b o : Nat) (s : Int) (n k : Nat) (w : World) (hn : n ≤ 64) (hk : k ≤ n) (hD : At w ⟨b, o, none⟩ (.int .u64 s)) :
    Calls Try.prog 39 #[.pointer (some ⟨b, o, none⟩), .int .i64 n, .int .i64 k] w fun e w' => ∃ v, e = .returned v ∧ OwnI w' w.heap.size v (chosen false n s k) ∧ Below w.heap.size (setD w (some ⟨b, o, none⟩) (shufS false n s k)) w' := by
  have g1 : ¬ (n : Int) > 64 := by omega
  have g2 : ¬ (k : Int) > (n : Int) := by omega
  have HD := Lib.hid hD
  have hbG : b < w.heap.size := hD.lt
  have HO : Hid (OwnI w w.heap.size (.slice none 0 0) (List.range 0)) := Lib.hid (World.ownsRow_nil _ _ _ _)
  clear hD
  go_enter Try.func39, Try.ntmps39
  go_wp2_with fail
  generalize hG : w.heap.size = G at *
  have HG := Lib.hid hG
  clear hG
  go_loopw [7, 8] (fun l i wr => ∃ j : Nat, j ≤ n ∧ i = .int .i64 j ∧ Hid (OwnI wr G l (List.range j)) ∧ Hid (Below G w wr)) (fun _ i _ => n - (intOf i).toNat)
  case atStart => exact ⟨0, by omega, rfl, HO, Lib.hid (Below.refl _ _)⟩
  case round =>
    clear HO
    obtain ⟨j, hj, rfl, HO, HBL⟩ := hrel
    have hGr : G ≤ wr.heap.size := by have := HBL.out.size; have := HG.out; omega
    by_cases hlt : j < n
    · have hlt' : (j : Int) < (n : Int) := by omega
      have hown : (wr.alloc (.cells #[.int .i64 (j : Nat)] 3)).ownsRow G 3 1 u7 j (cellsI (List.range j)) := by
        have := World.ownsRow.alloc HO.out (.cells #[.int .i64 (j : Nat)] 3)
        rw [List.length_range] at this
        exact this
      have HOW := Lib.hid hown
      have hcell : (wr.alloc (.cells #[.int .i64 (j : Nat)] 3)).cell? ⟨wr.heap.size, 0, none⟩ = some (.int .i64 (j : Nat)) := cell_lit wr _ _ 0
      have HC := Lib.hid hcell
      clear hown hcell
      go_wp2_with (at_builtin; refine wp_app1 _ rfl _ _ 30 rfl G 3 (.int .i64 0) 8 Try.underlying30 info_int rfl u7 j (cellsI (List.range j)) rfl HOW.out wr.heap.size (.int .i64 (j : Nat)) rfl HC.out rfl ?q1 ?q2 ?q3 ?_)
      case q1 => omega
      case q2 => unfold maxLen; omega
      case q3 => first | omega | (simp; omega)
      intro v' w2 hown2 hg2 _
      have hO2 : OwnI w2 G v' (List.range (j + 1)) := by
        have e : cellsI (List.range (j + 1)) = cellsI (List.range j) ++ [.int .i64 (j : Nat)] := by rw [List.range_succ]; simp [cellsI]
        unfold OwnI
        rw [List.length_range, e]
        exact hown2
      have HB2 := Lib.hid ((HBL.out.alloc hGr _).grown hg2 (by simp; omega) (fun g hg => (HO.out.ltA g hg).1))
      have HO2 := Lib.hid hO2
      clear hO2 hown2 hg2 HOW HC HBL HO
      go_wp2_with fail
      go_roundw
      case rel => first | exact ⟨j + 1, by omega, by go_num, HO2, HB2⟩ | ((repeat apply Exists.intro); exact ⟨⟨j + 1, by omega, by go_num, HO2, HB2⟩, rfl⟩)
      case measure => simp [intOf]; omega
    · obtain rfl : j = n := by omega
      have HO1 : Hid (OwnI wr G u7 (shufL false j s 0)) := Lib.hid HO.out
      obtain ⟨a, c, rfl⟩ := HO.out.lenA
      rw [List.length_range] at HO1 ⊢
      have hD1 : At wr ⟨b, o, none⟩ (.int .u64 s) := HD.out.below HBL.out hbG
      have hset0 : Hid (Below G (setD w (some ⟨b, o, none⟩) s) wr) := Lib.hid (by
        show Below G (w.setCell ⟨b, o, none⟩ (.int .u64 s)) wr
        rw [setCell_self w _ _ HD.out.1]
        exact HBL.out)
      have HD1 : Hid (At wr ⟨b, o, none⟩ (.int .u64 (shufS false j s 0))) := Lib.hid hD1
      have HS0 : Hid (Below G (setD w (some ⟨b, o, none⟩) (shufS false j s 0)) wr) := Lib.hid hset0.out
      clear HO HBL hD1 HD g1 hlt hset0
      go_wp2_with fail
      go_loopw [9, 10] (fun i _ wr => ∃ q : Nat, q ≤ k ∧ i = .int .i64 q ∧ Hid (OwnI wr G (.slice a j c) (shufL false j s q)) ∧ Hid (At wr ⟨b, o, none⟩ (.int .u64 (shufS false j s q))) ∧ Hid (Below G (setD w (some ⟨b, o, none⟩) (shufS false j s q)) wr)) (fun i _ _ => k - (intOf i).toNat)
      case atStart => exact ⟨0, by omega, rfl, HO1, HD1, HS0⟩
      case round =>
        clear HO1 HD1 HS0
        obtain ⟨q, hq, rfl, HO, HD, HBL⟩ := hrel
        by_cases hlt : q < k
        · have hqn : q < j := by omega
          have hjj := shuf_j (nl := false) (s := s) hqn
          have cD := rdraw_belowD (shufS false j s q) ((j : Int) - (q : Int)) b o wr HD.out (by omega)
          have hL1 : Hid (shufL false j s (q + 1) = swapL (shufL false j s q) q (q + bN false (shufS false j s q) ((j : Int) - (q : Int)))) := Lib.hid rfl
          have hS1 : Hid (shufS false j s (q + 1) = sN false (shufS false j s q) ((j : Int) - (q : Int))) := Lib.hid rfl
          have hlen := shufL_len false j s q
          have hBb := bN_lt (nl := false) (s := shufS false j s q) (n := (j : Int) - (q : Int)) (by omega)
          generalize bN false (shufS false j s q) ((j : Int) - (q : Int)) = bb at *
          generalize hs1 : sN false (shufS false j s q) ((j : Int) - (q : Int)) = s1 at *
          generalize shufS false j s q = s0 at *
          generalize shufL false j s q = L at *
          have CD := Lib.hid cD
          have HLEN := Lib.hid hlen
          have HBb := Lib.hid hBb
          clear cD hlen hBb hs1
          have hlt' : (q : Int) < (k : Int) := by omega
          obtain ⟨g, rfl, hgG, hgs⟩ := HO.out.formA HLEN.out (by omega)
          have hbg : b < g := by omega
          go_wp2_with fail
          refine CD.out.mono ?_
          rintro e w2 ⟨rfl, rfl⟩
          have hO2 : OwnI (setD wr (some ⟨b, o, none⟩) s1) G (.slice (some ⟨g, 0, none⟩) j c) L := ownsRow_setCell_below HO.out (a := ⟨b, o, none⟩) hbG (.int .u64 s1)
          have hD2 : At (setD wr (some ⟨b, o, none⟩) s1) ⟨b, o, none⟩ (.int .u64 s1) := HD.out.put _
          have hbl2 := below_setD HBL.out (by rw [setD_size, HG.out]; exact Nat.le_refl _) (some ⟨b, o, none⟩) s1
          rw [setD_setD _ _ _ _ (.inr ⟨b, o, rfl⟩)] at hbl2
          have HBL2 := Lib.hid hbl2
          obtain ⟨jj, hjje⟩ : ∃ jj, jj = q + bb := ⟨_, rfl⟩
          rw [← hjje] at hjj
          have hjI : (q : Int) + (bb : Int) = (jj : Int) := by omega
          have hbI : (bb : Int) < 64 := by have := HBb.out; omega
          rw [← hjje] at hL1
          obtain ⟨c1, f1⟩ := hO2.cellA HLEN.out hqn
          obtain ⟨c2, f2⟩ := hO2.cellA HLEN.out hjj
          have t1 := (hO2.storedA HLEN.out q (L.getD jj 0)).storedA (by rw [List.length_set]; exact HLEN.out) jj (L.getD q 0)
          have T1 : Hid (OwnI (((setD wr (some ⟨b, o, none⟩) s1).setCell ⟨g, q, none⟩ (.int .i64 (L.getD jj 0 : Nat))).setCell ⟨g, jj, none⟩ (.int .i64 (L.getD q 0 : Nat))) G (.slice (some ⟨g, 0, none⟩) j c) (shufL false j s (q + 1))) := Lib.hid (by rw [hL1.out]; exact t1)
          have HJJ := Lib.hid hjje
          have HD2 := Lib.hid hD2
          clear hO2 hD2 hbl2 t1 HO HBL HD hjje CD HBb
          generalize L.getD q 0 = x at *
          generalize L.getD jj 0 = y at *
          generalize setD wr (some ⟨b, o, none⟩) s1 = w3 at *
          have T2 := Lib.hid ((HBL2.out.setCell (p := ⟨g, q, none⟩) hgG (.int .i64 (y : Nat))).setCell (p := ⟨g, jj, none⟩) hgG (.int .i64 (x : Nat)))
          have T3 := Lib.hid ((HD2.out.far (q := ⟨g, q, none⟩) (by simp; omega) (.int .i64 (y : Nat))).far (q := ⟨g, jj, none⟩) (by simp; omega) (.int .i64 (x : Nat)))
          rw [hS1.out.symm] at T2 T3
          have hqI : (q : Int) < (j : Int) := by omega
          have hjjI : (jj : Int) < (j : Int) := by omega
          go_wp2_with fail
          have HLT := Lib.hid hlt
          clear hjI hbI hqn hjj hlt hlt' hq
          by_cases hqj : q = jj
          · subst hqj
            obtain rfl : x = y := by rw [c1] at c2; injection c2 with c2; injection c2 with _ c2; omega
            go_region
            go_wp2_with fail
            refine ⟨⟨q + 1, by have := HLT.out; omega, by go_num, Lib.hid T1.out, Lib.hid T3.out, Lib.hid (Below.drew T2.out)⟩, ?_⟩
            have := HLT.out
            simp [intOf]; omega
          · go_region
            go_wp2_with fail
            refine ⟨⟨q + 1, by have := HLT.out; omega, by go_num, Lib.hid T1.out, Lib.hid T3.out, Lib.hid (Below.drew T2.out)⟩, ?_⟩
            have := HLT.out
            simp [intOf]; omega
        · obtain rfl : q = k := by omega
          have hO1 := OwnI.takeA HO.out (shufL_len _ _ _ _) hk
          have hch : Hid (chosen false j s q = ((shufL false j s q).take q).mergeSort leB) := Lib.hid rfl
          have hZl : ((shufL false j s q).take q).length = q := by rw [List.length_take, shufL_len]; omega
          have HZL := Lib.hid hZl
          have hZb : ∀ x ∈ (shufL false j s q).take q, x < 64 := fun x hx => by have := List.mem_range.1 ((shufL_perm (nl := false) (s := s) hk).mem_iff.1 (List.mem_of_mem_take hx)); omega
          have HZB := Lib.hid hZb
          have HBL3 := Lib.hid HBL.out
          generalize (shufL false j s q).take q = Z at *
          have HO3 := Lib.hid hO1
          have hqc : q ≤ c := Nat.le_trans hk (by
            have h := HO.out
            unfold OwnI at h
            rcases h.2 with ⟨h1, h2⟩ | ⟨g', cap, cur, h1, _, _, h4, _⟩
            · rw [shufL_len] at h2; omega
            · injection h1 with e1 e2 e3; rw [shufL_len] at h4; omega)
          clear hO1 hZl hZb HO HD HBL
          go_wp2_with fail
          go_loopw [11, 12, 68] (fun _ _ i wr => ∃ i' : Nat, i' ≤ q ∧ i = .int .i64 i' ∧ Hid (∃ P, OwnI wr G (.slice a q c) P ∧ P.Perm Z ∧ Srt (P.take i')) ∧ Hid (Below G (setD w (some ⟨b, o, none⟩) (shufS false j s q)) wr)) (fun _ _ i _ => q - (intOf i).toNat)
          case atStart => exact ⟨0, by omega, rfl, Lib.hid ⟨Z, HO3.out, List.Perm.refl _, by simp [Srt]⟩, HBL3⟩
          case round =>
            clear HO3 HBL3
            obtain ⟨i, hi, rfl, HP, HBL⟩ := hrel
            by_cases hiq : i < q
            · have hiqI : (i : Int) < (q : Int) := by omega
              have hP0 : Hid (∃ P, OwnI wr G (.slice a q c) P ∧ Ins Z i i P) := Lib.hid (by
                obtain ⟨P, h1, h2, h3⟩ := HP.out
                exact ⟨P, h1, Ins.start (by rw [h2.length_eq, HZL.out]; exact hiq) h3 h2⟩)
              clear HP
              go_wp2_with fail
              go_loopw [12] (fun z wq => ∃ r : Nat, r ≤ i ∧ z = .int .i64 r ∧ Hid (∃ P, OwnI wq G (.slice a q c) P ∧ Ins Z i r P) ∧ Hid (Below G (setD w (some ⟨b, o, none⟩) (shufS false j s q)) wq)) (fun z _ => (intOf z).toNat)
              case atStart => exact ⟨i, Nat.le_refl _, rfl, hP0, HBL⟩
              case round =>
                clear hP0 HBL
                obtain ⟨r, hr, rfl, HP, HBL⟩ := hrel
                obtain ⟨P, hO, hI⟩ := HP.out
                have hperm : P.Perm Z := by obtain ⟨_, _, _, _, _, _, _, _, _, h⟩ := hI; exact h
                have hPl : P.length = q := by rw [hperm.length_eq]; exact HZL.out
                have hPb : ∀ k, P.getD k 0 < 64 := fun k => by
                  rcases Nat.lt_or_ge k P.length with h | h
                  · rw [getD_at h]; exact HZB.out _ (hperm.mem_iff.1 (List.getElem_mem h))
                  · rw [List.getD_eq_getElem?_getD, List.getElem?_eq_none h]; decide
                have HO := Lib.hid hO
                have HI := Lib.hid hI
                have HPL := Lib.hid hPl
                have HPP := Lib.hid hperm
                clear HP hO hI hperm
                rcases Nat.eq_zero_or_pos r with h0 | h0
                · subst h0
                  have hstop : Hid (∃ P, OwnI wr G (.slice a q c) P ∧ P.Perm Z ∧ Srt (P.take (i + 1))) := Lib.hid ⟨P, HO.out, (HI.out.stop (.inl rfl)).2, (HI.out.stop (.inl rfl)).1⟩
                  have hd : decide ((0 : Int) < ((0 : Nat) : Int)) = false := rfl
                  have hd2 : decide ((((0 : Nat) : Int)) > 0) = false := rfl
                  clear HO HI HPL HPP hPb
                  go_wp2_with fail
                  go_quiet (fail)
                  have HB2 : Hid (Below G (setD w (some ⟨b, o, none⟩) (shufS false j s q)) (wr.drewN nq)) := Lib.hid (below_drewN HBL.out nq)
                  have HS2 : Hid (∃ P, OwnI (wr.drewN nq) G (.slice a q c) P ∧ P.Perm Z ∧ Srt (P.take (i + 1))) := Lib.hid hstop.out
                  clear hstop HBL
                  generalize wr.drewN nq = w5 at *
                  go_wp2_with fail
                  go_roundw
                  case rel => first | exact ⟨i + 1, by omega, by go_num, HS2, HB2⟩ | ((repeat apply Exists.intro); exact ⟨⟨i + 1, by omega, by go_num, HS2, HB2⟩, rfl⟩)
                  case measure => simp [intOf]; omega
                · obtain ⟨r1, hr1⟩ : ∃ r1, r1 = r - 1 := ⟨_, rfl⟩
                  have hr1I : (r : Int) - 1 = (r1 : Int) := by omega
                  have hrr : r = r1 + 1 := by omega
                  have hrp : (0 : Int) < (r : Int) := by omega
                  have hd : decide ((0 : Int) < (r : Int)) = true := by simpa using h0
                  have hrq : (r : Int) < (q : Int) := by omega
                  have hr1q : (r1 : Int) < (q : Int) := by omega
                  obtain ⟨g, rfl, hgG, hgs⟩ := HO.out.formA HPL.out (by omega)
                  obtain ⟨c1, f1⟩ := HO.out.cellA HPL.out (k := r) (by omega)
                  obtain ⟨c2, f2⟩ := HO.out.cellA HPL.out (k := r1) (by omega)
                  have b1 := hPb r
                  have b2 := hPb r1
                  have t1 := (HO.out.storedA HPL.out r (P.getD r1 0)).storedA (by rw [List.length_set]; exact HPL.out) r1 (P.getD r 0)
                  have HT : Hid (OwnI ((wr.setCell ⟨g, r, none⟩ (.int .i64 (P.getD r1 0 : Nat))).setCell ⟨g, r1, none⟩ (.int .i64 (P.getD r 0 : Nat))) G (.slice (some ⟨g, 0, none⟩) q c) (swapL P r r1)) := Lib.hid t1
                  have HDN : Hid (P.getD r 0 < P.getD r1 0 → Ins Z i r1 (swapL P r r1)) := Lib.hid fun h => by
                    have hI := HI.out
                    rw [hrr] at hI h ⊢
                    exact hI.down h
                  have HST : Hid (P.getD r1 0 ≤ P.getD r 0 → P.Perm Z ∧ Srt (P.take (i + 1))) := Lib.hid fun h => by
                    have := HI.out.stop (.inr (by rw [← hr1]; exact h))
                    exact ⟨this.2, this.1⟩
                  have HOP := Lib.hid HO.out
                  clear t1 HI HPL HPP hPb HO hr1
                  have hrne : r ≠ r1 := by omega
                  have HRR := Lib.hid hrr
                  clear hrr
                  generalize P.getD r 0 = y at *
                  generalize P.getD r1 0 = x at *
                  by_cases hyx : y < x
                  · have hyxI : (y : Int) < (x : Int) := by omega
                    have hdI : decide ((y : Int) < (x : Int)) = true := by simpa using hyx
                    have HIN := Lib.hid (HDN.out hyx)
                    have HW := Lib.hid hrne
                    clear HDN HST hyx
                    go_wp2_with fail
                    go_quiet (fail)
                    have HT2 : Hid (OwnI (((wr.drewN nq).setCell ⟨g, r, none⟩ (.int .i64 (x : Nat))).setCell ⟨g, r1, none⟩ (.int .i64 (y : Nat))) G (.slice (some ⟨g, 0, none⟩) q c) (swapL P r r1)) := Lib.hid HT.out
                    have c1' : (wr.drewN nq).cell? ⟨g, r, none⟩ = some (.int .i64 (y : Nat)) := c1
                    have c2' : (wr.drewN nq).cell? ⟨g, r1, none⟩ = some (.int .i64 (x : Nat)) := c2
                    have f1' : (wr.drewN nq).frozen? ⟨g, r, none⟩ = false := f1
                    have f2' : (wr.drewN nq).frozen? ⟨g, r1, none⟩ = false := f2
                    have HB2 : Hid (Below G (setD w (some ⟨b, o, none⟩) (shufS false j s q)) (wr.drewN nq)) := Lib.hid (below_drewN HBL.out nq)
                    clear HT c1 c2 f1 f2 HBL
                    generalize wr.drewN nq = w5 at *
                    have HB3 := Lib.hid ((HB2.out.setCell (p := ⟨g, r, none⟩) hgG (.int .i64 (x : Nat))).setCell (p := ⟨g, r1, none⟩) hgG (.int .i64 (y : Nat)))
                    have hne1 : ¬ ((r : Int) = (r1 : Int)) := by omega
                    have hne2 : ¬ (r1 = r) := by have := HW.out; omega
                    go_wp2_with fail
                    go_region
                    have HT3 : Hid (∃ P, OwnI ((w5.setCell ⟨g, r, none⟩ (.int .i64 (x : Nat))).setCell ⟨g, r1, none⟩ (.int .i64 (y : Nat))).drew G (.slice (some ⟨g, 0, none⟩) q c) P ∧ Ins Z i r1 P) := Lib.hid ⟨_, HT2.out, HIN.out⟩
                    have HB4 : Hid (Below G (setD w (some ⟨b, o, none⟩) (shufS false j s q)) ((w5.setCell ⟨g, r, none⟩ (.int .i64 (x : Nat))).setCell ⟨g, r1, none⟩ (.int .i64 (y : Nat))).drew) := Lib.hid (HB3.out.drew)
                    clear HT2 HB2 HB3 c1' c2' f1' f2'
                    generalize ((w5.setCell ⟨g, r, none⟩ (.int .i64 (x : Nat))).setCell ⟨g, r1, none⟩ (.int .i64 (y : Nat))).drew = w6 at *
                    go_wp2_with fail
                    go_roundw
                    case rel => first | exact ⟨r1, by omega, by go_num, HT3, HB4⟩ | ((repeat apply Exists.intro); exact ⟨⟨r1, by omega, by go_num, HT3, HB4⟩, rfl⟩)
                    case measure => simp [intOf]; omega
                  · have hyxI : ¬ (y : Int) < (x : Int) := by omega
                    have hdI : decide ((y : Int) < (x : Int)) = false := by simpa using hyx
                    have hstop : Hid (∃ P, OwnI wr G (.slice (some ⟨g, 0, none⟩) q c) P ∧ P.Perm Z ∧ Srt (P.take (i + 1))) := Lib.hid ⟨P, HOP.out, HST.out (by omega)⟩
                    clear HDN HST HOP HT hyx f1 f2
                    go_wp2_with fail
                    go_quiet (fail)
                    have HB2 : Hid (Below G (setD w (some ⟨b, o, none⟩) (shufS false j s q)) (wr.drewN nq)) := Lib.hid (below_drewN HBL.out nq)
                    have HS2 : Hid (∃ P, OwnI (wr.drewN nq) G (.slice (some ⟨g, 0, none⟩) q c) P ∧ P.Perm Z ∧ Srt (P.take (i + 1))) := Lib.hid hstop.out
                    clear hstop HBL c1 c2
                    generalize wr.drewN nq = w5 at *
                    go_wp2_with fail
                    go_roundw
                    case rel => first | exact ⟨i + 1, by omega, by go_num, HS2, HB2⟩ | ((repeat apply Exists.intro); exact ⟨⟨i + 1, by omega, by go_num, HS2, HB2⟩, rfl⟩)
                    case measure => simp [intOf]; omega
            · obtain rfl : i = q := by omega
              have hfin : Hid (OwnI wr G (.slice a i c) (chosen false j s i)) := Lib.hid (by
                obtain ⟨P, h1, h2, h3⟩ := HP.out
                rw [List.take_of_length_le (by rw [h2.length_eq, HZL.out]; exact Nat.le_refl _)] at h3
                rw [hch.out, ← srt_sort h2 h3]; exact h1)
              go_wp2_with fail
              go_ret
              exact ⟨_, rfl, by rw [HG.out]; exact hfin.out, by rw [HG.out]; exact HBL.out⟩
end Go.Proofs.Ytiaoegdpofpneaa
