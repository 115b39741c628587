/- The walk of wellspringlaw26.AllRise. -/
import Derived.Test.YtmaofhbnmkcimaaSetsE
import Derived.Test.YtmaofhbnmkcimaaLaw26a
namespace Go.Proofs.Ytmaofhbnmkcimaa
open Go.RowKit
set_option linter.unusedVariables false

theorem small14 : ((List.range 14).all fun n => (List.range 15).all fun t => decide (cnt n t ≤ 4096)) = true := by decide +kernel
theorem cnt_small {n t : Nat} (hn : n < 14) (ht : t < 15) : cnt n t ≤ 4096 :=
  of_decide_eq_true (List.all_eq_true.1 (List.all_eq_true.1 small14 n (List.mem_range.2 hn)) t (List.mem_range.2 ht))

set_option maxRecDepth 100000 in
set_option maxHeartbeats 4000000 in
theorem allRise_walk (w : World) (n0 : Int) (hn : -9223372036854775808 ≤ n0 ∧ n0 ≤ 9223372036854775807) (t0 : Int) (ht : -9223372036854775808 ≤ t0 ∧ t0 ≤ 9223372036854775807) :
    Calls Try.prog 10 #[.int .i64 n0, .int .i64 t0] w fun e w' => e = .returned (.bool true) ∧ Below w.heap.size w w' := by
  have m1 := Int.emod_nonneg n0 (show (14 : Int) ≠ 0 by omega)
  have m2 := Int.emod_lt_of_pos n0 (show (0 : Int) < 14 by omega)
  have hq : ∀ w : World, Calls Try.prog 12 #[.int .i64 n0, .int .i64 14] w fun e w' => e = .returned (.int .i64 (n0 % 14)) ∧ w = w' := fun w => keep_within n0 14 w hn (by omega) (by omega)
  generalize n0 % 14 = p at *
  obtain ⟨m, rfl⟩ := Int.eq_ofNat_of_zero_le m1
  have k1 := Int.emod_nonneg t0 (show ((m : Int) + 1) ≠ 0 by omega)
  have k2 := Int.emod_lt_of_pos t0 (show (0 : Int) < (m : Int) + 1 by omega)
  have hq2 : ∀ w : World, Calls Try.prog 12 #[.int .i64 t0, .int .i64 ((m : Int) + 1)] w fun e w' => e = .returned (.int .i64 (t0 % ((m : Int) + 1))) ∧ w = w' := fun w => keep_within t0 _ w ht (by omega) (by omega)
  generalize t0 % ((m : Int) + 1) = q at *
  obtain ⟨s, rfl⟩ := Int.eq_ofNat_of_zero_le k1
  have HQ := Lib.hid hq
  clear hq
  have hm : m < 14 := by omega
  have hs : s ≤ m := by omega
  have hcs := cnt_small (t := s) hm (by omega)
  have hln := sets_len (n := m) (t := s) (by omega) hs hcs
  have ca : ∀ w, Calls Try.prog 22 #[.int .i64 m, .int .i64 s] w (AllPost w m s) := fun w => sets_all m s w (by omega) hs hcs (by rw [hln]; exact hcs)
  have cc : ∀ w, Calls Try.prog 20 #[.int .i64 m, .int .i64 s] w fun e w' => e = .returned (.int .i64 (cnt m s : Nat)) ∧ w = w' := by
    intro w
    have := sets_count (m : Int) (s : Int) (by omega) (by omega) w
    rw [cntI_in (by omega) (by omega) (by omega) (by omega), Int.toNat_natCast, Int.toNat_natCast] at this
    exact this
  have h1 : ∀ i l, (fromL m s 0)[i]? = some l → l.length = s ∧ Up l ∧ ∀ x ∈ l, x < m := fun i l hl =>
    ⟨fromL_len m s 0 l (List.mem_of_getElem? hl), fromL_up m s 0 l (List.mem_of_getElem? hl), fun x hx => (fromL_bd m s 0 l (List.mem_of_getElem? hl) x hx).2⟩
  have h2 : ∀ i p l, (fromL m s 0)[i]? = some p → (fromL m s 0)[i + 1]? = some l → ∃ k, k < s ∧ (∀ j, j < k → l.getD j 0 = p.getD j 0) ∧ p.getD k 0 < l.getD k 0 := by
    intro i p l hp hl
    have := fromL_chain m s 0 i p hp
    rw [hl] at this
    obtain ⟨k, hk, e1, e2⟩ := nextS_lex m p l this
    exact ⟨k, by rw [← (h1 i p hp).1]; exact hk, e1, e2⟩
  have h0 : s = 0 → (fromL m s 0).length = 1 := by rintro rfl; rfl
  unfold AllPost at ca
  generalize fromL m s 0 = L at *
  generalize cnt m s = N at *
  rcases Nat.eq_zero_or_pos s with hs0 | hs0
  · subst hs0
    rw [show ((0 : Nat) : Int) = 0 from rfl] at hq2
    have ca : ∀ w : World, Calls Try.prog 22 #[.int .i64 m, .int .i64 0] w _ := ca
    have cc : ∀ w : World, Calls Try.prog 20 #[.int .i64 m, .int .i64 0] w _ := cc
    have hN : N = 1 := by rw [← hln]; exact h0 rfl
    have CA := Lib.hid ca
    have CC := Lib.hid cc
    have H0 := Lib.hid h0
    have H1 := Lib.hid h1
    have H2 := Lib.hid h2
    have HL := Lib.hid hln
    have HQ2 := Lib.hid hq2
    clear ca cc h1 h2 h0 hln hq2
    go_enter Try.func10, Try.ntmps10
    go_wp2_with fail
    refine (HQ.out _).mono ?_
    rintro e w1 ⟨rfl, rfl⟩
    go_wp2_with fail
    refine (HQ2.out _).mono ?_
    rintro e w1 ⟨rfl, rfl⟩
    go_wp2_with fail
    refine (CA.out _).mono ?_
    rintro e w1 ⟨v, rfl, ho, hb⟩
    obtain ⟨a, c, rfl, hr⟩ := rdl_of_out ho
    rw [HL.out]
    have HR := Lib.hid hr
    have HB := Lib.hid hb
    clear ho hr hb
    go_wp2_with fail
    refine (CC.out _).mono ?_
    rintro e w2 ⟨rfl, rfl⟩
    go_wp2_with fail
    go_loopw [34] (fun i wr => ∃ k : Nat, k ≤ N ∧ i = .int .i64 k ∧ Hid (∃ j, wr = w1.drewN j)) (fun i _ => N - (intOf i).toNat)
    case atStart => exact ⟨0, by omega, rfl, Lib.hid ⟨0, rfl⟩⟩
    case round =>
      obtain ⟨k, hk, rfl, HJ⟩ := hrel
      obtain ⟨j, rfl⟩ := HJ.out
      clear HJ
      by_cases hlt : k < N
      · obtain ⟨l, hl⟩ : ∃ l, L[k]? = some l := ⟨_, List.getElem?_eq_getElem (by rw [HL.out]; exact hlt)⟩
        obtain ⟨hls, hup, hbd⟩ := H1.out k l hl
        obtain ⟨b, o, a', c', rfl, hbB, hc, hrd⟩ := HR.out.at hl
        have cR : Calls Try.prog 26 #[.slice a' 0 c'] (w1.drewN j) fun e w' => e = .returned (.bool true) ∧ ∃ i, w' = (w1.drewN j).drewN i := by
          have := keep_rises a' c' w1.heap.size l (w1.drewN j) (fun x hx => by have := hbd x hx; omega) (by omega) hup hrd
          rw [hls] at this
          exact this
        rw [hls] at hc
        have HLK := Lib.hid hl
        have HLS := Lib.hid hls
        have HBD := Lib.hid hbd
        have HRD := Lib.hid hrd
        have CR := Lib.hid cR
        clear hl hls hup hbd hrd cR
        have hk0 : ¬ 0 < (k : Int) := by omega
        go_wp2_with fail
        refine CR.out.mono ?_
        rintro e w2 ⟨rfl, j2, rfl⟩
        go_wp2_with fail
        go_roundw
        case rel => exact ⟨k + 1, by omega, by go_num, Lib.hid (by first | exact ⟨_, rfl⟩ | exact ⟨_, World.drewN_drewN _ _ _⟩)⟩
        case measure => simp [intOf]; omega
      · obtain rfl : k = N := by omega
        go_wp2_with fail
        refine (wakes26 _).mono ?_
        rintro e w2 ⟨rfl, hb⟩
        go_wp2_with fail
        go_ret
        have h1 := below_drewN HB.out j
        exact ⟨rfl, h1.trans (hb.mono h1.size)⟩
  · obtain ⟨r, rfl⟩ : ∃ r, s = r + 1 := ⟨s - 1, by omega⟩
    have hq2 : ∀ w : World, Calls Try.prog 12 #[.int .i64 t0, .int .i64 ((m : Int) + 1)] w fun e w' => e = .returned (.int .i64 ((r : Int) + 1)) ∧ w = w' := hq2
    have ca : ∀ w : World, Calls Try.prog 22 #[.int .i64 m, .int .i64 ((r : Int) + 1)] w _ := ca
    have cc : ∀ w : World, Calls Try.prog 20 #[.int .i64 m, .int .i64 ((r : Int) + 1)] w _ := cc
    have CA := Lib.hid ca
    have CC := Lib.hid cc
    have H0 := Lib.hid h0
    have H1 := Lib.hid h1
    have H2 := Lib.hid h2
    have HL := Lib.hid hln
    have HQ2 := Lib.hid hq2
    clear ca cc h1 h2 h0 hln hq2
    go_enter Try.func10, Try.ntmps10
    go_wp2_with fail
    refine (HQ.out _).mono ?_
    rintro e w1 ⟨rfl, rfl⟩
    go_wp2_with fail
    refine (HQ2.out _).mono ?_
    rintro e w1 ⟨rfl, rfl⟩
    go_wp2_with fail
    refine (CA.out _).mono ?_
    rintro e w1 ⟨v, rfl, ho, hb⟩
    obtain ⟨a, c, rfl, hr⟩ := rdl_of_out ho
    rw [HL.out]
    have HR := Lib.hid hr
    have HB := Lib.hid hb
    clear ho hr hb
    go_wp2_with fail
    refine (CC.out _).mono ?_
    rintro e w2 ⟨rfl, rfl⟩
    go_wp2_with fail
    go_loopw [34] (fun i wr => ∃ k : Nat, k ≤ N ∧ i = .int .i64 k ∧ Hid (∃ j, wr = w1.drewN j)) (fun i _ => N - (intOf i).toNat)
    case atStart => exact ⟨0, by omega, rfl, Lib.hid ⟨0, rfl⟩⟩
    case round =>
      obtain ⟨k, hk, rfl, HJ⟩ := hrel
      obtain ⟨j, rfl⟩ := HJ.out
      clear HJ
      by_cases hlt : k < N
      · obtain ⟨l, hl⟩ : ∃ l, L[k]? = some l := ⟨_, List.getElem?_eq_getElem (by rw [HL.out]; exact hlt)⟩
        obtain ⟨hls, hup, hbd⟩ := H1.out k l hl
        obtain ⟨b, o, a', c', rfl, hbB, hc, hrd⟩ := HR.out.at hl
        have cR : Calls Try.prog 26 #[.slice a' (r + 1) c'] (w1.drewN j) fun e w' => e = .returned (.bool true) ∧ ∃ i, w' = (w1.drewN j).drewN i := by
          have := keep_rises a' c' w1.heap.size l (w1.drewN j) (fun x hx => by have := hbd x hx; omega) (by omega) hup hrd
          rw [hls] at this
          exact this
        rw [hls] at hc
        have HLK := Lib.hid hl
        have HLS := Lib.hid hls
        have HBD := Lib.hid hbd
        have HRD := Lib.hid hrd
        have CR := Lib.hid cR
        clear hl hls hup hbd hrd cR
        obtain ⟨b2, o2, rfl, hb2, hc2⟩ := HRD.out.2 (by have := HLS.out; omega)
        have d1 := hc2 0 _ (cellsI_get (by have := HLS.out; omega))
        have d2 := hc2 r _ (cellsI_get (by have := HLS.out; omega))
        have e2 := HBD.out _ (getD_mem (l := l) (i := r) (by have := HLS.out; omega))
        have HC2 := Lib.hid hc2
        clear hc2
        generalize l.getD 0 0 = x1 at *
        generalize l.getD r 0 = x2 at *
        rw [Nat.add_zero] at d1
        go_wp2_with fail
        have CR2 := CR.out
        refine CR2.mono ?_
        rintro e w2 ⟨rfl, j2, rfl⟩
        clear CR CR2
        by_cases hk0 : k = 0
        · have hk0' : ¬ 0 < (k : Int) := by omega
          go_wp2_with fail
          go_roundw
          case rel => exact ⟨k + 1, by omega, by go_num, Lib.hid (by first | exact ⟨_, rfl⟩ | exact ⟨_, World.drewN_drewN _ _ _⟩)⟩
          case measure => simp [intOf]; omega
        · have hk0' : 0 < (k : Int) := by omega
          obtain ⟨g, rfl⟩ : ∃ g, k = g + 1 := ⟨k - 1, by omega⟩
          obtain ⟨p, hp⟩ : ∃ p, L[g]? = some p := ⟨_, List.getElem?_eq_getElem (by rw [HL.out]; omega)⟩
          obtain ⟨d, hd, hda, hdb⟩ := H2.out g p l hp HLK.out
          obtain ⟨hps, -, hpb⟩ := H1.out g p hp
          obtain ⟨b', o', a3, c3, e3, hb3, hc3, hrd3⟩ := HR.out.at hp
          simp only [Option.some.injEq, Addr.mk.injEq, and_true] at e3
          obtain ⟨rfl, rfl⟩ := e3
          rw [hps] at hc3 hrd3
          obtain ⟨b4, o4, rfl, hb4, hc4⟩ := hrd3.2 (by omega)
          have HC4 := Lib.hid hc4
          have HPS := Lib.hid hps
          have HPB := Lib.hid hpb
          have HDA := Lib.hid hda
          have HDB := Lib.hid hdb
          clear hc4 hps hpb hda hp hrd3 hdb
          go_wp2_with fail
          clear d1 d2
          rw [show w1.drewN (j + j2) = w1.drewN (j + j2) from rfl]
          generalize j + j2 = y at *
          go_loopw [9] (fun v wr => ∃ q : Nat, q ≤ d ∧ v = .int .i64 q ∧ Hid (∃ j, wr = w1.drewN j)) (fun v _ => d - (intOf v).toNat)
          case atStart => exact ⟨0, by omega, rfl, Lib.hid ⟨y, rfl⟩⟩
          case round =>
            obtain ⟨q, hq, rfl, HJ⟩ := hrel
            obtain ⟨z, rfl⟩ := HJ.out
            clear HJ
            have f1 := HC2.out q _ (cellsI_get (by have := HLS.out; omega))
            have f2 := HC4.out q _ (cellsI_get (by have := HPS.out; omega))
            have f3 := HBD.out _ (getD_mem (l := l) (i := q) (by have := HLS.out; omega))
            have f4 := HPB.out _ (getD_mem (l := p) (i := q) (by have := HPS.out; omega))
            have f5 : q < d → l.getD q 0 = p.getD q 0 := fun h => HDA.out q h
            have f6 : q = d → p.getD q 0 < l.getD q 0 := fun h => by rw [h]; exact HDB.out
            generalize l.getD q 0 = v1 at *
            generalize p.getD q 0 = v2 at *
            have i1 : (q : Int) < (r : Int) + 1 := by omega
            have i2 : ¬ (q : Int) = (r : Int) + 1 := by omega
            have i3 : ((q : Int) == (r : Int) + 1) = false := by rw [beq_eq_false_iff_ne]; exact i2
            have i4 : 0 ≤ (g : Int) + 1 - 1 := by omega
            have i5 : (g : Int) + 1 - 1 = (g : Int) := by omega
            have i6 : (g : Int) < (N : Int) := by omega
            by_cases hqd : q < d
            · obtain rfl := f5 hqd
              clear f5 f6
              go_wp2_with fail
              go_quiet (fail)
              go_wp2_with fail
              go_roundw
              case rel => exact ⟨q + 1, by omega, by go_num, Lib.hid (by first | exact ⟨_, rfl⟩ | exact ⟨_, World.drewN_drewN _ _ _⟩)⟩
              case measure => simp [intOf]; omega
            · have hlt2 := f6 (by omega)
              clear f5 f6
              have hne : (v1 == v2) = false := by rw [beq_eq_false_iff_ne]; omega
              have hnl : ¬ v1 < v2 := by omega
              go_wp2_with fail
              go_quiet (fail)
              go_wp2_with fail
              go_quiet (fail)
              go_wp2_with fail
              go_roundw
              case rel => exact ⟨g + 1 + 1, by omega, by go_num, Lib.hid (by first | exact ⟨_, rfl⟩ | exact ⟨_, World.drewN_drewN _ _ _⟩)⟩
              case measure => simp [intOf]; omega
      · obtain rfl : k = N := by omega
        go_wp2_with fail
        refine (wakes26 _).mono ?_
        rintro e w2 ⟨rfl, hb⟩
        go_wp2_with fail
        go_ret
        have h1 := below_drewN HB.out j
        exact ⟨rfl, h1.trans (hb.mono h1.size)⟩
end Go.Proofs.Ytmaofhbnmkcimaa
